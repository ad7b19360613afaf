/- A screen stays valid and keeps its size whatever is applied to it, and its history stays within its limit: the law FnScreen returns true for all bytes, and its arguments read afterwards as they read before. The row lists the two tables of utf8, tied to the program's text. No conditions. -/
import Derived.Test.YtjmpgeffkdjpdaaGreatDoorPTze
import Derived.Laws.IdiomStrings
import Derived.Test.YtjmpgeffkdjpdaaGreatDoorRows
import Derived.ProofKit
import Derived.Below
import Derived.OpenShut
import Derived.Carry
import Derived.Lib.SmallJoins
import Derived.Deep.Slices
import Derived.Test.YtjmpgeffkdjpdaaGreatDoorTie
import Derived.Test.YtjmpgeffkdjpdaaGreatDoorCards
namespace Go.Proofs.YtjmpgeffkdjpdaaGreatDoor
set_option linter.unusedVariables false
set_option linter.unusedSimpArgs false
set_option maxRecDepth 100000
set_option maxHeartbeats 16000000
section
open Go.RowKit
theorem convT {a : Option Addr} {ca : Nat} {xs : List UInt8} {w : World} (ha : Sl byteE 1 w a xs) : (convert 22 9 (.slice a xs.length ca)).run Tryz.prog w = .ok (.string (strOf xs)) w := convS ha
theorem l04Bytes_c (s : Scr) (HO : ScrOK s) (ac : Option Addr) (cc : Nat) (ah : Option Addr) (dh : Nat) (w : World) (h : ScrS s ac ah w) :
    Calls Tryz.prog 62 #[scrV s ac cc ah dh] w fun e w' => e = .returned (.string (strOf (scrText s.i))) ∧ Below w.heap.size w w' := by
  obtain ⟨ha, hb⟩ := id h
  have HRS := Lib.hid h
  unfold scrV
  have HA := Lib.hid ha
  have HBB := Lib.hid hb
  have HOK := Lib.hid HO
  have HBS := Lib.hid ((scrB_iff _).1 HO.b)
  have HN9 : Hid (∀ x ∈ nineL s.i, -1 ≤ x ∧ x ≤ 1099511627775) := Lib.hid (fun x hx => by have := HBS.out.nine x hx; omega)
  obtain ⟨NL, hNL⟩ : ∃ t, numL (nineL s.i) = t := ⟨_, rfl⟩
  obtain ⟨HL, hHL⟩ : ∃ t, fldL s.hist = t := ⟨_, rfl⟩
  obtain ⟨N9, hN9⟩ : ∃ t, strOf NL = t := ⟨_, rfl⟩
  obtain ⟨HH, hHH⟩ : ∃ t, strOf HL = t := ⟨_, rfl⟩
  have hnl : NL.length ≤ 27 := by rw [← hNL, numL_length]; simp [nineL]
  have hhl : HL.length ≤ 600 := by rw [← hHL]; have := HBS.out.histLen; simp only [Scr.i] at this; omega
  have HNU : Hid (∀ W a, Sl intE 1 W a (nineL s.i) → Calls Tryz.prog 96 #[.slice a 9 9] W (FreshR byteE 5 1 W NL)) := Lib.hid (fun W a h => by rw [← hNL]; exact l02Numbers_c a 9 (nineL s.i) W h (by simp [nineL]) HN9.out)
  have HFI : Hid (∀ W, Below w.heap.size w W → Calls Tryz.prog 97 #[.slice ah s.hist.length dh] W (FreshR byteE 5 1 W HL)) := Lib.hid (fun W h => by
    rw [← hHL]
    exact l02Fields_c ah dh s.hist W (HBB.out.keep h) (by have := HOK.out.hn; omega) (fun r hr => by have := HOK.out.hs r hr; omega))
  have HFS : Hid (∀ r ∈ N9 :: s.title :: HH :: rowsL s.i s.h, r.size ≤ 600) := Lib.hid (by
    rw [← hN9, ← hHH, ← hNL, ← hHL]
    exact HBS.out.fs)
  have HX : Hid (scrText s.i = fldL (N9 :: s.title :: HH :: rowsL s.i s.h)) := Lib.hid (by rw [← hN9, ← hHH, ← hNL, ← hHL]; rfl)
  have HNS := Lib.hid hN9
  have HHS := Lib.hid hHH
  rw [HX.out]
  clear ha hb HO hN9 hHH hNL hHL h
  obtain ⟨i0, hi, hz0, hz1, hz2⟩ := info_parts Tryz.infoString
  go_enter Tryz.func62, Tryz.ntmps62
  go_upto_region 1 with fail
  obtain ⟨x0, hx0⟩ : ∃ x, w.alloc (.cells #[.int .i64 (s.w : Int), .int .i64 (s.h : Int), .int .i64 (s.x : Int), .int .i64 (s.y : Int), .int .i64 (s.look : Int), .int .i64 (s.top : Int), .int .i64 (s.bot : Int), .int .i64 (s.sx : Int), .int .i64 (s.sy : Int), .string s.title, .slice ac s.cells.length cc, .slice ah s.hist.length dh] 26) = x := ⟨_, rfl⟩
  have HB0 : Hid (Below w.heap.size w x0) := Lib.hid (by rw [← hx0]; exact (Below.refl _ _).alloc (Nat.le_refl _) _)
  have k_0 : x0.cell? ⟨w.heap.size, 0, none⟩ = some (.int .i64 (s.w : Int)) := by rw [← hx0]; simp [go_sem]
  have k_1 : x0.cell? ⟨w.heap.size, 1, none⟩ = some (.int .i64 (s.h : Int)) := by rw [← hx0]; simp [go_sem]
  have k_2 : x0.cell? ⟨w.heap.size, 2, none⟩ = some (.int .i64 (s.x : Int)) := by rw [← hx0]; simp [go_sem]
  have k_3 : x0.cell? ⟨w.heap.size, 3, none⟩ = some (.int .i64 (s.y : Int)) := by rw [← hx0]; simp [go_sem]
  have k_4 : x0.cell? ⟨w.heap.size, 4, none⟩ = some (.int .i64 (s.look : Int)) := by rw [← hx0]; simp [go_sem]
  have k_5 : x0.cell? ⟨w.heap.size, 5, none⟩ = some (.int .i64 (s.top : Int)) := by rw [← hx0]; simp [go_sem]
  have k_6 : x0.cell? ⟨w.heap.size, 6, none⟩ = some (.int .i64 (s.bot : Int)) := by rw [← hx0]; simp [go_sem]
  have k_7 : x0.cell? ⟨w.heap.size, 7, none⟩ = some (.int .i64 (s.sx : Int)) := by rw [← hx0]; simp [go_sem]
  have k_8 : x0.cell? ⟨w.heap.size, 8, none⟩ = some (.int .i64 (s.sy : Int)) := by rw [← hx0]; simp [go_sem]
  have k_9 : x0.cell? ⟨w.heap.size, 9, none⟩ = some (.string s.title) := by rw [← hx0]; simp [go_sem]
  have k_10 : x0.cell? ⟨w.heap.size, 10, none⟩ = some (.slice ac s.cells.length cc) := by rw [← hx0]; simp [go_sem]
  have k_11 : x0.cell? ⟨w.heap.size, 11, none⟩ = some (.slice ah s.hist.length dh) := by rw [← hx0]; simp [go_sem]
  have k_l : w.heap.size < x0.heap.size := by rw [← hx0]; simp
  have HXS : Hid (x0.heap.size = w.heap.size + 1) := Lib.hid (by rw [← hx0]; simp)
  rw [hx0]
  clear hx0
  have HSB : Hid (∀ x, Below x0.heap.size x0 x → x.cell? ⟨w.heap.size, 0, none⟩ = some (.int .i64 (s.w : Int)) ∧ x.cell? ⟨w.heap.size, 1, none⟩ = some (.int .i64 (s.h : Int)) ∧ x.cell? ⟨w.heap.size, 2, none⟩ = some (.int .i64 (s.x : Int)) ∧ x.cell? ⟨w.heap.size, 3, none⟩ = some (.int .i64 (s.y : Int)) ∧ x.cell? ⟨w.heap.size, 4, none⟩ = some (.int .i64 (s.look : Int)) ∧ x.cell? ⟨w.heap.size, 5, none⟩ = some (.int .i64 (s.top : Int)) ∧ x.cell? ⟨w.heap.size, 6, none⟩ = some (.int .i64 (s.bot : Int)) ∧ x.cell? ⟨w.heap.size, 7, none⟩ = some (.int .i64 (s.sx : Int)) ∧ x.cell? ⟨w.heap.size, 8, none⟩ = some (.int .i64 (s.sy : Int)) ∧ x.cell? ⟨w.heap.size, 9, none⟩ = some (.string s.title) ∧ x.cell? ⟨w.heap.size, 11, none⟩ = some (.slice ah s.hist.length dh)) := Lib.hid (fun x h => ⟨(h.cell (p := ⟨w.heap.size, 0, none⟩) k_l).trans k_0, (h.cell (p := ⟨w.heap.size, 1, none⟩) k_l).trans k_1, (h.cell (p := ⟨w.heap.size, 2, none⟩) k_l).trans k_2, (h.cell (p := ⟨w.heap.size, 3, none⟩) k_l).trans k_3, (h.cell (p := ⟨w.heap.size, 4, none⟩) k_l).trans k_4, (h.cell (p := ⟨w.heap.size, 5, none⟩) k_l).trans k_5, (h.cell (p := ⟨w.heap.size, 6, none⟩) k_l).trans k_6, (h.cell (p := ⟨w.heap.size, 7, none⟩) k_l).trans k_7, (h.cell (p := ⟨w.heap.size, 8, none⟩) k_l).trans k_8, (h.cell (p := ⟨w.heap.size, 9, none⟩) k_l).trans k_9, (h.cell (p := ⟨w.heap.size, 11, none⟩) k_l).trans k_11⟩)
  have hS0 := HSB.out x0 (Below.refl _ _)
  have HSX : Hid (∀ x, Below x0.heap.size x0 x → x.cell? ⟨w.heap.size, 0, none⟩ = some (.int .i64 (s.w : Int)) ∧ x.cell? ⟨w.heap.size, 1, none⟩ = some (.int .i64 (s.h : Int)) ∧ x.cell? ⟨w.heap.size, 2, none⟩ = some (.int .i64 (s.x : Int)) ∧ x.cell? ⟨w.heap.size, 3, none⟩ = some (.int .i64 (s.y : Int)) ∧ x.cell? ⟨w.heap.size, 4, none⟩ = some (.int .i64 (s.look : Int)) ∧ x.cell? ⟨w.heap.size, 5, none⟩ = some (.int .i64 (s.top : Int)) ∧ x.cell? ⟨w.heap.size, 6, none⟩ = some (.int .i64 (s.bot : Int)) ∧ x.cell? ⟨w.heap.size, 7, none⟩ = some (.int .i64 (s.sx : Int)) ∧ x.cell? ⟨w.heap.size, 8, none⟩ = some (.int .i64 (s.sy : Int)) ∧ x.cell? ⟨w.heap.size, 9, none⟩ = some (.string s.title) ∧ x.cell? ⟨w.heap.size, 10, none⟩ = some (.slice ac s.cells.length cc) ∧ x.cell? ⟨w.heap.size, 11, none⟩ = some (.slice ah s.hist.length dh)) := Lib.hid (fun x h => ⟨(h.cell (p := ⟨w.heap.size, 0, none⟩) k_l).trans k_0, (h.cell (p := ⟨w.heap.size, 1, none⟩) k_l).trans k_1, (h.cell (p := ⟨w.heap.size, 2, none⟩) k_l).trans k_2, (h.cell (p := ⟨w.heap.size, 3, none⟩) k_l).trans k_3, (h.cell (p := ⟨w.heap.size, 4, none⟩) k_l).trans k_4, (h.cell (p := ⟨w.heap.size, 5, none⟩) k_l).trans k_5, (h.cell (p := ⟨w.heap.size, 6, none⟩) k_l).trans k_6, (h.cell (p := ⟨w.heap.size, 7, none⟩) k_l).trans k_7, (h.cell (p := ⟨w.heap.size, 8, none⟩) k_l).trans k_8, (h.cell (p := ⟨w.heap.size, 9, none⟩) k_l).trans k_9, (h.cell (p := ⟨w.heap.size, 10, none⟩) k_l).trans k_10, (h.cell (p := ⟨w.heap.size, 11, none⟩) k_l).trans k_11⟩)
  have HSR : Hid (∀ x, Below x0.heap.size x0 x → ScrS s ac ah x ∧ w.heap.size < x.heap.size) := Lib.hid (fun x h => ⟨HRS.out.below (HB0.out.trans (h.mono HB0.out.size)), Nat.lt_of_lt_of_le k_l h.size⟩)
  go_cut [3] (fun v wx => ∃ g, v = .slice (some ⟨g, 0, none⟩) 3 3 ∧ Hid (Below x0.heap.size x0 wx ∧ FreshIn strE 9 1 (w.heap.size + 1) wx.heap.size (.slice (some ⟨g, 0, none⟩) 3 3) [N9, s.title, HH] wx))
  case first =>
    refine wp_region_O (fun w' => w'.cell? ⟨w.heap.size, 0, none⟩ = some (.int .i64 (s.w : Int)) ∧ w'.cell? ⟨w.heap.size, 1, none⟩ = some (.int .i64 (s.h : Int)) ∧ w'.cell? ⟨w.heap.size, 2, none⟩ = some (.int .i64 (s.x : Int)) ∧ w'.cell? ⟨w.heap.size, 3, none⟩ = some (.int .i64 (s.y : Int)) ∧ w'.cell? ⟨w.heap.size, 4, none⟩ = some (.int .i64 (s.look : Int)) ∧ w'.cell? ⟨w.heap.size, 5, none⟩ = some (.int .i64 (s.top : Int)) ∧ w'.cell? ⟨w.heap.size, 6, none⟩ = some (.int .i64 (s.bot : Int)) ∧ w'.cell? ⟨w.heap.size, 7, none⟩ = some (.int .i64 (s.sx : Int)) ∧ w'.cell? ⟨w.heap.size, 8, none⟩ = some (.int .i64 (s.sy : Int)) ∧ w'.cell? ⟨w.heap.size, 9, none⟩ = some (.string s.title) ∧ w'.cell? ⟨w.heap.size, 11, none⟩ = some (.slice ah s.hist.length dh)) [] [0,1,2,3,4,5,6,7,8,9,10,11,12,13,14,15,16,17,21,22,23,24,18,19,20,25,26,27,28] ?_
    iterate 22 (first | refine oW (h := ?_) | refine oL (hS := hS0) (h := ?_))
    refine oO (hS := .inr hS0) (h := ?_)
    intro K' hK
    go_simp
    obtain ⟨x1, hx1⟩ : ∃ x, (x0.alloc (.cells #[.int .i64 (s.w : Int), .int .i64 (s.h : Int), .int .i64 (s.x : Int), .int .i64 (s.y : Int), .int .i64 (s.look : Int), .int .i64 (s.top : Int), .int .i64 (s.bot : Int), .int .i64 (s.sx : Int), .int .i64 (s.sy : Int)] 3)).drew = x := ⟨_, rfl⟩
    have HB1 : Hid (Below x0.heap.size x0 x1) := Lib.hid (by rw [← hx1]; exact ((Below.refl _ _).alloc (Nat.le_refl _) _).drew)
    have HS1 : Hid (Sl intE 1 x1 (some ⟨x0.heap.size, 0, none⟩) (nineL s.i)) := Lib.hid (by rw [← hx1]; exact boxL' (enc := intE) (w := x0.drew) (fun _ => rfl) (nineL s.i) _ _ (by simp [nineL, intE, Scr.i]) _ (by simp))
    rw [hx1]
    clear hx1
    refine oN hK (hS := .inr (HSB.out x1 HB1.out)) (h := ?_)
    clear hK K'
    refine oO (hS := .inr (HSB.out x1 HB1.out)) (h := ?_)
    intro K' hK
    go_simp
    go_at_call 96
    refine (HNU.out _ _ HS1.out).mono ?_
    rintro e x2 ⟨v2, rfl, hf2, hbc⟩
    obtain ⟨a2, c2, rfl, hc2, ho2⟩ := id hf2
    have HT : Hid (Sl byteE 1 x2 a2 NL) := Lib.hid (Sl.of_own (fun _ => rfl) ho2)
    have HB2 : Hid (Below x0.heap.size x0 x2) := Lib.hid (HB1.out.trans (hbc.mono HB1.out.size))
    clear hf2 hc2 ho2 hbc
    refine oN hK (hS := .inr (HSB.out x2 HB2.out)) (h := ?_)
    clear hK K'
    refine oB (hS := (HSB.out x2 HB2.out)) (rs := [20, 25]) (by kernel_rfl) (by simp) ?_
    intro j hj
    simp only [List.mem_cons, List.not_mem_nil, or_false] at hj
    rcases hj with rfl | rfl
    · skip
      have hcv : (convert 22 9 (.slice a2 NL.length c2)).run Tryz.prog x2 = .ok (.string N9) x2 := by rw [← HNS.out]; exact convT HT.out
      refine ⟨_, [25,26,27,28], rfl, by kernel_rfl, rfl, fun K' hK => ?_⟩
      go_simp
      try simp only [hcv, Result.andThen_ok]
      clear hcv
      refine oN hK (hS := .inr (HSB.out x2 HB2.out)) (h := ?_)
      clear hK K'
      refine oO (hS := .inr (HSB.out x2 HB2.out)) (h := ?_)
      intro K' hK
      go_simp
      go_at_call 97
      refine (HFI.out _ (HB0.out.trans (HB2.out.mono HB0.out.size))).mono ?_
      rintro e x3 ⟨v3, rfl, hf3, hbc⟩
      obtain ⟨a3, c3, rfl, hc3, ho3⟩ := id hf3
      have HT3 : Hid (Sl byteE 1 x3 a3 HL) := Lib.hid (Sl.of_own (fun _ => rfl) ho3)
      have HB3 : Hid (Below x0.heap.size x0 x3) := Lib.hid (HB2.out.trans (hbc.mono HB2.out.size))
      have HT2 : Hid (Sl byteE 1 x3 a2 NL) := Lib.hid (HT.out.keep hbc)
      clear hf3 hc3 ho3 hbc
      refine oN hK (hS := .inr (HSB.out x3 HB3.out)) (h := ?_)
      clear hK K'
      have hcv : (convert 22 9 (.slice a3 HL.length c3)).run Tryz.prog x3 = .ok (.string HH) x3 := by rw [← HHS.out]; exact convT HT3.out
      refine oO (hS := .inr (HSB.out x3 HB3.out)) (h := ?_)
      intro K' hK
      go_simp
      try simp only [hcv, Result.andThen_ok]
      clear hcv
      refine oN hK (hS := .inr (HSB.out x3 HB3.out)) (h := ?_)
      clear hK K'
      refine oO (hS := .inr (HSB.out x3 HB3.out)) (h := ?_)
      intro K' hK
      go_simp
      obtain ⟨x4, hx4⟩ : ∃ x, x3.alloc (.cells #[.string N9, .string s.title, .string HH] 9) = x := ⟨_, rfl⟩
      have HB4 : Hid (Below x0.heap.size x0 x4) := Lib.hid (by rw [← hx4]; exact HB3.out.alloc HB3.out.size _)
      have HF4 : Hid (FreshIn strE 9 1 (w.heap.size + 1) x4.heap.size (.slice (some ⟨x3.heap.size, 0, none⟩) 3 3) [N9, s.title, HH] x4) := Lib.hid (by rw [← hx4]; exact FreshIn.of_owns (cs := [.string N9, .string s.title, .string HH]) ⟨rfl, .inr ⟨x3.heap.size, 3, _, rfl, by have := HB3.out.size; omega, heap_alloc_new x3 _, Nat.le_refl _, by unfold maxLen; omega, rfl, by simp⟩⟩ rfl (by simp [strE]) (by simp))
      rw [hx4]
      clear hx4
      refine oN hK (hS := .inr (HSB.out x4 HB4.out)) (h := ?_)
      clear hK K'
      refine oW (h := ?_)
      refine oD ?_
      go_wp2_with fail
      go_meet
      exact ⟨_, rfl, Lib.hid ⟨HB4.out, HF4.out⟩⟩
    · skip
      refine ⟨_, [20,26,27,28], rfl, by kernel_rfl, rfl, fun K' hK => ?_⟩
      go_simp
      go_at_call 97
      refine (HFI.out _ (HB0.out.trans (HB2.out.mono HB0.out.size))).mono ?_
      rintro e x3 ⟨v3, rfl, hf3, hbc⟩
      obtain ⟨a3, c3, rfl, hc3, ho3⟩ := id hf3
      have HT3 : Hid (Sl byteE 1 x3 a3 HL) := Lib.hid (Sl.of_own (fun _ => rfl) ho3)
      have HB3 : Hid (Below x0.heap.size x0 x3) := Lib.hid (HB2.out.trans (hbc.mono HB2.out.size))
      have HT2 : Hid (Sl byteE 1 x3 a2 NL) := Lib.hid (HT.out.keep hbc)
      clear hf3 hc3 ho3 hbc
      refine oN hK (hS := .inr (HSB.out x3 HB3.out)) (h := ?_)
      clear hK K'
      refine oB (hS := (HSB.out x3 HB3.out)) (rs := [20, 26]) (by kernel_rfl) (by simp) ?_
      intro j hj
      simp only [List.mem_cons, List.not_mem_nil, or_false] at hj
      rcases hj with rfl | rfl
      · skip
        have hcv : (convert 22 9 (.slice a2 NL.length c2)).run Tryz.prog x3 = .ok (.string N9) x3 := by rw [← HNS.out]; exact convT HT2.out
        refine ⟨_, [26,27,28], rfl, by kernel_rfl, rfl, fun K' hK => ?_⟩
        go_simp
        try simp only [hcv, Result.andThen_ok]
        clear hcv
        refine oN hK (hS := .inr (HSB.out x3 HB3.out)) (h := ?_)
        clear hK K'
        have hcv : (convert 22 9 (.slice a3 HL.length c3)).run Tryz.prog x3 = .ok (.string HH) x3 := by rw [← HHS.out]; exact convT HT3.out
        refine oO (hS := .inr (HSB.out x3 HB3.out)) (h := ?_)
        intro K' hK
        go_simp
        try simp only [hcv, Result.andThen_ok]
        clear hcv
        refine oN hK (hS := .inr (HSB.out x3 HB3.out)) (h := ?_)
        clear hK K'
        refine oO (hS := .inr (HSB.out x3 HB3.out)) (h := ?_)
        intro K' hK
        go_simp
        obtain ⟨x4, hx4⟩ : ∃ x, x3.alloc (.cells #[.string N9, .string s.title, .string HH] 9) = x := ⟨_, rfl⟩
        have HB4 : Hid (Below x0.heap.size x0 x4) := Lib.hid (by rw [← hx4]; exact HB3.out.alloc HB3.out.size _)
        have HF4 : Hid (FreshIn strE 9 1 (w.heap.size + 1) x4.heap.size (.slice (some ⟨x3.heap.size, 0, none⟩) 3 3) [N9, s.title, HH] x4) := Lib.hid (by rw [← hx4]; exact FreshIn.of_owns (cs := [.string N9, .string s.title, .string HH]) ⟨rfl, .inr ⟨x3.heap.size, 3, _, rfl, by have := HB3.out.size; omega, heap_alloc_new x3 _, Nat.le_refl _, by unfold maxLen; omega, rfl, by simp⟩⟩ rfl (by simp [strE]) (by simp))
        rw [hx4]
        clear hx4
        refine oN hK (hS := .inr (HSB.out x4 HB4.out)) (h := ?_)
        clear hK K'
        refine oW (h := ?_)
        refine oD ?_
        go_wp2_with fail
        go_meet
        exact ⟨_, rfl, Lib.hid ⟨HB4.out, HF4.out⟩⟩
      · skip
        have hcv : (convert 22 9 (.slice a3 HL.length c3)).run Tryz.prog x3 = .ok (.string HH) x3 := by rw [← HHS.out]; exact convT HT3.out
        refine ⟨_, [20,27,28], rfl, by kernel_rfl, rfl, fun K' hK => ?_⟩
        go_simp
        try simp only [hcv, Result.andThen_ok]
        clear hcv
        refine oN hK (hS := .inr (HSB.out x3 HB3.out)) (h := ?_)
        clear hK K'
        have hcv : (convert 22 9 (.slice a2 NL.length c2)).run Tryz.prog x3 = .ok (.string N9) x3 := by rw [← HNS.out]; exact convT HT2.out
        refine oO (hS := .inr (HSB.out x3 HB3.out)) (h := ?_)
        intro K' hK
        go_simp
        try simp only [hcv, Result.andThen_ok]
        clear hcv
        refine oN hK (hS := .inr (HSB.out x3 HB3.out)) (h := ?_)
        clear hK K'
        refine oO (hS := .inr (HSB.out x3 HB3.out)) (h := ?_)
        intro K' hK
        go_simp
        obtain ⟨x4, hx4⟩ : ∃ x, x3.alloc (.cells #[.string N9, .string s.title, .string HH] 9) = x := ⟨_, rfl⟩
        have HB4 : Hid (Below x0.heap.size x0 x4) := Lib.hid (by rw [← hx4]; exact HB3.out.alloc HB3.out.size _)
        have HF4 : Hid (FreshIn strE 9 1 (w.heap.size + 1) x4.heap.size (.slice (some ⟨x3.heap.size, 0, none⟩) 3 3) [N9, s.title, HH] x4) := Lib.hid (by rw [← hx4]; exact FreshIn.of_owns (cs := [.string N9, .string s.title, .string HH]) ⟨rfl, .inr ⟨x3.heap.size, 3, _, rfl, by have := HB3.out.size; omega, heap_alloc_new x3 _, Nat.le_refl _, by unfold maxLen; omega, rfl, by simp⟩⟩ rfl (by simp [strE]) (by simp))
        rw [hx4]
        clear hx4
        refine oN hK (hS := .inr (HSB.out x4 HB4.out)) (h := ?_)
        clear hK K'
        refine oW (h := ?_)
        refine oD ?_
        go_wp2_with fail
        go_meet
        exact ⟨_, rfl, Lib.hid ⟨HB4.out, HF4.out⟩⟩
  case rest =>
    obtain ⟨g, rfl, HC⟩ := hcut
    have HXS : Hid (x0.heap.size = w.heap.size + 1) := HXS
    have k_lx : w.heap.size < x0.heap.size := k_l
    clear hS0 HSB k_0 k_1 k_2 k_3 k_4 k_5 k_6 k_7 k_8 k_9 k_10 k_11 k_l
    obtain ⟨ht, hht⟩ : ∃ n, s.h = n := ⟨_, rfl⟩
    have hh2 : ht ≤ 10 := by rw [← hht]; exact HOK.out.h2
    have HHT := Lib.hid hht
    obtain ⟨e_1, hzc⟩ : wc.cell? ⟨w.heap.size, 1, none⟩ = some (.int .i64 (ht : Int)) ∧ x0.heap.size ≤ wc.heap.size := ⟨by rw [← hht]; exact (HSX.out wc HC.out.1).2.1, HC.out.1.size⟩
    have HCL : Hid (∀ k, k < s.h → ∀ W, ScrS s ac ah W → Calls Tryz.prog 98 #[scrV s ac cc ah dh, .int .i64 k] W fun e w' => e = .returned (.string (strOf (celL (rowI s.i k)))) ∧ Below W.heap.size W w') := Lib.hid (fun k hk W hW => l04Cells_c s ac cc ah dh k W hW (by have := HOK.out.w1; omega) HOK.out.w2 HOK.out.h2 hk HOK.out.cn HOK.out.cs)
    unfold scrV at HCL
    rw [hht] at HSX HCL ⊢
    clear hht
    go_wp2_with fail
    go_loopw [3, 4] (fun v i wr => ∃ (k : Nat) (av : Option Addr) (cv : Nat) (L : List ByteArray), k ≤ ht ∧ i = .int .i64 k ∧ v = .slice av L.length cv ∧ L.length ≤ 13 ∧ Hid (L = [N9, s.title, HH] ++ rowsL s.i k ∧ FreshIn strE 9 1 (w.heap.size + 1) wr.heap.size (.slice av L.length cv) L wr ∧ Below x0.heap.size x0 wr)) (fun _ i _ => ht - (intOf i).toNat)
    case atStart => exact ⟨0, _, _, [N9, s.title, HH], Nat.zero_le _, rfl, rfl, by simp, Lib.hid ⟨by simp [rowsL], HC.out.2, HC.out.1⟩⟩
    case round =>
      obtain ⟨k, av, cv, L, hk, rfl, rfl, hL13, HQ⟩ := hrel
      obtain ⟨k_0, k_1, k_2, k_3, k_4, k_5, k_6, k_7, k_8, k_9, k_10, k_11⟩ := HSX.out wr HQ.out.2.2
      by_cases hlt : k < ht
      · have hlt' : (k : Int) < (ht : Int) := by omega
        have HRW : Hid (rowsL s.i (k + 1) = rowsL s.i k ++ [strOf (celL (rowI s.i k))]) := Lib.hid (by simp [rowsL, List.range_succ])
        obtain ⟨R, hR⟩ : ∃ R, strOf (celL (rowI s.i k)) = R := ⟨_, rfl⟩
        have HCT : Hid (∀ W, Below wr.heap.size wr W → Calls Tryz.prog 98 #[.agg #[.int .i64 (s.w : Int), .int .i64 (ht : Int), .int .i64 (s.x : Int), .int .i64 (s.y : Int), .int .i64 (s.look : Int), .int .i64 (s.top : Int), .int .i64 (s.bot : Int), .int .i64 (s.sx : Int), .int .i64 (s.sy : Int), .string s.title, .slice ac s.cells.length cc, .slice ah s.hist.length dh], .int .i64 k] W fun e w' => e = .returned (.string R) ∧ Below W.heap.size W w') := Lib.hid (fun W hW => by rw [← hR]; exact HCL.out k hlt W (((HSR.out wr HQ.out.2.2).1).below hW))
        rw [hR] at HRW
        clear hR
        have HZ : Hid (L.length + 1 ≤ 13) := Lib.hid (by rw [HQ.out.1]; simp [rowsL]; omega)
        go_upto_region 5 with fail
        go_wp2_with fail
        refine (HCT.out wr (Below.refl _ _)).mono ?_
        rintro e w2 ⟨rfl, hb2⟩
        have HB2' := Lib.hid hb2
        have hzq := hb2.size
        have hzb := HQ.out.2.2.size
        have HF2 : Hid (FreshIn strE 9 1 (w.heap.size + 1) w2.heap.size (.slice av L.length cv) L w2) := Lib.hid ((HQ.out.2.1.below hb2).mono (Nat.le_refl _) hzq)
        clear hb2
        go_wp2_with (first
          | (skip
             at_builtin
             refine wpList_append_fresh rfl (.tmp 39) (.tmp 43) 24 24 rfl (w.heap.size + 1) (w2.heap.size) 9 i0 (.string ⟨#[]⟩) 1 16 Tryz.underlying24 hi hz0 hz1 hz2 rfl (by decide) (.slice av L.length cv) (L) rfl (HF2.out.alloc _) _ ([R]) rfl (Src.ofBox (enc := strE) (w := w2) Tryz.underlying24 (fun _ => rfl) strOneC R #[.string R] 9 rfl w2.heap.size rfl) (by (try simp) <;> (try omega)) (by (try simp) <;> (try omega)) ?_
             intro a3 c3 w3 L3 hL3 hf3 hm3
             skip))
        go_roundw
        case rel =>
          have e3 : L3 = [N9, s.title, HH] ++ rowsL s.i (k + 1) := by rw [hL3.out, HQ.out.1, HRW.out, List.append_assoc]
          refine ⟨k + 1, a3, c3, L3, by omega, by go_num, rfl, by rw [hL3.out, List.length_append]; exact HZ.out, Lib.hid ⟨e3, hf3.1.here, ?_⟩⟩
          exact (HQ.out.2.2.trans ((HB2'.out.alloc hzq _).mono hzb)).trans (hm3.below (B := x0.heap.size) (by have := HXS.out; omega) (by simp; omega))
        case measure => simp [intOf]; omega
      · obtain rfl : k = ht := by omega
        have HLE : Hid (L = N9 :: s.title :: HH :: rowsL s.i s.h) := Lib.hid (by rw [HQ.out.1, HHT.out]; rfl)
        obtain ⟨T, hT⟩ : ∃ T, fldL L = T := ⟨_, rfl⟩
        have HT : Hid (fldL (N9 :: s.title :: HH :: rowsL s.i s.h) = T) := Lib.hid (by rw [← HLE.out]; exact hT)
        have HFC : Hid (Calls Tryz.prog 97 #[.slice av L.length cv] wr (FreshR byteE 5 1 wr T)) := Lib.hid (by
          rw [← hT]
          refine l02Fields_c av cv L wr (HQ.out.2.1.sl (fun _ => rfl)) (by omega) (fun r hr => ?_)
          rw [HLE.out] at hr
          have := HFS.out r hr
          omega)
        clear hT
        go_wp2_with fail
        refine HFC.out.mono ?_
        rintro e w2 ⟨v2, rfl, hf2, hb2⟩
        obtain ⟨a2, c2, rfl, hc2, ho2⟩ := id hf2
        have HT2 : Hid (Sl byteE 1 w2 a2 T) := Lib.hid (Sl.of_own (fun _ => rfl) ho2)
        have HB2' := Lib.hid hb2
        have hcv : (convert 22 9 (.slice a2 T.length c2)).run Tryz.prog w2 = .ok (.string (strOf T)) w2 := convT HT2.out
        clear hf2 hc2 ho2 hb2
        go_wp2_with fail
        go_ret
        exact ⟨by rw [HT.out]; rfl, HB0.out.trans ((HQ.out.2.2.trans (HB2'.out.mono HQ.out.2.2.size)).mono HB0.out.size)⟩
end
section
open Go.RowKit
noncomputable def cvC (s : ByteArray) (w : World) : Nat := grownCap w s.size 0 5
noncomputable def cvW (s : ByteArray) (w : World) : World := w.drew.alloc (.cells (bytesRow s (cvC s w)) 5 ((bytesRow s (cvC s w)).size, (bytesRow s (cvC s w)).size + 1))
theorem cv_run (s : ByteArray) (w : World) : (convert 9 22 (.string s)).run Tryz.prog w = .ok (.slice (some ⟨w.heap.size, 0, none⟩) s.size (cvC s w)) (cvW s w) :=
  run_bytes_of_string w 9 22 5 s Tryz.underlying9 Tryz.underlying22 Tryz.underlying5
theorem cvW_below (s : ByteArray) (w : World) {B : Nat} (h : B ≤ w.heap.size) : Below B w (cvW s w) := ((Below.refl B w).drew).alloc h _
theorem cvW_sl (s : ByteArray) (w : World) : Sl byteE 1 (cvW s w) (some ⟨w.heap.size, 0, none⟩) s.data.toList := by
  refine .inr ⟨w.heap.size, 0, rfl, by simp [cvW], fun i hi j hj => ?_⟩
  obtain rfl : j = 0 := by omega
  have h1 : (cvW s w).cell? ⟨w.heap.size, 0 + i * 1 + 0, none⟩ = (bytesRow s (cvC s w))[0 + i * 1 + 0]? :=
    cell_of_row (cvW s w) w.heap.size _ _ _ _ (heap_alloc_new w.drew _)
  rw [h1]
  have h2 := bytesRow_at s (cvC s w) i (by simpa using hi)
  simp only [Nat.zero_add, Nat.mul_one, Nat.add_zero]
  rw [h2]
  simp [byteE]
end
section
open Go.RowKit
def BytesR (l : List UInt8) (w : World) (e : Ending) (w' : World) : Prop :=
  ∃ a c, e = .returned (.tuple #[.slice a l.length c, .int .i64 0]) ∧ Sl byteE 1 w' a l ∧ Below w.heap.size w w'
theorem isScr_c (s : Scr) (HO : ScrOK s) (ac : Option Addr) (cc : Nat) (ah : Option Addr) (dh : Nat) (w : World) (h : ScrS s ac ah w) :
    Calls Tryz.prog 24 #[scrV s ac cc ah dh] w fun e w' => e = .returned (.bool true) ∧ Below w.heap.size w w' := by
  have := isScreen_c s.i ac cc ah dh w h.cs h.hs (by have := HO.cn; have := Nat.mul_le_mul HO.w2 HO.h2; simp only [Scr.i]; omega) (by have := HO.hn; simp only [Scr.i]; omega) (by have := (titB_iff.1 HO.ti).1; simp only [Scr.i]; omega)
  rw [HO.b] at this
  exact this
theorem scrOK_c (s : Scr) (HO : ScrOK s) (ac : Option Addr) (cc : Nat) (ah : Option Addr) (dh : Nat) (w : World) (h : ScrS s ac ah w) :
    Calls Tryz.prog 27 #[scrV s ac cc ah dh] w fun e w' => e = .returned (.bool true) ∧ Below w.heap.size w w' := by
  have := specScreenOK_c s.i ac cc ah dh w h.cs h.hs (by have := HO.cn; have := Nat.mul_le_mul HO.w2 HO.h2; simp only [Scr.i]; omega) (by have := HO.hn; simp only [Scr.i]; omega)
  rw [HO.b] at this
  exact this
theorem specScreenBytes_c (s : Scr) (HO : ScrOK s) (ac : Option Addr) (cc : Nat) (ah : Option Addr) (dh : Nat) (w : World) (h : ScrS s ac ah w) :
    Calls Tryz.prog 30 #[scrV s ac cc ah dh] w (BytesR (scrText s.i) w) := by
  have HR := Lib.hid h
  have HI : Hid (∀ W, ScrS s ac ah W → Calls Tryz.prog 27 #[.agg #[.int .i64 (s.w : Int), .int .i64 (s.h : Int), .int .i64 (s.x : Int), .int .i64 (s.y : Int), .int .i64 (s.look : Int), .int .i64 (s.top : Int), .int .i64 (s.bot : Int), .int .i64 (s.sx : Int), .int .i64 (s.sy : Int), .string s.title, .slice ac s.cells.length cc, .slice ah s.hist.length dh]] W fun e w' => e = .returned (.bool true) ∧ Below W.heap.size W w') := Lib.hid (fun W hW => scrOK_c s HO ac cc ah dh W hW)
  have HT : Hid (∀ W, ScrS s ac ah W → Calls Tryz.prog 62 #[.agg #[.int .i64 (s.w : Int), .int .i64 (s.h : Int), .int .i64 (s.x : Int), .int .i64 (s.y : Int), .int .i64 (s.look : Int), .int .i64 (s.top : Int), .int .i64 (s.bot : Int), .int .i64 (s.sx : Int), .int .i64 (s.sy : Int), .string s.title, .slice ac s.cells.length cc, .slice ah s.hist.length dh]] W fun e w' => e = .returned (.string (strOf (scrText s.i))) ∧ Below W.heap.size W w') := Lib.hid (fun W hW => l04Bytes_c s HO ac cc ah dh W hW)
  unfold scrV
  obtain ⟨l, hl⟩ : ∃ l, scrText s.i = l := ⟨_, rfl⟩
  obtain ⟨S, hS⟩ : ∃ S, strOf l = S := ⟨_, rfl⟩
  rw [hl] at HT ⊢
  rw [hS] at HT
  have HSZ : Hid (S.size = l.length) := Lib.hid (by rw [← hS]; rfl)
  have HSD : Hid (S.data.toList = l) := Lib.hid (by rw [← hS]; exact strOf_data' l)
  clear h HO hl hS
  go_enter Tryz.func30, Tryz.ntmps30
  go_wp2_with fail
  refine (HI.out _ (HR.out.alloc _)).mono ?_
  rintro e w1 ⟨rfl, hb1⟩
  have hzz := hb1.size
  simp only [World.size_alloc] at hzz
  have k_0 : w1.cell? ⟨w.heap.size, 0, none⟩ = some (.int .i64 (s.w : Int)) := kC hb1 (by simp) (by simp [go_sem])
  have k_1 : w1.cell? ⟨w.heap.size, 1, none⟩ = some (.int .i64 (s.h : Int)) := kC hb1 (by simp) (by simp [go_sem])
  have k_2 : w1.cell? ⟨w.heap.size, 2, none⟩ = some (.int .i64 (s.x : Int)) := kC hb1 (by simp) (by simp [go_sem])
  have k_3 : w1.cell? ⟨w.heap.size, 3, none⟩ = some (.int .i64 (s.y : Int)) := kC hb1 (by simp) (by simp [go_sem])
  have k_4 : w1.cell? ⟨w.heap.size, 4, none⟩ = some (.int .i64 (s.look : Int)) := kC hb1 (by simp) (by simp [go_sem])
  have k_5 : w1.cell? ⟨w.heap.size, 5, none⟩ = some (.int .i64 (s.top : Int)) := kC hb1 (by simp) (by simp [go_sem])
  have k_6 : w1.cell? ⟨w.heap.size, 6, none⟩ = some (.int .i64 (s.bot : Int)) := kC hb1 (by simp) (by simp [go_sem])
  have k_7 : w1.cell? ⟨w.heap.size, 7, none⟩ = some (.int .i64 (s.sx : Int)) := kC hb1 (by simp) (by simp [go_sem])
  have k_8 : w1.cell? ⟨w.heap.size, 8, none⟩ = some (.int .i64 (s.sy : Int)) := kC hb1 (by simp) (by simp [go_sem])
  have k_9 : w1.cell? ⟨w.heap.size, 9, none⟩ = some (.string s.title) := kC hb1 (by simp) (by simp [go_sem])
  have k_10 : w1.cell? ⟨w.heap.size, 10, none⟩ = some (.slice ac s.cells.length cc) := kC hb1 (by simp) (by simp [go_sem])
  have k_11 : w1.cell? ⟨w.heap.size, 11, none⟩ = some (.slice ah s.hist.length dh) := kC hb1 (by simp) (by simp [go_sem])
  have HR1 : Hid (ScrS s ac ah w1) := Lib.hid ((HR.out.alloc _).below hb1)
  have HB1 : Hid (Below w.heap.size w w1) := Lib.hid (((Below.refl _ _).alloc (Nat.le_refl _) _).trans (hb1.mono (by simp)))
  clear hb1
  go_wp2_with fail
  refine (HT.out _ HR1.out).mono ?_
  rintro e w2 ⟨rfl, hb2⟩
  have HB2 := Lib.hid hb2
  clear hb2 k_0 k_1 k_2 k_3 k_4 k_5 k_6 k_7 k_8 k_9 k_10 k_11
  have hcv := cv_run S w2
  go_wp2_with fail
  go_ret2
  refine ⟨some ⟨w2.heap.size, 0, none⟩, cvC S w2, by rw [HSZ.out]; rfl, by rw [← HSD.out]; exact cvW_sl S w2, ?_⟩
  exact HB1.out.trans ((HB2.out.mono HB1.out.size).trans (cvW_below S w2 (Nat.le_trans HB1.out.size HB2.out.size)))
theorem sameScreens_c (s t : Scr) (HO : ScrOK s) (HP : ScrOK t) (ac : Option Addr) (cc : Nat) (ah : Option Addr) (dh : Nat) (bc : Option Addr) (ec : Nat) (bh : Option Addr) (fh : Nat) (w : World) (h : ScrS s ac ah w) (k : ScrS t bc bh w) (hst : scrText s.i = scrText t.i) :
    Calls Tryz.prog 10 #[scrV s ac cc ah dh, scrV t bc ec bh fh] w fun e w' => e = .returned (.bool true) ∧ Below w.heap.size w w' := by
  have HR := Lib.hid h
  have HQ := Lib.hid k
  have HT : Hid (∀ W, ScrS s ac ah W → Calls Tryz.prog 30 #[.agg #[.int .i64 (s.w : Int), .int .i64 (s.h : Int), .int .i64 (s.x : Int), .int .i64 (s.y : Int), .int .i64 (s.look : Int), .int .i64 (s.top : Int), .int .i64 (s.bot : Int), .int .i64 (s.sx : Int), .int .i64 (s.sy : Int), .string s.title, .slice ac s.cells.length cc, .slice ah s.hist.length dh]] W (BytesR (scrText s.i) W)) := Lib.hid (fun W hW => specScreenBytes_c s HO ac cc ah dh W hW)
  have HU : Hid (∀ W, ScrS t bc bh W → Calls Tryz.prog 30 #[.agg #[.int .i64 (t.w : Int), .int .i64 (t.h : Int), .int .i64 (t.x : Int), .int .i64 (t.y : Int), .int .i64 (t.look : Int), .int .i64 (t.top : Int), .int .i64 (t.bot : Int), .int .i64 (t.sx : Int), .int .i64 (t.sy : Int), .string t.title, .slice bc t.cells.length ec, .slice bh t.hist.length fh]] W (BytesR (scrText s.i) W)) := Lib.hid (fun W hW => by rw [hst]; exact specScreenBytes_c t HP bc ec bh fh W hW)
  unfold scrV
  obtain ⟨l, hl⟩ : ∃ l, scrText s.i = l := ⟨_, rfl⟩
  rw [hl] at HT HU
  clear h k HO HP hl hst
  go_enter Tryz.func10, Tryz.ntmps10
  go_wp2_with fail
  refine (HT.out _ ((HR.out.alloc _).alloc _)).mono ?_
  rintro e w1 ⟨a1, c1, rfl, hs1, hb1⟩
  have hzz := hb1.size
  simp only [World.size_alloc] at hzz
  have k_0 : w1.cell? ⟨w.heap.size, 0, none⟩ = some (.int .i64 (s.w : Int)) := kC hb1 (by simp; omega) (by simp [go_sem])
  have k_1 : w1.cell? ⟨w.heap.size, 1, none⟩ = some (.int .i64 (s.h : Int)) := kC hb1 (by simp; omega) (by simp [go_sem])
  have k_2 : w1.cell? ⟨w.heap.size, 2, none⟩ = some (.int .i64 (s.x : Int)) := kC hb1 (by simp; omega) (by simp [go_sem])
  have k_3 : w1.cell? ⟨w.heap.size, 3, none⟩ = some (.int .i64 (s.y : Int)) := kC hb1 (by simp; omega) (by simp [go_sem])
  have k_4 : w1.cell? ⟨w.heap.size, 4, none⟩ = some (.int .i64 (s.look : Int)) := kC hb1 (by simp; omega) (by simp [go_sem])
  have k_5 : w1.cell? ⟨w.heap.size, 5, none⟩ = some (.int .i64 (s.top : Int)) := kC hb1 (by simp; omega) (by simp [go_sem])
  have k_6 : w1.cell? ⟨w.heap.size, 6, none⟩ = some (.int .i64 (s.bot : Int)) := kC hb1 (by simp; omega) (by simp [go_sem])
  have k_7 : w1.cell? ⟨w.heap.size, 7, none⟩ = some (.int .i64 (s.sx : Int)) := kC hb1 (by simp; omega) (by simp [go_sem])
  have k_8 : w1.cell? ⟨w.heap.size, 8, none⟩ = some (.int .i64 (s.sy : Int)) := kC hb1 (by simp; omega) (by simp [go_sem])
  have k_9 : w1.cell? ⟨w.heap.size, 9, none⟩ = some (.string s.title) := kC hb1 (by simp; omega) (by simp [go_sem])
  have k_10 : w1.cell? ⟨w.heap.size, 10, none⟩ = some (.slice ac s.cells.length cc) := kC hb1 (by simp; omega) (by simp [go_sem])
  have k_11 : w1.cell? ⟨w.heap.size, 11, none⟩ = some (.slice ah s.hist.length dh) := kC hb1 (by simp; omega) (by simp [go_sem])
  have q_0 : w1.cell? ⟨w.heap.size + 1, 0, none⟩ = some (.int .i64 (t.w : Int)) := kC hb1 (by simp) (by simp [go_sem])
  have q_1 : w1.cell? ⟨w.heap.size + 1, 1, none⟩ = some (.int .i64 (t.h : Int)) := kC hb1 (by simp) (by simp [go_sem])
  have q_2 : w1.cell? ⟨w.heap.size + 1, 2, none⟩ = some (.int .i64 (t.x : Int)) := kC hb1 (by simp) (by simp [go_sem])
  have q_3 : w1.cell? ⟨w.heap.size + 1, 3, none⟩ = some (.int .i64 (t.y : Int)) := kC hb1 (by simp) (by simp [go_sem])
  have q_4 : w1.cell? ⟨w.heap.size + 1, 4, none⟩ = some (.int .i64 (t.look : Int)) := kC hb1 (by simp) (by simp [go_sem])
  have q_5 : w1.cell? ⟨w.heap.size + 1, 5, none⟩ = some (.int .i64 (t.top : Int)) := kC hb1 (by simp) (by simp [go_sem])
  have q_6 : w1.cell? ⟨w.heap.size + 1, 6, none⟩ = some (.int .i64 (t.bot : Int)) := kC hb1 (by simp) (by simp [go_sem])
  have q_7 : w1.cell? ⟨w.heap.size + 1, 7, none⟩ = some (.int .i64 (t.sx : Int)) := kC hb1 (by simp) (by simp [go_sem])
  have q_8 : w1.cell? ⟨w.heap.size + 1, 8, none⟩ = some (.int .i64 (t.sy : Int)) := kC hb1 (by simp) (by simp [go_sem])
  have q_9 : w1.cell? ⟨w.heap.size + 1, 9, none⟩ = some (.string t.title) := kC hb1 (by simp) (by simp [go_sem])
  have q_10 : w1.cell? ⟨w.heap.size + 1, 10, none⟩ = some (.slice bc t.cells.length ec) := kC hb1 (by simp) (by simp [go_sem])
  have q_11 : w1.cell? ⟨w.heap.size + 1, 11, none⟩ = some (.slice bh t.hist.length fh) := kC hb1 (by simp) (by simp [go_sem])
  have HQ1 : Hid (ScrS t bc bh w1) := Lib.hid (((HQ.out.alloc _).alloc _).below hb1)
  have HB1 : Hid (Below w.heap.size w w1) := Lib.hid ((((Below.refl _ _).alloc (Nat.le_refl _) _).alloc (by simp) _).trans (hb1.mono (by simp; omega)))
  have HS1 := Lib.hid hs1
  clear hb1 hs1
  go_wp2_with fail
  refine (HU.out _ HQ1.out).mono ?_
  rintro e w2 ⟨a2, c2, rfl, hs2, hb2⟩
  have HB2 := Lib.hid hb2
  have hs1 := HS1.out.keep hb2
  have hcv1 : (convert 22 9 (.slice a1 l.length c1)).run Tryz.prog w2 = .ok (.string (strOf l)) w2 := convT hs1
  have hcv2 : (convert 22 9 (.slice a2 l.length c2)).run Tryz.prog w2 = .ok (.string (strOf l)) w2 := convT hs2
  clear hb2 hs1 hs2 k_0 k_1 k_2 k_3 k_4 k_5 k_6 k_7 k_8 k_9 k_10 k_11 q_0 q_1 q_2 q_3 q_4 q_5 q_6 q_7 q_8 q_9 q_10 q_11
  have he : ((strOf l).toList == (strOf l).toList) = true := beq_self_eq_true _
  generalize strOf l = S at hcv1 hcv2 he
  go_wp2_with fail
  go_ret
  exact ⟨rfl, HB1.out.trans (HB2.out.mono HB1.out.size)⟩
end
section
open Go.RowKit
def ScrM (s : Scr) (w : World) (e : Ending) (w' : World) : Prop :=
  ∃ ac cc ah dh, e = .returned (.tuple #[scrV s ac cc ah dh, .int .i64 0]) ∧ ScrF w.heap.size s ac cc ah dh w' ∧ Below w.heap.size w w'
end
section
open Go.RowKit
theorem ScrAt.F {lo b o : Nat} {s : Scr} {g cc : Nat} {ah : Option Addr} {dh : Nat} {w : World} (h : ScrAt lo b o s g cc ah dh w) : ScrF lo s (some ⟨g, 0, none⟩) cc ah dh w :=
  ⟨h.row, h.win, fun k hk e => by simp only [blkOf, List.mem_singleton] at e; exact (h.hb k hk).2 e⟩
theorem cloneScreen_c (s : Scr) (ac : Option Addr) (cc : Nat) (ah : Option Addr) (dh : Nat) (w : World) (h : ScrS s ac ah w) (hc : s.cells.length ≤ 240) (hh : s.hist.length ≤ 6) :
    Calls Tryz.prog 36 #[scrV s ac cc ah dh] w (ScrN s w) := by
  have HR := Lib.hid h
  unfold scrV
  clear h
  go_enter Tryz.func36, Tryz.ntmps36
  go_upto_region 1 with fail
  obtain ⟨x0, hx0⟩ : ∃ x, (w.alloc (.cells #[.int .i64 (s.w : Int), .int .i64 (s.h : Int), .int .i64 (s.x : Int), .int .i64 (s.y : Int), .int .i64 (s.look : Int), .int .i64 (s.top : Int), .int .i64 (s.bot : Int), .int .i64 (s.sx : Int), .int .i64 (s.sy : Int), .string s.title, .slice ac s.cells.length cc, .slice ah s.hist.length dh] 26)).alloc (.cells #[.int .i64 0, .int .i64 0, .int .i64 0, .int .i64 0, .int .i64 0, .int .i64 0, .int .i64 0, .int .i64 0, .int .i64 0, .string ⟨#[]⟩, .slice none 0 0, .slice none 0 0] 26) = x := ⟨_, rfl⟩
  have HBX : Hid (Bx x0 w.heap.size [.int .i64 (s.w : Int), .int .i64 (s.h : Int), .int .i64 (s.x : Int), .int .i64 (s.y : Int), .int .i64 (s.look : Int), .int .i64 (s.top : Int), .int .i64 (s.bot : Int), .int .i64 (s.sx : Int), .int .i64 (s.sy : Int), .string s.title, .slice ac s.cells.length cc, .slice ah s.hist.length dh]) := Lib.hid (by rw [← hx0]; exact (Bx.new _ _ _).alloc1 _)
  have HBZ : Hid (Bx x0 (w.heap.size + 1) [.int .i64 0, .int .i64 0, .int .i64 0, .int .i64 0, .int .i64 0, .int .i64 0, .int .i64 0, .int .i64 0, .int .i64 0, .string ⟨#[]⟩, .slice none 0 0, .slice none 0 0]) := Lib.hid (by
    rw [← hx0]
    have := Bx.new (w.alloc (.cells #[.int .i64 (s.w : Int), .int .i64 (s.h : Int), .int .i64 (s.x : Int), .int .i64 (s.y : Int), .int .i64 (s.look : Int), .int .i64 (s.top : Int), .int .i64 (s.bot : Int), .int .i64 (s.sx : Int), .int .i64 (s.sy : Int), .string s.title, .slice ac s.cells.length cc, .slice ah s.hist.length dh] 26)) [.int .i64 0, .int .i64 0, .int .i64 0, .int .i64 0, .int .i64 0, .int .i64 0, .int .i64 0, .int .i64 0, .int .i64 0, .string ⟨#[]⟩, .slice none 0 0, .slice none 0 0] 26
    simp only [World.size_alloc] at this
    exact this)
  have HB0 : Hid (Below w.heap.size w x0) := Lib.hid (by rw [← hx0]; exact ((Below.refl _ _).alloc (Nat.le_refl _) _).alloc (by simp) _)
  have hz0 : w.heap.size + 1 < x0.heap.size := by rw [← hx0]; simp
  have HZ0 : Hid (x0.heap.size = w.heap.size + 2) := Lib.hid (by rw [← hx0]; simp)
  have p_10 := HBX.out.c 10
  have p_11 := HBX.out.c 11
  have p_l := HBX.out.lt
  rw [hx0]
  clear hx0
  refine wp_region_B [7,9] [0,1,3,4,2,6,5,7,8,9] ?_
  repeat (first | refine oW (h := ?_) | refine oL (h := ?_))
  refine oO (h := ?_)
  intro K' hK
  go_simp
  refine (cloneCells_c ac cc s.cells _ ((HR.out.below HB0.out).drew.cs) (by omega)).mono ?_
  rintro e x1 ⟨v1, rfl, hf1, hb⟩
  obtain ⟨a1, c1, rfl, hc1, _⟩ := id hf1
  have hb1 : Below x0.heap.size x0 x1 := ((Below.refl _ _).drew).trans hb
  have HF1 := Lib.hid hf1
  have HB1 := Lib.hid hb1
  clear hf1 hc1 hb
  refine oN hK (h := ?_)
  clear hK K'
  repeat (first | refine oW (h := ?_) | refine oL (h := ?_))
  refine oO (h := ?_)
  intro K' hK
  go_simp
  refine (cloneStrs_c ah dh s.hist _ (((HR.out.below HB0.out).below HB1.out).hs) (by omega)).mono ?_
  rintro e x2 ⟨v2, rfl, hf2, hb2⟩
  obtain ⟨a2, d2, rfl, hc2, _⟩ := id hf2
  have hb12 : Below x0.heap.size x0 x2 := hb1.trans (hb2.mono hb1.size)
  have HF2 := Lib.hid hf2
  have HB2 := Lib.hid hb2
  have HB12 := Lib.hid hb12
  have HX2 := Lib.hid (HBX.out.below hb12)
  have e_10 := HX2.out.c 10
  have e_11 := HX2.out.c 11
  have e_f := HX2.out.fz
  have e_l := HX2.out.lt
  clear hf2 hc2 hb2
  refine oN hK (h := ?_)
  clear hK K'
  refine oO (h := ?_)
  intro K' hK
  go_simp
  refine oN hK (h := ?_)
  clear hK K'
  repeat (first | refine oW (h := ?_) | refine oL (h := ?_))
  refine oO (h := ?_)
  intro K' hK
  go_simp
  refine oN hK (h := ?_)
  clear hK K'
  refine oD ?_
  obtain ⟨x3, hx3⟩ : ∃ x, (x2.setCell ⟨w.heap.size, 10, none⟩ (.slice a1 s.cells.length c1)).setCell ⟨w.heap.size, 11, none⟩ (.slice a2 s.hist.length d2) = x := ⟨_, rfl⟩
  have HX3 : Hid (Bx x3 w.heap.size [.int .i64 (s.w : Int), .int .i64 (s.h : Int), .int .i64 (s.x : Int), .int .i64 (s.y : Int), .int .i64 (s.look : Int), .int .i64 (s.top : Int), .int .i64 (s.bot : Int), .int .i64 (s.sx : Int), .int .i64 (s.sy : Int), .string s.title, .slice a1 s.cells.length c1, .slice a2 s.hist.length d2]) := Lib.hid (by rw [← hx3]; exact ((HX2.out.set 10 _).set 11 _).eqv rfl)
  have HZ3 : Hid (Bx x3 (w.heap.size + 1) [.int .i64 0, .int .i64 0, .int .i64 0, .int .i64 0, .int .i64 0, .int .i64 0, .int .i64 0, .int .i64 0, .int .i64 0, .string ⟨#[]⟩, .slice none 0 0, .slice none 0 0]) := Lib.hid (by rw [← hx3]; exact (((HBZ.out.below hb12)).other _ _ _ (by omega)).other _ _ _ (by omega))
  have HC3 : Hid (Ch (· = w.heap.size) x2 x3) := Lib.hid (by rw [← hx3]; exact (Ch.set1' _ _ 10 _).trans (Ch.set1' _ _ 11 _) (fun _ h => .inl h))
  rw [hx3]
  clear hx3 e_10 e_11 e_f e_l p_10 p_11 p_l hb1 hb12
  have k_0 := HX3.out.c 0
  have k_1 := HX3.out.c 1
  have k_2 := HX3.out.c 2
  have k_3 := HX3.out.c 3
  have k_4 := HX3.out.c 4
  have k_5 := HX3.out.c 5
  have k_6 := HX3.out.c 6
  have k_7 := HX3.out.c 7
  have k_8 := HX3.out.c 8
  have k_9 := HX3.out.c 9
  have k_10 := HX3.out.c 10
  have k_11 := HX3.out.c 11
  have k_l := HX3.out.lt
  have z_0 := HZ3.out.c 0
  have z_1 := HZ3.out.c 1
  have z_2 := HZ3.out.c 2
  have z_3 := HZ3.out.c 3
  have z_4 := HZ3.out.c 4
  have z_5 := HZ3.out.c 5
  have z_6 := HZ3.out.c 6
  have z_7 := HZ3.out.c 7
  have z_8 := HZ3.out.c 8
  have z_9 := HZ3.out.c 9
  have z_10 := HZ3.out.c 10
  have z_11 := HZ3.out.c 11
  have z_f := HZ3.out.fz
  have z_l := HZ3.out.lt
  go_wp2_with fail
  refine bodyPost_ret (v := scrV s a1 c1 a2 d2) (by simp [results, Tryz.results36, go_sem, scrV, z_0, z_1, z_2, z_3, z_4, z_5, z_6, z_7, z_8, z_9, z_10, z_11]) rfl ?_
  have hz := HZ0.out
  have hz1 := HB1.out.size
  have hz2 := HB2.out.size
  have hz3 := HC3.out.size
  have hfin : ∀ wz, Ch (· = w.heap.size + 1) x3 wz → ScrF w.heap.size s a1 c1 a2 d2 wz ∧ Below w.heap.size w wz := fun wz hcz => by
    have h1 : ∀ k ∈ blkOf a1, x0.heap.size ≤ k ∧ k < x1.heap.size := fun k hk => FreshIn.blks HF1.out.here k hk
    have h2 : ∀ k ∈ blkOf a2, x1.heap.size ≤ k ∧ k < x2.heap.size := fun k hk => FreshIn.blks HF2.out.here k hk
    have hc23 : Ch (fun k => k = w.heap.size ∨ k = w.heap.size + 1) x2 wz := (HC3.out.mono (fun _ h => .inl (.inl h))).trans hcz (fun _ h => .inl (.inr h))
    refine ⟨⟨((HF1.out.here.below HB2.out).mono (lo' := w.heap.size) (show w.heap.size ≤ x0.heap.size by omega) HB2.out.size).ch hc23 (fun k hk e => ?_), (FreshIn.win (HF2.out.here.mono (lo' := w.heap.size) (show w.heap.size ≤ x1.heap.size by omega) (Nat.le_refl _))).ch hc23 (fun k hk e => ?_), fun k hk hk2 => ?_⟩, (HB0.out.trans (HB12.out.mono HB0.out.size)).trans (hc23.below (by omega) (fun k h => by omega))⟩
    · have := h1 k hk; omega
    · have := h2 k hk; omega
    · have := h1 k hk2; have := h2 k hk; omega
  refine ⟨a1, c1, a2, d2, rfl, (hfin _ ?_).1, (hfin _ ?_).2⟩
  all_goals repeat (first | (with_reducible exact Ch.refl) | (with_reducible refine Ch.setB ?_ _ _))
theorem implApplyAction_c (s : Scr) (HO : ScrOK s) (ac : Option Addr) (cc : Nat) (ah : Option Addr) (dh : Nat) (a : AV) (aa : Option Addr) (ca : Nat) (w : World) (h : ScrS s ac ah w) (hac : AcOK a) (ha : Sl intE 1 w aa a.args) (hab : ∀ k ∈ blkOf aa, k < w.heap.size) :
    Calls Tryz.prog 15 #[scrV s ac cc ah dh, .agg #[.int .i64 a.kind, .int .i64 a.n, .bool a.priv, .slice aa a.args.length ca, .string a.text]] w (ScrM (actI s a) w) := by
  have HR := Lib.hid h
  have HA := Lib.hid ha
  have HAB := Lib.hid hab
  have HI : Hid (∀ W, Below w.heap.size w W → Calls Tryz.prog 24 #[.agg #[.int .i64 (s.w : Int), .int .i64 (s.h : Int), .int .i64 (s.x : Int), .int .i64 (s.y : Int), .int .i64 (s.look : Int), .int .i64 (s.top : Int), .int .i64 (s.bot : Int), .int .i64 (s.sx : Int), .int .i64 (s.sy : Int), .string s.title, .slice ac s.cells.length cc, .slice ah s.hist.length dh]] W fun e w' => e = .returned (.bool true) ∧ Below W.heap.size W w') := Lib.hid (fun W hW => isScr_c s HO ac cc ah dh W (HR.out.below hW))
  have HIA : Hid (∀ W, Below w.heap.size w W → Calls Tryz.prog 35 #[.agg #[.int .i64 a.kind, .int .i64 a.n, .bool a.priv, .slice aa a.args.length ca, .string a.text]] W fun e w' => e = .returned (.bool true) ∧ Below W.heap.size W w') := Lib.hid (fun W hW => isAction_t a aa ca W hac (HA.out.keep hW))
  have HCL : Hid (∀ W, Below w.heap.size w W → Calls Tryz.prog 36 #[.agg #[.int .i64 (s.w : Int), .int .i64 (s.h : Int), .int .i64 (s.x : Int), .int .i64 (s.y : Int), .int .i64 (s.look : Int), .int .i64 (s.top : Int), .int .i64 (s.bot : Int), .int .i64 (s.sx : Int), .int .i64 (s.sy : Int), .string s.title, .slice ac s.cells.length cc, .slice ah s.hist.length dh]] W (ScrN s W)) := Lib.hid (fun W hW => cloneScreen_c s ac cc ah dh W (HR.out.below hW) (by rw [HO.cn]; exact Nat.mul_le_mul HO.w2 HO.h2) HO.hn)
  have HAC := Lib.hid hac
  have HOK := Lib.hid HO
  obtain ⟨ln, hln⟩ : ∃ l, a.args.length = l := ⟨_, rfl⟩
  have HLN := Lib.hid hln
  rw [hln] at HIA ⊢
  have h0 : 0 < s.cells.length := by rw [HO.cn]; exact Nat.mul_pos (by have := HO.w1; omega) (by have := HO.h1; omega)
  unfold scrV
  clear h ha HO hac hln hab
  go_enter Tryz.func15, Tryz.ntmps15
  go_upto_region 1 with fail
  obtain ⟨x0, hx0⟩ : ∃ x, ((w.alloc (.cells #[.int .i64 (s.w : Int), .int .i64 (s.h : Int), .int .i64 (s.x : Int), .int .i64 (s.y : Int), .int .i64 (s.look : Int), .int .i64 (s.top : Int), .int .i64 (s.bot : Int), .int .i64 (s.sx : Int), .int .i64 (s.sy : Int), .string s.title, .slice ac s.cells.length cc, .slice ah s.hist.length dh] 26)).alloc (.cells #[.int .i64 a.kind, .int .i64 a.n, .bool a.priv, .slice aa ln ca, .string a.text] 38)).alloc (.cells #[.int .i64 0, .int .i64 0, .int .i64 0, .int .i64 0, .int .i64 0, .int .i64 0, .int .i64 0, .int .i64 0, .int .i64 0, .string ⟨#[]⟩, .slice none 0 0, .slice none 0 0] 26) = x := ⟨_, rfl⟩
  have HB0 : Hid (Below w.heap.size w x0) := Lib.hid (by rw [← hx0]; exact (((Below.refl _ _).alloc (Nat.le_refl _) _).alloc (by simp) _).alloc (by simp; omega) _)
  have HX : Hid (Bx x0 w.heap.size [.int .i64 (s.w : Int), .int .i64 (s.h : Int), .int .i64 (s.x : Int), .int .i64 (s.y : Int), .int .i64 (s.look : Int), .int .i64 (s.top : Int), .int .i64 (s.bot : Int), .int .i64 (s.sx : Int), .int .i64 (s.sy : Int), .string s.title, .slice ac s.cells.length cc, .slice ah s.hist.length dh]) := Lib.hid (by rw [← hx0]; exact ((Bx.new _ _ _).alloc1 _).alloc1 _)
  have HXA : Hid (Bx x0 (w.heap.size + 1) [.int .i64 a.kind, .int .i64 a.n, .bool a.priv, .slice aa ln ca, .string a.text]) := Lib.hid (by
    rw [← hx0]
    have := (Bx.new (w.alloc (.cells #[.int .i64 (s.w : Int), .int .i64 (s.h : Int), .int .i64 (s.x : Int), .int .i64 (s.y : Int), .int .i64 (s.look : Int), .int .i64 (s.top : Int), .int .i64 (s.bot : Int), .int .i64 (s.sx : Int), .int .i64 (s.sy : Int), .string s.title, .slice ac s.cells.length cc, .slice ah s.hist.length dh] 26)) [.int .i64 a.kind, .int .i64 a.n, .bool a.priv, .slice aa ln ca, .string a.text] 38).alloc1 (.cells #[.int .i64 0, .int .i64 0, .int .i64 0, .int .i64 0, .int .i64 0, .int .i64 0, .int .i64 0, .int .i64 0, .int .i64 0, .string ⟨#[]⟩, .slice none 0 0, .slice none 0 0] 26)
    simp only [World.size_alloc] at this
    exact this)
  have HXZ : Hid (Bx x0 (w.heap.size + 2) [.int .i64 0, .int .i64 0, .int .i64 0, .int .i64 0, .int .i64 0, .int .i64 0, .int .i64 0, .int .i64 0, .int .i64 0, .string ⟨#[]⟩, .slice none 0 0, .slice none 0 0]) := Lib.hid (by
    rw [← hx0]
    have := Bx.new ((w.alloc (.cells #[.int .i64 (s.w : Int), .int .i64 (s.h : Int), .int .i64 (s.x : Int), .int .i64 (s.y : Int), .int .i64 (s.look : Int), .int .i64 (s.top : Int), .int .i64 (s.bot : Int), .int .i64 (s.sx : Int), .int .i64 (s.sy : Int), .string s.title, .slice ac s.cells.length cc, .slice ah s.hist.length dh] 26)).alloc (.cells #[.int .i64 a.kind, .int .i64 a.n, .bool a.priv, .slice aa ln ca, .string a.text] 38)) [.int .i64 0, .int .i64 0, .int .i64 0, .int .i64 0, .int .i64 0, .int .i64 0, .int .i64 0, .int .i64 0, .int .i64 0, .string ⟨#[]⟩, .slice none 0 0, .slice none 0 0] 26
    simp only [World.size_alloc] at this
    exact this)
  have HZ0 : Hid (x0.heap.size = w.heap.size + 3) := Lib.hid (by rw [← hx0]; simp)
  rw [hx0]
  clear hx0
  have k_0 := HX.out.c 0
  have k_1 := HX.out.c 1
  have k_2 := HX.out.c 2
  have k_3 := HX.out.c 3
  have k_4 := HX.out.c 4
  have k_5 := HX.out.c 5
  have k_6 := HX.out.c 6
  have k_7 := HX.out.c 7
  have k_8 := HX.out.c 8
  have k_9 := HX.out.c 9
  have k_10 := HX.out.c 10
  have k_11 := HX.out.c 11
  have k_l := HX.out.lt
  have p_0 := HXA.out.c 0
  have p_1 := HXA.out.c 1
  have p_2 := HXA.out.c 2
  have p_3 := HXA.out.c 3
  have p_4 := HXA.out.c 4
  have p_l := HXA.out.lt
  go_wp2_with fail
  refine (HI.out _ HB0.out).mono ?_
  rintro e x1 ⟨rfl, hb1⟩
  have HB01 : Hid (Below x0.heap.size x0 x1) := Lib.hid hb1
  have HB1 : Hid (Below w.heap.size w x1) := Lib.hid (HB0.out.trans (hb1.mono HB0.out.size))
  clear hb1 k_0 k_1 k_2 k_3 k_4 k_5 k_6 k_7 k_8 k_9 k_10 k_11 k_l p_0 p_1 p_2 p_3 p_4 p_l
  have HX1 := Lib.hid (HX.out.below HB01.out)
  have HXA1 := Lib.hid (HXA.out.below HB01.out)
  have p_0 := HXA1.out.c 0
  have p_1 := HXA1.out.c 1
  have p_2 := HXA1.out.c 2
  have p_3 := HXA1.out.c 3
  have p_4 := HXA1.out.c 4
  have p_l := HXA1.out.lt
  go_wp2_with fail
  refine (HIA.out _ HB1.out).mono ?_
  rintro e x2 ⟨rfl, hb2⟩
  have HB02 : Hid (Below x0.heap.size x0 x2) := Lib.hid (HB01.out.trans (hb2.mono HB01.out.size))
  have HB2 : Hid (Below w.heap.size w x2) := Lib.hid (HB0.out.trans (HB02.out.mono HB0.out.size))
  clear hb2 p_0 p_1 p_2 p_3 p_4 p_l
  have HX2 := Lib.hid (HX.out.below HB02.out)
  have k_0 := HX2.out.c 0
  have k_1 := HX2.out.c 1
  have k_2 := HX2.out.c 2
  have k_3 := HX2.out.c 3
  have k_4 := HX2.out.c 4
  have k_5 := HX2.out.c 5
  have k_6 := HX2.out.c 6
  have k_7 := HX2.out.c 7
  have k_8 := HX2.out.c 8
  have k_9 := HX2.out.c 9
  have k_10 := HX2.out.c 10
  have k_11 := HX2.out.c 11
  have k_l := HX2.out.lt
  go_wp2_with fail
  refine (HCL.out _ HB2.out).mono ?_
  rintro e x3 ⟨a3, c3, b3, d3, rfl, hf3, hb3⟩
  have HB03 : Hid (Below x0.heap.size x0 x3) := Lib.hid (HB02.out.trans (hb3.mono HB02.out.size))
  obtain ⟨g3, rfl⟩ := hf3.blk h0
  have HF3 := Lib.hid hf3
  unfold scrV
  clear k_0 k_1 k_2 k_3 k_4 k_5 k_6 k_7 k_8 k_9 k_10 k_11 k_l
  go_upto_region 4 with fail
  obtain ⟨x4, hx4⟩ : ∃ x, x3.alloc (.cells #[.int .i64 (s.w : Int), .int .i64 (s.h : Int), .int .i64 (s.x : Int), .int .i64 (s.y : Int), .int .i64 (s.look : Int), .int .i64 (s.top : Int), .int .i64 (s.bot : Int), .int .i64 (s.sx : Int), .int .i64 (s.sy : Int), .string s.title, .slice (some ⟨g3, 0, none⟩) s.cells.length c3, .slice b3 s.hist.length d3] 26) = x := ⟨_, rfl⟩
  obtain ⟨B, hB⟩ : ∃ n, x3.heap.size = n := ⟨_, rfl⟩
  have HS4 : Hid (ScrAt x2.heap.size B 0 s g3 c3 b3 d3 x4) := Lib.hid (by rw [← hx4, ← hB]; exact ScrAt.box HF3.out _)
  have HB34 : Hid (Below x3.heap.size x3 x4) := Lib.hid (by rw [← hx4]; exact (Below.refl _ _).alloc (Nat.le_refl _) _)
  have HB04 : Hid (Below x0.heap.size x0 x4) := Lib.hid (HB03.out.trans (HB34.out.mono HB03.out.size))
  have HB4 : Hid (Below w.heap.size w x4) := Lib.hid (HB0.out.trans (HB04.out.mono HB0.out.size))
  have hb4 : x4.heap.size = B + 1 := by rw [← hx4, ← hB]; simp
  have hz02 := HB02.out.size
  have hz23 : x2.heap.size ≤ B := by rw [← hB]; exact hb3.size
  rw [hx4, hB]
  clear hx4 hB hb3 hf3
  have HXA4 := Lib.hid (HXA.out.below HB04.out)
  have HA4 := Lib.hid (HA.out.keep HB4.out)
  have hz0 := HZ0.out
  have hna : ∀ k ∈ blkOf aa, k ≠ B ∧ k ≠ g3 ∧ k ∉ blkOf b3 := fun k hk => by
    have h1 : k < w.heap.size := HAB.out k hk
    refine ⟨by omega, fun e => ?_, fun e => ?_⟩
    · have := (FreshIn.blks HF3.out.row g3 (by simp [blkOf])).1; omega
    · have := (HF3.out.win.blk k e).1; omega
  have p_0 := HXA4.out.c 0
  have p_1 := HXA4.out.c 1
  have p_2 := HXA4.out.c 2
  have p_3 := HXA4.out.c 3
  have p_4 := HXA4.out.c 4
  have p_l := HXA4.out.lt
  have HNA := Lib.hid hna
  have hloB : x2.heap.size ≤ x4.heap.size := by omega
  have HAP : Hid (Calls Tryz.prog 37 #[.pointer (some ⟨B, 0, none⟩), .agg #[.int .i64 a.kind, .int .i64 a.n, .bool a.priv, .slice aa ln ca, .string a.text]] x4 fun e w' => e = .returned (.tuple #[]) ∧ ScrR x2.heap.size B 0 (actI s a) g3 b3 x4 w') := Lib.hid (by
    rw [← HLN.out]
    exact iApply_c x2.heap.size B 0 s g3 c3 b3 d3 x4 a aa ca HS4.out HOK.out hloB HAC.out HA4.out HNA.out)
  clear hna
  go_wp2_with fail
  refine HAP.out.mono ?_
  rintro e x5 ⟨rfl, hr⟩
  obtain ⟨g5, c5, a5, d5, ha5, hu5, hg5, hh5⟩ := hr
  have HA5 := Lib.hid ha5
  have HU5 := Lib.hid hu5
  have HG5 : Hid (g5 = g3 ∨ x4.heap.size ≤ g5) := Lib.hid hg5
  have HH5 := Lib.hid hh5
  have hzb : w.heap.size + 2 < x0.heap.size := by omega
  have hch : Ch (fun k => B = k ∨ k = g3 ∨ k ∈ blkOf b3) x4 x5 := hu5.ch.mono (fun k h => .inl (h.imp Eq.symm id))
  have hg3 : x2.heap.size ≤ g3 := (FreshIn.blks HF3.out.row g3 (by simp [blkOf])).1
  have hnb : ∀ k, k < x2.heap.size → ¬ (B = k ∨ k = g3 ∨ k ∈ blkOf b3) := fun k hk e => by
    rcases e with e | e | e
    · omega
    · omega
    · have := (HF3.out.win.blk k e).1; omega
  have HZ5 := Lib.hid ((HXZ.out.below HB04.out).ch hch (hnb _ (by omega)))
  have HBW5 : Hid (Below w.heap.size w x5) := Lib.hid (HB4.out.trans (hch.below (by have := HB4.out.size; omega) (fun k h => by
    rcases Nat.lt_or_ge k x2.heap.size with h1 | h1
    · exact absurd h (hnb k h1)
    · omega)))
  clear ha5 hu5 hg5 hh5 hch hnb p_0 p_1 p_2 p_3 p_4 p_l
  obtain ⟨t, ht⟩ : ∃ t, actI s a = t := ⟨_, rfl⟩
  have HT : Hid (ScrOK t) := Lib.hid (by rw [← ht]; exact HOK.out.actI HAC.out)
  have HTE := Lib.hid ht
  rw [ht] at HA5
  clear ht
  have s_0 := HA5.out.e0
  have s_1 := HA5.out.e1
  have s_2 := HA5.out.e2
  have s_3 := HA5.out.e3
  have s_4 := HA5.out.e4
  have s_5 := HA5.out.e5
  have s_6 := HA5.out.e6
  have s_7 := HA5.out.e7
  have s_8 := HA5.out.e8
  have s_9 := HA5.out.e9
  have s_10 := HA5.out.e10
  have s_11 := HA5.out.e11
  have s_l := HA5.out.lt
  have z_0 := HZ5.out.c 0
  have z_1 := HZ5.out.c 1
  have z_2 := HZ5.out.c 2
  have z_3 := HZ5.out.c 3
  have z_4 := HZ5.out.c 4
  have z_5 := HZ5.out.c 5
  have z_6 := HZ5.out.c 6
  have z_7 := HZ5.out.c 7
  have z_8 := HZ5.out.c 8
  have z_9 := HZ5.out.c 9
  have z_10 := HZ5.out.c 10
  have z_11 := HZ5.out.c 11
  have z_f := HZ5.out.fz
  have z_l := HZ5.out.lt
  go_wp2_with fail
  refine bodyPost_ret (v := .tuple #[.agg #[.int .i64 (t.w : Int), .int .i64 (t.h : Int), .int .i64 (t.x : Int), .int .i64 (t.y : Int), .int .i64 (t.look : Int), .int .i64 (t.top : Int), .int .i64 (t.bot : Int), .int .i64 (t.sx : Int), .int .i64 (t.sy : Int), .string t.title, .slice (some ⟨g5, 0, none⟩) t.cells.length c5, .slice a5 t.hist.length d5], .int .i64 0]) (by simp [results, Tryz.results15, go_sem, z_0, z_1, z_2, z_3, z_4, z_5, z_6, z_7, z_8, z_9, z_10, z_11]) rfl ?_
  have hfin : ∀ wz, Ch (· = w.heap.size + 2) x5 wz → ScrF w.heap.size t (some ⟨g5, 0, none⟩) c5 a5 d5 wz ∧ Below w.heap.size w wz := fun wz hcz => by
    have h1 : ScrF x2.heap.size t (some ⟨g5, 0, none⟩) c5 a5 d5 x5 := HA5.out.F
    refine ⟨(h1.ch hcz (fun k hk e => ?_) (fun k hk e => ?_)).low ?_, (HBW5.out.trans (hcz.below HBW5.out.size (fun k h => by omega)))⟩
    · have := (FreshIn.blks h1.row k hk).1; omega
    · have := (h1.win.blk k hk).1; omega
    · omega
  rw [HTE.out]
  refine ⟨some ⟨g5, 0, none⟩, c5, a5, d5, rfl, (hfin _ ?_).1, (hfin _ ?_).2⟩
  all_goals repeat (first | (with_reducible exact Ch.refl) | (with_reducible refine Ch.drew ?_) | (with_reducible refine Ch.setB ?_ _ _))
theorem specApplyAction_c (s : Scr) (HO : ScrOK s) (ac : Option Addr) (cc : Nat) (ah : Option Addr) (dh : Nat) (a : AV) (aa : Option Addr) (ca : Nat) (w : World) (h : ScrS s ac ah w) (hac : AcOK a) (ha : Sl intE 1 w aa a.args) (hab : ∀ k ∈ blkOf aa, k < w.heap.size) :
    Calls Tryz.prog 16 #[scrV s ac cc ah dh, .agg #[.int .i64 a.kind, .int .i64 a.n, .bool a.priv, .slice aa a.args.length ca, .string a.text]] w (ScrM (actS s a) w) := by
  have HR := Lib.hid h
  have HA := Lib.hid ha
  have HAB := Lib.hid hab
  have HI : Hid (∀ W, Below w.heap.size w W → Calls Tryz.prog 27 #[.agg #[.int .i64 (s.w : Int), .int .i64 (s.h : Int), .int .i64 (s.x : Int), .int .i64 (s.y : Int), .int .i64 (s.look : Int), .int .i64 (s.top : Int), .int .i64 (s.bot : Int), .int .i64 (s.sx : Int), .int .i64 (s.sy : Int), .string s.title, .slice ac s.cells.length cc, .slice ah s.hist.length dh]] W fun e w' => e = .returned (.bool true) ∧ Below W.heap.size W w') := Lib.hid (fun W hW => scrOK_c s HO ac cc ah dh W (HR.out.below hW))
  have HIA : Hid (∀ W, Below w.heap.size w W → Calls Tryz.prog 38 #[.agg #[.int .i64 a.kind, .int .i64 a.n, .bool a.priv, .slice aa a.args.length ca, .string a.text]] W fun e w' => e = .returned (.bool true) ∧ Below W.heap.size W w') := Lib.hid (fun W hW => specActionOK_t a aa ca W hac (HA.out.keep hW))
  have HCL : Hid (∀ W, Below w.heap.size w W → Calls Tryz.prog 39 #[.agg #[.int .i64 (s.w : Int), .int .i64 (s.h : Int), .int .i64 (s.x : Int), .int .i64 (s.y : Int), .int .i64 (s.look : Int), .int .i64 (s.top : Int), .int .i64 (s.bot : Int), .int .i64 (s.sx : Int), .int .i64 (s.sy : Int), .string s.title, .slice ac s.cells.length cc, .slice ah s.hist.length dh]] W (ScrN s W)) := Lib.hid (fun W hW => l04Own_c s ac cc ah dh W (HR.out.below hW) (by rw [HO.cn]; exact Nat.mul_le_mul HO.w2 HO.h2) HO.hn)
  have HAC := Lib.hid hac
  have HOK := Lib.hid HO
  obtain ⟨ln, hln⟩ : ∃ l, a.args.length = l := ⟨_, rfl⟩
  have HLN := Lib.hid hln
  rw [hln] at HIA ⊢
  have h0 : 0 < s.cells.length := by rw [HO.cn]; exact Nat.mul_pos (by have := HO.w1; omega) (by have := HO.h1; omega)
  unfold scrV
  clear h ha HO hac hln hab
  go_enter Tryz.func16, Tryz.ntmps16
  go_upto_region 1 with fail
  obtain ⟨x0, hx0⟩ : ∃ x, ((w.alloc (.cells #[.int .i64 (s.w : Int), .int .i64 (s.h : Int), .int .i64 (s.x : Int), .int .i64 (s.y : Int), .int .i64 (s.look : Int), .int .i64 (s.top : Int), .int .i64 (s.bot : Int), .int .i64 (s.sx : Int), .int .i64 (s.sy : Int), .string s.title, .slice ac s.cells.length cc, .slice ah s.hist.length dh] 26)).alloc (.cells #[.int .i64 a.kind, .int .i64 a.n, .bool a.priv, .slice aa ln ca, .string a.text] 38)).alloc (.cells #[.int .i64 0, .int .i64 0, .int .i64 0, .int .i64 0, .int .i64 0, .int .i64 0, .int .i64 0, .int .i64 0, .int .i64 0, .string ⟨#[]⟩, .slice none 0 0, .slice none 0 0] 26) = x := ⟨_, rfl⟩
  have HB0 : Hid (Below w.heap.size w x0) := Lib.hid (by rw [← hx0]; exact (((Below.refl _ _).alloc (Nat.le_refl _) _).alloc (by simp) _).alloc (by simp; omega) _)
  have HX : Hid (Bx x0 w.heap.size [.int .i64 (s.w : Int), .int .i64 (s.h : Int), .int .i64 (s.x : Int), .int .i64 (s.y : Int), .int .i64 (s.look : Int), .int .i64 (s.top : Int), .int .i64 (s.bot : Int), .int .i64 (s.sx : Int), .int .i64 (s.sy : Int), .string s.title, .slice ac s.cells.length cc, .slice ah s.hist.length dh]) := Lib.hid (by rw [← hx0]; exact ((Bx.new _ _ _).alloc1 _).alloc1 _)
  have HXA : Hid (Bx x0 (w.heap.size + 1) [.int .i64 a.kind, .int .i64 a.n, .bool a.priv, .slice aa ln ca, .string a.text]) := Lib.hid (by
    rw [← hx0]
    have := (Bx.new (w.alloc (.cells #[.int .i64 (s.w : Int), .int .i64 (s.h : Int), .int .i64 (s.x : Int), .int .i64 (s.y : Int), .int .i64 (s.look : Int), .int .i64 (s.top : Int), .int .i64 (s.bot : Int), .int .i64 (s.sx : Int), .int .i64 (s.sy : Int), .string s.title, .slice ac s.cells.length cc, .slice ah s.hist.length dh] 26)) [.int .i64 a.kind, .int .i64 a.n, .bool a.priv, .slice aa ln ca, .string a.text] 38).alloc1 (.cells #[.int .i64 0, .int .i64 0, .int .i64 0, .int .i64 0, .int .i64 0, .int .i64 0, .int .i64 0, .int .i64 0, .int .i64 0, .string ⟨#[]⟩, .slice none 0 0, .slice none 0 0] 26)
    simp only [World.size_alloc] at this
    exact this)
  have HXZ : Hid (Bx x0 (w.heap.size + 2) [.int .i64 0, .int .i64 0, .int .i64 0, .int .i64 0, .int .i64 0, .int .i64 0, .int .i64 0, .int .i64 0, .int .i64 0, .string ⟨#[]⟩, .slice none 0 0, .slice none 0 0]) := Lib.hid (by
    rw [← hx0]
    have := Bx.new ((w.alloc (.cells #[.int .i64 (s.w : Int), .int .i64 (s.h : Int), .int .i64 (s.x : Int), .int .i64 (s.y : Int), .int .i64 (s.look : Int), .int .i64 (s.top : Int), .int .i64 (s.bot : Int), .int .i64 (s.sx : Int), .int .i64 (s.sy : Int), .string s.title, .slice ac s.cells.length cc, .slice ah s.hist.length dh] 26)).alloc (.cells #[.int .i64 a.kind, .int .i64 a.n, .bool a.priv, .slice aa ln ca, .string a.text] 38)) [.int .i64 0, .int .i64 0, .int .i64 0, .int .i64 0, .int .i64 0, .int .i64 0, .int .i64 0, .int .i64 0, .int .i64 0, .string ⟨#[]⟩, .slice none 0 0, .slice none 0 0] 26
    simp only [World.size_alloc] at this
    exact this)
  have HZ0 : Hid (x0.heap.size = w.heap.size + 3) := Lib.hid (by rw [← hx0]; simp)
  rw [hx0]
  clear hx0
  have k_0 := HX.out.c 0
  have k_1 := HX.out.c 1
  have k_2 := HX.out.c 2
  have k_3 := HX.out.c 3
  have k_4 := HX.out.c 4
  have k_5 := HX.out.c 5
  have k_6 := HX.out.c 6
  have k_7 := HX.out.c 7
  have k_8 := HX.out.c 8
  have k_9 := HX.out.c 9
  have k_10 := HX.out.c 10
  have k_11 := HX.out.c 11
  have k_l := HX.out.lt
  have p_0 := HXA.out.c 0
  have p_1 := HXA.out.c 1
  have p_2 := HXA.out.c 2
  have p_3 := HXA.out.c 3
  have p_4 := HXA.out.c 4
  have p_l := HXA.out.lt
  go_wp2_with fail
  refine (HI.out _ HB0.out).mono ?_
  rintro e x1 ⟨rfl, hb1⟩
  have HB01 : Hid (Below x0.heap.size x0 x1) := Lib.hid hb1
  have HB1 : Hid (Below w.heap.size w x1) := Lib.hid (HB0.out.trans (hb1.mono HB0.out.size))
  clear hb1 k_0 k_1 k_2 k_3 k_4 k_5 k_6 k_7 k_8 k_9 k_10 k_11 k_l p_0 p_1 p_2 p_3 p_4 p_l
  have HX1 := Lib.hid (HX.out.below HB01.out)
  have HXA1 := Lib.hid (HXA.out.below HB01.out)
  have p_0 := HXA1.out.c 0
  have p_1 := HXA1.out.c 1
  have p_2 := HXA1.out.c 2
  have p_3 := HXA1.out.c 3
  have p_4 := HXA1.out.c 4
  have p_l := HXA1.out.lt
  go_wp2_with fail
  refine (HIA.out _ HB1.out).mono ?_
  rintro e x2 ⟨rfl, hb2⟩
  have HB02 : Hid (Below x0.heap.size x0 x2) := Lib.hid (HB01.out.trans (hb2.mono HB01.out.size))
  have HB2 : Hid (Below w.heap.size w x2) := Lib.hid (HB0.out.trans (HB02.out.mono HB0.out.size))
  clear hb2 p_0 p_1 p_2 p_3 p_4 p_l
  have HX2 := Lib.hid (HX.out.below HB02.out)
  have k_0 := HX2.out.c 0
  have k_1 := HX2.out.c 1
  have k_2 := HX2.out.c 2
  have k_3 := HX2.out.c 3
  have k_4 := HX2.out.c 4
  have k_5 := HX2.out.c 5
  have k_6 := HX2.out.c 6
  have k_7 := HX2.out.c 7
  have k_8 := HX2.out.c 8
  have k_9 := HX2.out.c 9
  have k_10 := HX2.out.c 10
  have k_11 := HX2.out.c 11
  have k_l := HX2.out.lt
  go_wp2_with fail
  refine (HCL.out _ HB2.out).mono ?_
  rintro e x3 ⟨a3, c3, b3, d3, rfl, hf3, hb3⟩
  have HB03 : Hid (Below x0.heap.size x0 x3) := Lib.hid (HB02.out.trans (hb3.mono HB02.out.size))
  obtain ⟨g3, rfl⟩ := hf3.blk h0
  have HF3 := Lib.hid hf3
  unfold scrV
  clear k_0 k_1 k_2 k_3 k_4 k_5 k_6 k_7 k_8 k_9 k_10 k_11 k_l
  go_upto_region 4 with fail
  obtain ⟨x4, hx4⟩ : ∃ x, x3.alloc (.cells #[.int .i64 (s.w : Int), .int .i64 (s.h : Int), .int .i64 (s.x : Int), .int .i64 (s.y : Int), .int .i64 (s.look : Int), .int .i64 (s.top : Int), .int .i64 (s.bot : Int), .int .i64 (s.sx : Int), .int .i64 (s.sy : Int), .string s.title, .slice (some ⟨g3, 0, none⟩) s.cells.length c3, .slice b3 s.hist.length d3] 67) = x := ⟨_, rfl⟩
  obtain ⟨B, hB⟩ : ∃ n, x3.heap.size = n := ⟨_, rfl⟩
  have HS4 : Hid (ScrAt x2.heap.size B 0 s g3 c3 b3 d3 x4) := Lib.hid (by rw [← hx4, ← hB]; exact ScrAt.box HF3.out _)
  have HB34 : Hid (Below x3.heap.size x3 x4) := Lib.hid (by rw [← hx4]; exact (Below.refl _ _).alloc (Nat.le_refl _) _)
  have HB04 : Hid (Below x0.heap.size x0 x4) := Lib.hid (HB03.out.trans (HB34.out.mono HB03.out.size))
  have HB4 : Hid (Below w.heap.size w x4) := Lib.hid (HB0.out.trans (HB04.out.mono HB0.out.size))
  have hb4 : x4.heap.size = B + 1 := by rw [← hx4, ← hB]; simp
  have hz02 := HB02.out.size
  have hz23 : x2.heap.size ≤ B := by rw [← hB]; exact hb3.size
  rw [hx4, hB]
  clear hx4 hB hb3 hf3
  have HXA4 := Lib.hid (HXA.out.below HB04.out)
  have HA4 := Lib.hid (HA.out.keep HB4.out)
  have hz0 := HZ0.out
  have hna : ∀ k ∈ blkOf aa, k ≠ B ∧ k ≠ g3 ∧ k ∉ blkOf b3 := fun k hk => by
    have h1 : k < w.heap.size := HAB.out k hk
    refine ⟨by omega, fun e => ?_, fun e => ?_⟩
    · have := (FreshIn.blks HF3.out.row g3 (by simp [blkOf])).1; omega
    · have := (HF3.out.win.blk k e).1; omega
  have p_0 := HXA4.out.c 0
  have p_1 := HXA4.out.c 1
  have p_2 := HXA4.out.c 2
  have p_3 := HXA4.out.c 3
  have p_4 := HXA4.out.c 4
  have p_l := HXA4.out.lt
  have HNA := Lib.hid hna
  have hloB : x2.heap.size ≤ x4.heap.size := by omega
  have HAP : Hid (Calls Tryz.prog 40 #[.pointer (some ⟨B, 0, none⟩), .agg #[.int .i64 a.kind, .int .i64 a.n, .bool a.priv, .slice aa ln ca, .string a.text]] x4 fun e w' => e = .returned (.tuple #[]) ∧ ScrR x2.heap.size B 0 (actS s a) g3 b3 x4 w') := Lib.hid (by
    rw [← HLN.out]
    exact do_c x2.heap.size B s g3 c3 b3 d3 x4 a aa ca HS4.out HOK.out hloB HAC.out HA4.out HNA.out)
  clear hna
  go_wp2_with fail
  refine HAP.out.mono ?_
  rintro e x5 ⟨rfl, hr⟩
  obtain ⟨g5, c5, a5, d5, ha5, hu5, hg5, hh5⟩ := hr
  have HA5 := Lib.hid ha5
  have HU5 := Lib.hid hu5
  have HG5 : Hid (g5 = g3 ∨ x4.heap.size ≤ g5) := Lib.hid hg5
  have HH5 := Lib.hid hh5
  have hzb : w.heap.size + 2 < x0.heap.size := by omega
  have hch : Ch (fun k => B = k ∨ k = g3 ∨ k ∈ blkOf b3) x4 x5 := hu5.ch.mono (fun k h => .inl (h.imp Eq.symm id))
  have hg3 : x2.heap.size ≤ g3 := (FreshIn.blks HF3.out.row g3 (by simp [blkOf])).1
  have hnb : ∀ k, k < x2.heap.size → ¬ (B = k ∨ k = g3 ∨ k ∈ blkOf b3) := fun k hk e => by
    rcases e with e | e | e
    · omega
    · omega
    · have := (HF3.out.win.blk k e).1; omega
  have HZ5 := Lib.hid ((HXZ.out.below HB04.out).ch hch (hnb _ (by omega)))
  have HBW5 : Hid (Below w.heap.size w x5) := Lib.hid (HB4.out.trans (hch.below (by have := HB4.out.size; omega) (fun k h => by
    rcases Nat.lt_or_ge k x2.heap.size with h1 | h1
    · exact absurd h (hnb k h1)
    · omega)))
  clear ha5 hu5 hg5 hh5 hch hnb p_0 p_1 p_2 p_3 p_4 p_l
  obtain ⟨t, ht⟩ : ∃ t, actS s a = t := ⟨_, rfl⟩
  have HT : Hid (ScrOK t) := Lib.hid (by rw [← ht]; exact HOK.out.act HAC.out)
  have HTE := Lib.hid ht
  rw [ht] at HA5
  clear ht
  have s_0 := HA5.out.e0
  have s_1 := HA5.out.e1
  have s_2 := HA5.out.e2
  have s_3 := HA5.out.e3
  have s_4 := HA5.out.e4
  have s_5 := HA5.out.e5
  have s_6 := HA5.out.e6
  have s_7 := HA5.out.e7
  have s_8 := HA5.out.e8
  have s_9 := HA5.out.e9
  have s_10 := HA5.out.e10
  have s_11 := HA5.out.e11
  have s_l := HA5.out.lt
  have z_0 := HZ5.out.c 0
  have z_1 := HZ5.out.c 1
  have z_2 := HZ5.out.c 2
  have z_3 := HZ5.out.c 3
  have z_4 := HZ5.out.c 4
  have z_5 := HZ5.out.c 5
  have z_6 := HZ5.out.c 6
  have z_7 := HZ5.out.c 7
  have z_8 := HZ5.out.c 8
  have z_9 := HZ5.out.c 9
  have z_10 := HZ5.out.c 10
  have z_11 := HZ5.out.c 11
  have z_f := HZ5.out.fz
  have z_l := HZ5.out.lt
  have HOW := Lib.hid (l04Own_c t (some ⟨g5, 0, none⟩) c5 a5 d5 x5 HA5.out.rd (by rw [HT.out.cn]; exact Nat.mul_le_mul HT.out.w2 HT.out.h2) HT.out.hn)
  unfold scrV at HOW
  go_wp2_with fail
  refine HOW.out.mono ?_
  rintro e x6 ⟨a6, c6, b6, d6, rfl, hf6, hb6⟩
  have HF6 := Lib.hid hf6
  have HZ6 := Lib.hid (HZ5.out.below hb6)
  have HBW6 : Hid (Below w.heap.size w x6) := Lib.hid (HBW5.out.trans (hb6.mono HBW5.out.size))
  unfold scrV
  clear hf6 hb6 z_0 z_1 z_2 z_3 z_4 z_5 z_6 z_7 z_8 z_9 z_10 z_11 z_f z_l
  have z_0 := HZ6.out.c 0
  have z_1 := HZ6.out.c 1
  have z_2 := HZ6.out.c 2
  have z_3 := HZ6.out.c 3
  have z_4 := HZ6.out.c 4
  have z_5 := HZ6.out.c 5
  have z_6 := HZ6.out.c 6
  have z_7 := HZ6.out.c 7
  have z_8 := HZ6.out.c 8
  have z_9 := HZ6.out.c 9
  have z_10 := HZ6.out.c 10
  have z_11 := HZ6.out.c 11
  have z_f := HZ6.out.fz
  have z_l := HZ6.out.lt
  go_wp2_with fail
  refine bodyPost_ret (v := .tuple #[.agg #[.int .i64 (t.w : Int), .int .i64 (t.h : Int), .int .i64 (t.x : Int), .int .i64 (t.y : Int), .int .i64 (t.look : Int), .int .i64 (t.top : Int), .int .i64 (t.bot : Int), .int .i64 (t.sx : Int), .int .i64 (t.sy : Int), .string t.title, .slice a6 t.cells.length c6, .slice b6 t.hist.length d6], .int .i64 0]) (by simp [results, Tryz.results16, go_sem, z_0, z_1, z_2, z_3, z_4, z_5, z_6, z_7, z_8, z_9, z_10, z_11]) rfl ?_
  have hfin : ∀ wz, Ch (· = w.heap.size + 2) x6 wz → ScrF w.heap.size t a6 c6 b6 d6 wz ∧ Below w.heap.size w wz := fun wz hcz => by
    have h1 : ScrF (w.heap.size + 3) t a6 c6 b6 d6 x6 := HF6.out.low (by have := HBW5.out.size; have := HZ5.out.lt; omega)
    refine ⟨(h1.ch hcz (fun k hk e => ?_) (fun k hk e => ?_)).low ?_, (HBW6.out.trans (hcz.below HBW6.out.size (fun k h => by omega)))⟩
    · have := (FreshIn.blks h1.row k hk).1; omega
    · have := (h1.win.blk k hk).1; omega
    · omega
  rw [HTE.out]
  refine ⟨a6, c6, b6, d6, rfl, (hfin _ ?_).1, (hfin _ ?_).2⟩
  all_goals repeat (first | (with_reducible exact Ch.refl) | (with_reducible refine Ch.drew ?_) | (with_reducible refine Ch.setB ?_ _ _))
end
section
open Go.RowKit
theorem SrcAt.alloc {b K c : Nat} {a : Option Addr} {xs : List UInt8} {w : World} (h : SrcAt b a c xs K w) (o : Obj) : SrcAt b a c xs K (w.alloc o) := h.below ((Below.refl _ _).alloc (Nat.le_refl _) _)
theorem Mid.alloc {lo hi : Nat} {a w : World} (h : Mid lo hi a w) (o : Obj) : Mid lo hi a (w.alloc o) := h.trans (Mid.of_below _ _ ((Below.refl _ _).alloc (Nat.le_refl _) _))
theorem l00Source_c (a : Option Addr) (c : Nat) (xs : List UInt8) (w : World) (ha : Sl byteE 1 w a xs) (hl : xs.length ≤ 2097152) :
    Calls Tryz.prog 22 #[.slice a xs.length c] w fun e w' => e = .returned (.pointer (some ⟨w.heap.size, 0, none⟩)) ∧ SrcAt w.heap.size a c xs 0 w' ∧ Below w.heap.size w w' := by
  have HA := Lib.hid ha
  clear ha
  have hm : xs.length % 1000 < 1000 := Nat.mod_lt _ (by omega)
  have HM : Hid (((xs.length : Int) % 1000) = ((xs.length % 1000 : Nat) : Int)) := Lib.hid (by omega)
  go_enter Tryz.func22, Tryz.ntmps22
  go_wp2_with fail
  go_ret
  rw [HM.out]
  generalize xs.length % 1000 = q at hm ⊢
  refine ⟨rfl, ⟨0, q, hl, Nat.le_refl _, by omega, World.cell?_alloc_new _ _ _ _, World.cell?_alloc_new _ _ _ _, World.cell?_alloc_new _ _ _ _, fun o => by simp [go_sem], HA.out.alloc _, fun b' o e => ?_, by simp⟩, (Below.refl _ _).alloc (Nat.le_refl _) _⟩
  rcases HA.out with h | ⟨b2, o2, he, hlt, _⟩
  · exact .inl h
  · rw [he] at e
    cases e
    exact .inr (by omega)
def outL : List ByteArray := [⟨#[116, 101, 120, 116]⟩, ⟨#[97]⟩, ⟨#[13, 10]⟩, ⟨#[10]⟩, ⟨#[8]⟩, ⟨#[9]⟩, ⟨#[27, 91, 72]⟩, ⟨#[27, 91, 50, 74]⟩, ⟨#[27, 91, 75]⟩, ⟨#[27, 91, 49, 59, 51, 49, 109]⟩, ⟨#[27, 91, 48, 109]⟩, ⟨#[27, 91, 51, 59, 50, 72]⟩, ⟨#[27, 91, 50, 65]⟩, ⟨#[27, 91, 66]⟩, ⟨#[27, 91, 53, 67]⟩, ⟨#[27, 91, 68]⟩, ⟨#[27, 91, 50, 59, 52, 114]⟩, ⟨#[27, 91, 114]⟩, ⟨#[27, 91, 76]⟩, ⟨#[27, 91, 50, 77]⟩, ⟨#[27, 55]⟩, ⟨#[27, 56]⟩, ⟨#[27, 68]⟩, ⟨#[27, 77]⟩, ⟨#[27, 69]⟩, ⟨#[27, 99]⟩, ⟨#[27, 93, 48, 59, 116, 105, 116, 108, 101, 7]⟩, ⟨#[27, 93, 120, 27, 92]⟩, ⟨#[195, 164]⟩, ⟨#[226, 130, 172]⟩, ⟨#[240, 159, 152, 128]⟩, ⟨#[128]⟩, ⟨#[226, 40]⟩, ⟨#[27, 91, 63, 50, 53, 104]⟩, ⟨#[27, 91, 49, 59, 50, 59, 51, 59, 52, 59, 53, 59, 54, 59, 55, 59, 56, 59, 57, 109]⟩, ⟨#[27, 91, 57, 57, 57, 57, 57, 65]⟩, ⟨#[27, 91, 49, 36, 120]⟩, ⟨#[7]⟩, ⟨#[27, 91, 83]⟩, ⟨#[27, 91, 84]⟩, ⟨#[27, 91, 49, 74]⟩, ⟨#[27, 91, 49, 75]⟩, ⟨#[119, 114, 97, 112, 32, 97, 114, 111, 117, 110, 100, 32, 105, 116]⟩]
theorem outL_size : ∀ s ∈ outL, 1 ≤ s.size ∧ s.size ≤ 20 := by
  have h : outL.all (fun s => decide (1 ≤ s.size ∧ s.size ≤ 20)) = true := by decide
  intro s hs
  simpa using (List.all_eq_true.1 h) s hs
def TextR (b : Nat) (a : Option Addr) (c : Nat) (xs : List UInt8) (K : Nat) (P : ByteArray → Prop) (w : World) (e : Ending) (w' : World) : Prop := ∃ s : ByteArray, P s ∧ e = .returned (.string s) ∧ SrcAt b a c xs K w' ∧ Mid b (b + 1) w w'
def OutC (s : ByteArray) : Prop := ∃ L : List ByteArray, (∀ t ∈ L, t ∈ outL) ∧ s.data.toList = L.flatMap (fun t => t.data.toList)
theorem OutC.nil : OutC ⟨#[]⟩ := ⟨[], by simp, by simp⟩
theorem OutC.snoc {s t : ByteArray} (h : OutC s) (ht : t ∈ outL) : OutC (s ++ t) := by
  obtain ⟨L, h1, h2⟩ := h
  refine ⟨L ++ [t], fun u hu => ?_, ?_⟩
  · rcases List.mem_append.1 hu with hu | hu
    · exact h1 u hu
    · simp at hu; subst hu; exact ht
  · rw [List.flatMap_append, ← h2]
    simp [ByteArray.data_append]
theorem srcOutputC_c (b : Nat) (a : Option Addr) (c : Nat) (xs : List UInt8) (K : Nat) (w : World) (h : SrcAt b a c xs K w) (hK : K ≤ 1000000000) :
    Calls Tryz.prog 42 #[.pointer (some ⟨b, 0, none⟩)] w (TextR b a c xs (K + 9) (fun s => OutC s ∧ 1 ≤ s.size ∧ s.size ≤ 200) w) := by
  have HN := Lib.hid (srcNext_c b a c xs K 8 w h (by omega) (by omega) (by omega))
  have hb0 : b < w.heap.size := h.lt
  clear h
  go_enter Tryz.func42, Tryz.ntmps42
  go_wp2_with fail
  refine HN.out.mono ?_
  rintro e w1 ⟨m, hm, rfl, hs1, hm1⟩
  have ew : IntKind.i64.wrap (1 + (m : Int)) = 1 + (m : Int) := IntWalk.i64_in _ ⟨by omega, by omega⟩
  have HS1 := Lib.hid hs1
  have HM1 := Lib.hid hm1
  clear hs1 hm1
  go_wp2_with fail
  go_loopw [3, 4] (fun ov iv wr => ∃ (s : ByteArray) (i : Nat), ov = .string s ∧ iv = .int .i64 i ∧ i ≤ 8 ∧ s.size + 20 * i ≤ 160 ∧ Hid ((i = 0 → 1 ≤ s.size) ∧ OutC s) ∧ SrcAt b a c xs (K + 9 - i) wr ∧ Mid b (b + 1) w wr) (fun _ iv _ => (intOf iv).toNat)
  case atStart => exact ⟨⟨#[]⟩, 1 + m, rfl, (by first | rfl | (simp) | (congr 1; omega)), by omega, (by show 0 + _ ≤ _; omega), Lib.hid ⟨fun h => by omega, OutC.nil⟩, HS1.out.mono (by omega), HM1.out⟩
  case round =>
    obtain ⟨s, i, rfl, rfl, hi8, hsz, hpos, hsrc, hmid⟩ := hrel
    have HP := hpos
    have HS := Lib.hid hsrc
    have HM := Lib.hid hmid
    have hz := hmid.size
    clear hpos hsrc hmid
    by_cases h0 : 0 < i
    · have h0' : (0 : Int) < (i : Int) := by omega
      have ei : IntKind.i64.wrap ((i : Int) - 1) = (i : Int) - 1 := IntWalk.i64_in _ ⟨by omega, by omega⟩
      have HSa := Lib.hid (HS.out.alloc (.cells #[.string ⟨#[116, 101, 120, 116]⟩, .string ⟨#[97]⟩, .string ⟨#[13, 10]⟩, .string ⟨#[10]⟩, .string ⟨#[8]⟩, .string ⟨#[9]⟩, .string ⟨#[27, 91, 72]⟩, .string ⟨#[27, 91, 50, 74]⟩, .string ⟨#[27, 91, 75]⟩, .string ⟨#[27, 91, 49, 59, 51, 49, 109]⟩, .string ⟨#[27, 91, 48, 109]⟩, .string ⟨#[27, 91, 51, 59, 50, 72]⟩, .string ⟨#[27, 91, 50, 65]⟩, .string ⟨#[27, 91, 66]⟩, .string ⟨#[27, 91, 53, 67]⟩, .string ⟨#[27, 91, 68]⟩, .string ⟨#[27, 91, 50, 59, 52, 114]⟩, .string ⟨#[27, 91, 114]⟩, .string ⟨#[27, 91, 76]⟩, .string ⟨#[27, 91, 50, 77]⟩, .string ⟨#[27, 55]⟩, .string ⟨#[27, 56]⟩, .string ⟨#[27, 68]⟩, .string ⟨#[27, 77]⟩, .string ⟨#[27, 69]⟩, .string ⟨#[27, 99]⟩, .string ⟨#[27, 93, 48, 59, 116, 105, 116, 108, 101, 7]⟩, .string ⟨#[27, 93, 120, 27, 92]⟩, .string ⟨#[195, 164]⟩, .string ⟨#[226, 130, 172]⟩, .string ⟨#[240, 159, 152, 128]⟩, .string ⟨#[128]⟩, .string ⟨#[226, 40]⟩, .string ⟨#[27, 91, 63, 50, 53, 104]⟩, .string ⟨#[27, 91, 49, 59, 50, 59, 51, 59, 52, 59, 53, 59, 54, 59, 55, 59, 56, 59, 57, 109]⟩, .string ⟨#[27, 91, 57, 57, 57, 57, 57, 65]⟩, .string ⟨#[27, 91, 49, 36, 120]⟩, .string ⟨#[7]⟩, .string ⟨#[27, 91, 83]⟩, .string ⟨#[27, 91, 84]⟩, .string ⟨#[27, 91, 49, 74]⟩, .string ⟨#[27, 91, 49, 75]⟩, .string ⟨#[119, 114, 97, 112, 32, 97, 114, 111, 117, 110, 100, 32, 105, 116]⟩] 9))
      have HL : Hid (Sl strE 1 (wr.alloc (.cells #[.string ⟨#[116, 101, 120, 116]⟩, .string ⟨#[97]⟩, .string ⟨#[13, 10]⟩, .string ⟨#[10]⟩, .string ⟨#[8]⟩, .string ⟨#[9]⟩, .string ⟨#[27, 91, 72]⟩, .string ⟨#[27, 91, 50, 74]⟩, .string ⟨#[27, 91, 75]⟩, .string ⟨#[27, 91, 49, 59, 51, 49, 109]⟩, .string ⟨#[27, 91, 48, 109]⟩, .string ⟨#[27, 91, 51, 59, 50, 72]⟩, .string ⟨#[27, 91, 50, 65]⟩, .string ⟨#[27, 91, 66]⟩, .string ⟨#[27, 91, 53, 67]⟩, .string ⟨#[27, 91, 68]⟩, .string ⟨#[27, 91, 50, 59, 52, 114]⟩, .string ⟨#[27, 91, 114]⟩, .string ⟨#[27, 91, 76]⟩, .string ⟨#[27, 91, 50, 77]⟩, .string ⟨#[27, 55]⟩, .string ⟨#[27, 56]⟩, .string ⟨#[27, 68]⟩, .string ⟨#[27, 77]⟩, .string ⟨#[27, 69]⟩, .string ⟨#[27, 99]⟩, .string ⟨#[27, 93, 48, 59, 116, 105, 116, 108, 101, 7]⟩, .string ⟨#[27, 93, 120, 27, 92]⟩, .string ⟨#[195, 164]⟩, .string ⟨#[226, 130, 172]⟩, .string ⟨#[240, 159, 152, 128]⟩, .string ⟨#[128]⟩, .string ⟨#[226, 40]⟩, .string ⟨#[27, 91, 63, 50, 53, 104]⟩, .string ⟨#[27, 91, 49, 59, 50, 59, 51, 59, 52, 59, 53, 59, 54, 59, 55, 59, 56, 59, 57, 109]⟩, .string ⟨#[27, 91, 57, 57, 57, 57, 57, 65]⟩, .string ⟨#[27, 91, 49, 36, 120]⟩, .string ⟨#[7]⟩, .string ⟨#[27, 91, 83]⟩, .string ⟨#[27, 91, 84]⟩, .string ⟨#[27, 91, 49, 74]⟩, .string ⟨#[27, 91, 49, 75]⟩, .string ⟨#[119, 114, 97, 112, 32, 97, 114, 111, 117, 110, 100, 32, 105, 116]⟩] 9)) (some ⟨wr.heap.size, 0, none⟩) outL) := Lib.hid (Sl.boxM (enc := strE) (sz := 1) (fun _ => rfl) outL #[.string ⟨#[116, 101, 120, 116]⟩, .string ⟨#[97]⟩, .string ⟨#[13, 10]⟩, .string ⟨#[10]⟩, .string ⟨#[8]⟩, .string ⟨#[9]⟩, .string ⟨#[27, 91, 72]⟩, .string ⟨#[27, 91, 50, 74]⟩, .string ⟨#[27, 91, 75]⟩, .string ⟨#[27, 91, 49, 59, 51, 49, 109]⟩, .string ⟨#[27, 91, 48, 109]⟩, .string ⟨#[27, 91, 51, 59, 50, 72]⟩, .string ⟨#[27, 91, 50, 65]⟩, .string ⟨#[27, 91, 66]⟩, .string ⟨#[27, 91, 53, 67]⟩, .string ⟨#[27, 91, 68]⟩, .string ⟨#[27, 91, 50, 59, 52, 114]⟩, .string ⟨#[27, 91, 114]⟩, .string ⟨#[27, 91, 76]⟩, .string ⟨#[27, 91, 50, 77]⟩, .string ⟨#[27, 55]⟩, .string ⟨#[27, 56]⟩, .string ⟨#[27, 68]⟩, .string ⟨#[27, 77]⟩, .string ⟨#[27, 69]⟩, .string ⟨#[27, 99]⟩, .string ⟨#[27, 93, 48, 59, 116, 105, 116, 108, 101, 7]⟩, .string ⟨#[27, 93, 120, 27, 92]⟩, .string ⟨#[195, 164]⟩, .string ⟨#[226, 130, 172]⟩, .string ⟨#[240, 159, 152, 128]⟩, .string ⟨#[128]⟩, .string ⟨#[226, 40]⟩, .string ⟨#[27, 91, 63, 50, 53, 104]⟩, .string ⟨#[27, 91, 49, 59, 50, 59, 51, 59, 52, 59, 53, 59, 54, 59, 55, 59, 56, 59, 57, 109]⟩, .string ⟨#[27, 91, 57, 57, 57, 57, 57, 65]⟩, .string ⟨#[27, 91, 49, 36, 120]⟩, .string ⟨#[7]⟩, .string ⟨#[27, 91, 83]⟩, .string ⟨#[27, 91, 84]⟩, .string ⟨#[27, 91, 49, 74]⟩, .string ⟨#[27, 91, 49, 75]⟩, .string ⟨#[119, 114, 97, 112, 32, 97, 114, 111, 117, 110, 100, 32, 105, 116]⟩] 9 rfl wr.heap.size rfl)
      go_wp2_with fail
      refine (srcPick_c b a c xs (K + 9 - i) (some ⟨wr.heap.size, 0, none⟩) 43 outL _ HSa.out (by omega) HL.out (fun b' o h => by cases h; omega) (by decide) (by decide)).mono ?_
      rintro e w2 ⟨t, ht, rfl, hs2, hm2⟩
      have hts := outL_size t ht
      have HOC := Lib.hid (HP.out.2.snoc ht)
      have HS2 := Lib.hid hs2
      have HM2 : Hid (Mid b (b + 1) w w2) := (HM.out.alloc _).trans hm2
      have hsize : (s ++ t).size = s.size + t.size := ByteArray.size_append
      have HSZ := Lib.hid hsize
      clear hs2 hm2 ht HSa HL hsize
      go_wp2_with fail
      go_roundw
      case rel => exact ⟨s ++ t, i - 1, rfl, (by congr 1; omega), by omega, (by rw [HSZ.out]; omega), Lib.hid ⟨fun _ => by rw [HSZ.out]; omega, HOC.out⟩, HS2.out.mono (by omega), HM2.out⟩
      case measure => simp [intOf]; omega
    · obtain rfl : i = 0 := by omega
      go_wp2_with fail
      go_ret
      exact ⟨s, ⟨HP.out.2, by first | exact HP.out.1 rfl | exact HP.out.1 trivial, by omega⟩, rfl, HS.out, HM.out⟩
end
section
open Go.RowKit
def goodA (a : AV) : Prop := a.kind = 4 → a.n = 109 → ∀ x ∈ a.args, x = 0 ∨ x = 1 ∨ x = 31
def goodB (a : AV) : Bool := !(a.kind == 4) || !(a.n == 109) || a.args.all fun x => x == 0 || x == 1 || x == 31
def pzB (p : PV) : Bool := p.state == 0 && p.args.isEmpty && !p.priv && p.text.size == 0 && p.utf.size == 0
theorem goodB_spec {a : AV} (h : goodB a = true) : goodA a := by
  intro hk hn x hx
  simp only [goodB, hk, hn, beq_self_eq_true, Bool.not_true, Bool.false_or, List.all_eq_true, Bool.or_eq_true, beq_iff_eq] at h
  rcases h x hx with (h | h) | h
  · exact .inl h
  · exact .inr (.inl h)
  · exact .inr (.inr h)
theorem pzB_spec {p : PV} (h : pzB p = true) : p = pz := by
  obtain ⟨st, ar, pv, tx, ut⟩ := p
  simp only [pzB, Bool.and_eq_true, beq_iff_eq, List.isEmpty_iff, Bool.not_eq_true'] at h
  obtain ⟨⟨⟨⟨rfl, rfl⟩, rfl⟩, h1⟩, h2⟩ := h
  rw [size_e0.1 h1, size_e0.1 h2]
  rfl
theorem outB : outL.all (fun t => pzB (prun pz t.data.toList).1 && (prun pz t.data.toList).2.all goodB) = true := by decide +kernel
theorem out_run {t : ByteArray} (h : t ∈ outL) : (prun pz t.data.toList).1 = pz ∧ ∀ a ∈ (prun pz t.data.toList).2, goodA a := by
  have h1 := List.all_eq_true.1 outB t h
  simp only [Bool.and_eq_true, List.all_eq_true] at h1
  exact ⟨pzB_spec h1.1, fun a ha => goodB_spec (h1.2 a ha)⟩
theorem outC_run {s : ByteArray} (h : OutC s) : (prun pz s.data.toList).1 = pz ∧ ∀ a ∈ (prun pz s.data.toList).2, goodA a := by
  obtain ⟨L, h1, h2⟩ := h
  rw [h2]
  clear h2
  induction L with
  | nil => exact ⟨rfl, fun a ha => by cases ha⟩
  | cons t L ih =>
    have h3 := out_run (h1 t (by simp))
    have h4 := ih (fun u hu => h1 u (by simp [hu]))
    rw [List.flatMap_cons, prun_append, h3.1]
    refine ⟨h4.1, fun a ha => ?_⟩
    rcases List.mem_append.1 ha with ha | ha
    · exact h3.2 a ha
    · exact h4.2 a ha
theorem look_good : ∀ l : Fin 128, l.val &&& 48 = 0 → lookN l.val 0 &&& 48 = 0 ∧ lookN l.val 1 &&& 48 = 0 ∧ lookN l.val 31 &&& 48 = 0 := by decide +kernel
theorem lookN_good {l : Nat} (h : l ≤ 127) (h0 : l &&& 48 = 0) {x : Int} (hx : x = 0 ∨ x = 1 ∨ x = 31) : lookN l x &&& 48 = 0 := by
  have h1 := look_good ⟨l, by omega⟩ h0
  rcases hx with rfl | rfl | rfl
  · exact h1.1
  · exact h1.2.1
  · exact h1.2.2
theorem looks_good {l : Nat} (h : l ≤ 127) (h0 : l &&& 48 = 0) : ∀ xs : List Int, (∀ x ∈ xs, x = 0 ∨ x = 1 ∨ x = 31) → xs.foldl lookN l &&& 48 = 0 := by
  intro xs
  induction xs generalizing l with
  | nil => intro _; exact h0
  | cons x xs ih =>
    intro hx
    rw [List.foldl_cons]
    exact ih (lookN_ok h x) (lookN_good h h0 (hx x (by simp))) (fun y hy => hx y (by simp [hy]))
theorem printS_look (s : Scr) (n : Int) : (printS s n).look = s.look := by
  unfold printS putS wrapS
  simp only
  split
  · exact (downS_same _).2.2.2
  · rfl
theorem upS_look (s : Scr) : (upS s).look = s.look := by unfold upS; split <;> rfl
theorem ctlS_look (s : Scr) (n : Int) : (ctlS s n).look = s.look := by
  unfold ctlS
  repeat' split
  all_goals first | rfl | exact (downS_same _).2.2.2
theorem escS_look (s : Scr) (n : Int) : (escS s n).look = s.look ∨ (escS s n).look = 0 := by
  unfold escS
  repeat' split
  all_goals first | exact .inl rfl | exact .inr rfl | exact .inl (downS_same _).2.2.2 | exact .inl (upS_look _)
theorem eraS_look (s : Scr) (n : Int) (f t : Nat) : (eraS s n f t).look = s.look := by
  unfold eraS
  split
  · rfl
  split
  · rfl
  split <;> rfl
theorem csiS_look (s : Scr) (c : Int) (xs : List Int) (h : ¬ c = 109) : (csiS s c xs).look = s.look := by
  have hU := fun k a b n => (scU_same k a b s n).2.2.2.2.1
  have hD := fun a b n => (scD_same a b s n).2.2.2.2.1
  unfold csiS
  refine ite_ok (P := fun t : Scr => t.look = s.look) (fun _ => rfl) (fun _ => ?_)
  refine ite_ok (P := fun t : Scr => t.look = s.look) (fun _ => rfl) (fun _ => ?_)
  refine ite_ok (P := fun t : Scr => t.look = s.look) (fun _ => rfl) (fun _ => ?_)
  refine ite_ok (P := fun t : Scr => t.look = s.look) (fun _ => rfl) (fun _ => ?_)
  refine ite_ok (P := fun t : Scr => t.look = s.look) (fun _ => rfl) (fun _ => ?_)
  refine ite_ok (P := fun t : Scr => t.look = s.look) (fun _ => eraS_look _ _ _ _) (fun _ => ?_)
  refine ite_ok (P := fun t : Scr => t.look = s.look) (fun _ => eraS_look _ _ _ _) (fun _ => ?_)
  refine ite_ok (P := fun t : Scr => t.look = s.look) (fun _ => ite_ok (P := fun t : Scr => t.look = s.look) (fun _ => hD _ _ _) (fun _ => rfl)) (fun _ => ?_)
  refine ite_ok (P := fun t : Scr => t.look = s.look) (fun _ => ite_ok (P := fun t : Scr => t.look = s.look) (fun _ => hU _ _ _ _) (fun _ => rfl)) (fun _ => ?_)
  refine ite_ok (P := fun t : Scr => t.look = s.look) (fun _ => hU _ _ _ _) (fun _ => ?_)
  refine ite_ok (P := fun t : Scr => t.look = s.look) (fun _ => hD _ _ _) (fun _ => ?_)
  refine ite_ok (P := fun t : Scr => t.look = s.look) (fun h1 => absurd h1 h) (fun _ => ?_)
  refine ite_ok (P := fun t : Scr => t.look = s.look) (fun _ => ite_ok (P := fun t : Scr => t.look = s.look) (fun _ => rfl) (fun _ => rfl)) (fun _ => rfl)
theorem actS_good {s : Scr} {a : AV} (ok : ScrOK s) (hl : s.look &&& 48 = 0) (ha : goodA a) : (actS s a).look &&& 48 = 0 := by
  obtain ⟨kd, n, pv, xs, tx⟩ := a
  unfold actS
  refine ite_ok (P := fun t : Scr => t.look &&& 48 = 0) (fun _ => by rw [printS_look]; exact hl) (fun _ => ?_)
  refine ite_ok (P := fun t : Scr => t.look &&& 48 = 0) (fun _ => by rw [ctlS_look]; exact hl) (fun _ => ?_)
  refine ite_ok (P := fun t : Scr => t.look &&& 48 = 0) (fun _ => by rcases escS_look s n with h | h <;> rw [h] <;> first | exact hl | rfl) (fun _ => ?_)
  refine ite_ok (P := fun t : Scr => t.look &&& 48 = 0) (fun hk => ?_) (fun _ => ?_)
  · refine ite_ok (P := fun t : Scr => t.look &&& 48 = 0) (fun _ => hl) (fun hp => ?_)
    by_cases h9 : n = 109
    · subst h9
      exact looks_good ok.lk hl xs (ha hk rfl)
    · rw [csiS_look s n xs h9]
      exact hl
  · exact ite_ok (P := fun t : Scr => t.look &&& 48 = 0) (fun _ => hl) (fun _ => hl)
theorem actsS_good {s : Scr} (ok : ScrOK s) (hl : s.look &&& 48 = 0) : ∀ {l : List AV}, (∀ a ∈ l, AcOK a) → (∀ a ∈ l, goodA a) → (actsS s l).look &&& 48 = 0 := by
  intro l
  induction l generalizing s with
  | nil => intro _ _; exact hl
  | cons a l ih =>
    intro h1 h2
    exact ih (ok.act (h1 a (by simp))) (actS_good ok hl (h2 a (by simp))) (fun b hb => h1 b (by simp [hb])) (fun b hb => h2 b (by simp [hb]))
end
section
open Go.RowKit
theorem look_same : ∀ l : Fin 128, l.val &&& 48 = 0 → (lookI l.val 0 = lookN l.val 0 ∧ lookN l.val 0 &&& 48 = 0) ∧ (lookI l.val 1 = lookN l.val 1 ∧ lookN l.val 1 &&& 48 = 0) ∧ (lookI l.val 31 = lookN l.val 31 ∧ lookN l.val 31 &&& 48 = 0) := by decide +kernel
theorem looks_same {l : Nat} (h : l ≤ 127) (h0 : l &&& 48 = 0) : ∀ xs : List Int, (∀ x ∈ xs, x = 0 ∨ x = 1 ∨ x = 31) → xs.foldl lookI l = xs.foldl lookN l ∧ xs.foldl lookN l &&& 48 = 0 := by
  intro xs
  induction xs generalizing l with
  | nil => intro _; exact ⟨rfl, h0⟩
  | cons x xs ih =>
    intro hx
    have h1 := look_same ⟨l, by omega⟩ h0
    have h2 : lookI l x = lookN l x ∧ lookN l x &&& 48 = 0 := by
      rcases hx x (by simp) with rfl | rfl | rfl
      · exact h1.1
      · exact h1.2.1
      · exact h1.2.2
    rw [List.foldl_cons, List.foldl_cons, h2.1]
    exact ih (lookN_ok h x) h2.2 (fun y hy => hx y (by simp [hy]))
theorem actI_same {s : Scr} {a : AV} (ok : ScrOK s) (hl : s.look &&& 48 = 0) (ha : goodA a) : actI s a = actS s a := by
  obtain ⟨kd, n, pv, xs, tx⟩ := a
  unfold actI
  by_cases h4 : kd = 4 ∧ pv = false
  · obtain ⟨rfl, rfl⟩ := h4
    rw [if_pos ⟨rfl, rfl⟩]
    have e : actS s ⟨4, n, false, xs, tx⟩ = csiS s n xs := rfl
    rw [e]
    unfold csiI
    by_cases h9 : n = 109
    · subst h9
      have h1 := looks_same ok.lk hl xs (ha rfl rfl)
      have e2 : csiS s 109 xs = { s with look := xs.foldl lookN s.look } := rfl
      show (if (109 : Int) = 109 then ({ s with look := xs.foldl lookI s.look } : Scr) else csiS s 109 xs) = _
      rw [if_pos rfl, e2, h1.1]
    · rw [if_neg h9]
  · rw [if_neg h4]
end
section
open Go.RowKit
theorem AcOK.xs {xs : List Int} (h : argsB xs = true) : xs.length ≤ 8 ∧ ∀ x ∈ xs, -1 ≤ x ∧ x ≤ 9999 := by
  simp only [argsB, Bool.and_eq_true, decide_eq_true_eq, List.all_eq_true] at h
  exact ⟨h.1.2, fun x hx => by have := h.2 x hx; simpa [inB] using this⟩
end
section
open Go.RowKit
def phi (p : PV) : Nat := if p.state = 0 ∨ p.state = 1 ∨ p.state = 2 ∨ p.state = 3 ∨ p.state = 4 ∨ p.state = 5 then 0 else 1
theorem phi_le (p : PV) : phi p ≤ 1 := by unfold phi; split <;> omega
theorem phi_pz : phi pz = 0 := rfl
theorem phi_pst1 : phi (pst 1) = 0 := rfl
theorem phi_pst3 : phi (pst 3) = 0 := rfl
theorem phi_pst4 : phi (pst 4) = 0 := rfl
theorem gstep_len (b : UInt8) : (gstep b).2.length + phi (gstep b).1 ≤ 1 := by
  unfold gstep
  repeat' split
  all_goals simp only [phi_pz, phi_pst1, List.length_nil, List.length_cons]
  all_goals first | omega | (have := phi_le ⟨6, [], false, e0, ⟨#[b]⟩⟩; omega)
theorem estep_len (b : UInt8) : (estep b).2.length + phi (estep b).1 ≤ 1 := by
  unfold estep
  repeat' split
  all_goals simp only [phi_pz, phi_pst1, phi_pst4, List.length_nil, List.length_cons]
  all_goals first | omega | (have := phi_le ⟨2, [-1], false, e0, e0⟩; omega)
theorem pstep_len (p : PV) (b : UInt8) : (pstep p b).2.length + phi (pstep p b).1 ≤ 1 + phi p := by
  unfold pstep
  split
  · have := gstep_len b; omega
  split
  · have := estep_len b; omega
  split
  · rename_i h
    unfold cstep
    repeat' split
    all_goals simp only [phi_pz, phi_pst1, phi_pst3, List.length_nil, List.length_cons]
    all_goals first | omega | (simp only [phi, h]; simp)
  split
  · rename_i h
    unfold sstep
    repeat' split
    all_goals simp only [phi_pz, phi_pst1, List.length_nil, List.length_cons]
    all_goals first | omega | (simp only [phi, h]; simp)
  split
  · rename_i h
    unfold ostep
    repeat' split
    all_goals simp only [phi_pz, phi_pst1, List.length_nil, List.length_cons]
    all_goals first | omega | (simp only [phi, h]; simp)
  split
  · rename_i h
    unfold qstep
    split
    · simp only [phi_pz, List.length_cons, List.length_nil]; omega
    · have := estep_len b; omega
  · rename_i h0 h1 h2 h3 h4 h5
    have hp : phi p = 1 := by unfold phi; rw [if_neg (by omega)]
    unfold ustep
    split
    · have := gstep_len b
      simp only [List.length_cons]
      omega
    split
    · have := phi_le { p with utf := p.utf ++ ⟨#[b]⟩ }
      simp only [List.length_nil]
      omega
    · simp only [phi_pz, List.length_cons, List.length_nil]; omega
theorem prun_len (l : List UInt8) (p : PV) : (prun p l).2.length + phi (prun p l).1 ≤ l.length + phi p := by
  induction l generalizing p with
  | nil => simp [prun]
  | cons b l ih =>
    have h1 := pstep_len p b
    have h2 := ih (pstep p b).1
    simp only [prun, List.length_append, List.length_cons]
    omega
theorem prun_len0 (l : List UInt8) : (prun pz l).2.length ≤ l.length := by
  have := prun_len l pz
  rw [phi_pz] at this
  omega
end
section
open Go.RowKit
def ActR (w : World) (e : Ending) (w' : World) : Prop :=
  ∃ (A : AV) (aa : Option Addr) (ca : Nat), (AcOK A ∧ goodA A) ∧ e = .returned (.agg #[.int .i64 A.kind, .int .i64 A.n, .bool A.priv, .slice aa A.args.length ca, .string A.text]) ∧ FreshIn intE 3 1 w.heap.size w'.heap.size (.slice aa A.args.length ca) A.args w'
theorem acX : AcOK ⟨1, 120, false, [], e0⟩ ∧ goodA ⟨1, 120, false, [], e0⟩ := ⟨.inr ⟨rfl, rfl, .inr ⟨rfl, .inl ⟨rfl, by unfold rnOK; simp only; omega⟩⟩⟩, fun h => absurd h (by show ¬ (1 : Int) = 4; decide)⟩
theorem Mid.thenB {lo hi : Nat} {w w2 wz : World} (h : Mid lo hi w w2) (hb : Below w.heap.size w2 wz) : Mid lo hi w wz := ⟨hb.os.trans h.os, hb.tape.trans h.tape, hb.output.trans h.output, Nat.le_trans h.size hb.size, fun k hk ho => (hb.block k hk).trans (h.block k hk ho)⟩
theorem action_c (b : Nat) (a : Option Addr) (c : Nat) (xs : List UInt8) (w : World) (h : SrcAt b a c xs 0 w) :
    Calls Tryz.prog 34 #[.pointer (some ⟨b, 0, none⟩)] w fun e w' => ActR w e w' ∧ Mid b (b + 1) w w' := by
  have HO := fun w1 (h1 : SrcAt b a c xs 0 w1) => srcOutputC_c b a c xs 0 w1 h1 (by omega)
  have HRUN : ∀ (w1 : World) (ap : Option Addr) (cp : Nat) (s : ByteArray), s.size ≤ 200 → Calls Tryz.prog 68 #[.agg #[.int .i64 0, .slice ap 0 cp, .bool false, .string ⟨#[]⟩, .string ⟨#[]⟩], .string s] w1 (OutP (prun pz s.data.toList) w1) := fun w1 ap cp s hs => run_r ap cp pz s w1 (.inl rfl) (by omega) PvOK.z
  have hb0 : b < w.heap.size := h.lt
  have HS := Lib.hid h
  clear h
  go_enter Tryz.func34, Tryz.ntmps34
  go_wp2_with fail
  refine (HO _ ((HS.out.alloc _).alloc _)).mono ?_
  rintro e w1 ⟨s, ⟨hoc, hs1, hs2⟩, rfl, hsrc, hm1⟩
  have HOC := Lib.hid hoc
  clear hoc
  have HS1 := Lib.hid hsrc
  have HM1 := Lib.hid hm1
  have hz1 := hm1.size
  clear hsrc hm1 HO
  go_wp2_with fail
  refine (HRUN w1 _ _ s hs2).mono ?_
  rintro e w2 ⟨ap2, cp2, al2, cl2, L, rfl, hf, hro, hd, hL, hb2⟩
  have HRO := Lib.hid hro
  have HS2 := Lib.hid (HS1.out.below hb2)
  have HB2 := Lib.hid hb2
  have hz2 := hb2.size
  have HOK : Hid (∀ r ∈ L, AcOK r.A ∧ goodA r.A) := Lib.hid (fun r hr => ⟨prun_ac s.data.toList PvOK.z r.A (by rw [← hL]; exact List.mem_map_of_mem hr), (outC_run HOC.out).2 r.A (by rw [← hL]; exact List.mem_map_of_mem hr)⟩)
  have HLN : Hid (L.length ≤ 200) := Lib.hid (by
    have h1 := prun_len0 s.data.toList
    have h2 : s.data.toList.length = s.size := by rw [Array.length_toList]; rfl
    have h3 := congrArg List.length hL
    rw [List.length_map] at h3
    omega)
  clear hf hro hd hL hb2 HRUN
  have u0 : w2.cell? ⟨w.heap.size, 0, none⟩ = some (.int .i64 0) := (HB2.out.cell (p := ⟨w.heap.size, 0, none⟩) (by show w.heap.size < _; simp at hz1; omega)).trans ((HM1.out.cell (p := ⟨w.heap.size, 0, none⟩) (by show w.heap.size < _; simp; omega) (.inr (by show b + 1 ≤ w.heap.size; omega))).trans (by simp [go_sem]))
  have u1 : w2.cell? ⟨w.heap.size, 1, none⟩ = some (.int .i64 0) := (HB2.out.cell (p := ⟨w.heap.size, 1, none⟩) (by show w.heap.size < _; simp at hz1; omega)).trans ((HM1.out.cell (p := ⟨w.heap.size, 1, none⟩) (by show w.heap.size < _; simp; omega) (.inr (by show b + 1 ≤ w.heap.size; omega))).trans (by simp [go_sem]))
  have u2 : w2.cell? ⟨w.heap.size, 2, none⟩ = some (.bool false) := (HB2.out.cell (p := ⟨w.heap.size, 2, none⟩) (by show w.heap.size < _; simp at hz1; omega)).trans ((HM1.out.cell (p := ⟨w.heap.size, 2, none⟩) (by show w.heap.size < _; simp; omega) (.inr (by show b + 1 ≤ w.heap.size; omega))).trans (by simp [go_sem]))
  have u3 : w2.cell? ⟨w.heap.size, 3, none⟩ = some (.slice none 0 0) := (HB2.out.cell (p := ⟨w.heap.size, 3, none⟩) (by show w.heap.size < _; simp at hz1; omega)).trans ((HM1.out.cell (p := ⟨w.heap.size, 3, none⟩) (by show w.heap.size < _; simp; omega) (.inr (by show b + 1 ≤ w.heap.size; omega))).trans (by simp [go_sem]))
  have u4 : w2.cell? ⟨w.heap.size, 4, none⟩ = some (.string ⟨#[]⟩) := (HB2.out.cell (p := ⟨w.heap.size, 4, none⟩) (by show w.heap.size < _; simp at hz1; omega)).trans ((HM1.out.cell (p := ⟨w.heap.size, 4, none⟩) (by show w.heap.size < _; simp; omega) (.inr (by show b + 1 ≤ w.heap.size; omega))).trans (by simp [go_sem]))
  have uf : ∀ o, w2.frozen? ⟨w.heap.size, o, none⟩ = false := fun o => (HB2.out.frozen (p := ⟨w.heap.size, o, none⟩) (by show w.heap.size < _; simp at hz1; omega)).trans ((HM1.out.frozen (p := ⟨w.heap.size, o, none⟩) (by show w.heap.size < _; simp; omega) (.inr (by show b + 1 ≤ w.heap.size; omega))).trans (by simp [go_sem]))
  have ul : w.heap.size < w2.heap.size := by simp at hz1; omega
  obtain ⟨R, hR⟩ : ∃ R, (prun pz s.data.toList).1 = R := ⟨_, rfl⟩
  rw [hR]
  clear hR
  have HMID : Hid (Mid b (b + 1) w w2) := Lib.hid ((((Mid.of_below b (b + 1) ((Below.refl w.heap.size w).alloc (Nat.le_refl _) _)).alloc _).trans HM1.out).trans (Mid.of_below b (b + 1) HB2.out))
  clear HM1 HB2 HS1
  by_cases h0 : L.length = 0
  · have g0 : ((L.length : Int) == 0) = true := beq_iff_eq.2 (by omega)
    go_wp2_with fail
    refine bodyPost_ret (v := .agg #[.int .i64 1, .int .i64 120, .bool false, .slice (some ⟨w2.heap.size + 1, 0, none⟩) 0 0, .string ⟨#[]⟩]) (by simp [results, Tryz.results34, go_sem, u0, u1, u2, u3, u4, ul]) rfl ?_
    refine ⟨⟨⟨1, 120, false, [], e0⟩, some ⟨w2.heap.size + 1, 0, none⟩, 0, acX, rfl, fresh_zero w.heap.size _ (w2.heap.size + 1) (by simp) (by simp; omega)⟩, HMID.out.thenB (Ch.below (M := fun k => k = w.heap.size) ?_ (by omega) (fun k h => by omega))⟩
    repeat (first | (with_reducible exact Ch.refl) | (with_reducible refine Ch.alloc ?_ _) | (with_reducible refine Ch.setB ?_ _ _))
  · have g0 : ((L.length : Int) == 0) = false := beq_eq_false_iff_ne.2 (by omega)
    have HN := Lib.hid (srcNext_c b a c xs 9 L.length (w2.alloc (.cells #[.int .i64 R.state, .slice ap2 R.args.length cp2, .bool R.priv, .string R.text, .string R.utf] 42)) (HS2.out.alloc _) (by omega) (by omega) (by have := HLN.out; omega))
    go_wp2_with fail
    refine HN.out.mono ?_
    rintro e w3 ⟨n, hn, rfl, hs3, hm3⟩
    have hz3 := hm3.size
    simp only [World.size_alloc] at hz3
    have hz0 : w.heap.size + 1 < w1.heap.size := by simp at hz1; omega
    have HA : Hid (Sl actE 5 w2 al2 L) := Lib.hid (HRO.out.row.sl (fun _ => rfl))
    obtain ⟨b1, o1, rfl, hb1, hc1⟩ := HA.out.at hn
    have hb1' := (FreshIn.blks HRO.out.row b1 (by simp [blkOf])).1
    obtain ⟨r, hr⟩ : ∃ r, L[n] = r := ⟨_, rfl⟩
    have hrm : r ∈ L := hr ▸ List.getElem_mem hn
    have HAC := Lib.hid (HOK.out r hrm)
    have v0 : w3.cell? ⟨w.heap.size, 0, none⟩ = some (.int .i64 0) := (hm3.cell (p := ⟨w.heap.size, 0, none⟩) (by show w.heap.size < _; simp; omega) (.inr (by show b + 1 ≤ w.heap.size; omega))).trans ((World.cell?_alloc_lt _ _ _ ul).trans u0)
    have v1 : w3.cell? ⟨w.heap.size, 1, none⟩ = some (.int .i64 0) := (hm3.cell (p := ⟨w.heap.size, 1, none⟩) (by show w.heap.size < _; simp; omega) (.inr (by show b + 1 ≤ w.heap.size; omega))).trans ((World.cell?_alloc_lt _ _ _ ul).trans u1)
    have v2 : w3.cell? ⟨w.heap.size, 2, none⟩ = some (.bool false) := (hm3.cell (p := ⟨w.heap.size, 2, none⟩) (by show w.heap.size < _; simp; omega) (.inr (by show b + 1 ≤ w.heap.size; omega))).trans ((World.cell?_alloc_lt _ _ _ ul).trans u2)
    have v3 : w3.cell? ⟨w.heap.size, 3, none⟩ = some (.slice none 0 0) := (hm3.cell (p := ⟨w.heap.size, 3, none⟩) (by show w.heap.size < _; simp; omega) (.inr (by show b + 1 ≤ w.heap.size; omega))).trans ((World.cell?_alloc_lt _ _ _ ul).trans u3)
    have v4 : w3.cell? ⟨w.heap.size, 4, none⟩ = some (.string ⟨#[]⟩) := (hm3.cell (p := ⟨w.heap.size, 4, none⟩) (by show w.heap.size < _; simp; omega) (.inr (by show b + 1 ≤ w.heap.size; omega))).trans ((World.cell?_alloc_lt _ _ _ ul).trans u4)
    have vf : ∀ o, w3.frozen? ⟨w.heap.size, o, none⟩ = false := fun o => (hm3.frozen (p := ⟨w.heap.size, o, none⟩) (by show w.heap.size < _; simp; omega) (.inr (by show b + 1 ≤ w.heap.size; omega))).trans ((((Below.refl w2.heap.size w2).alloc (Nat.le_refl _) _).frozen (p := ⟨w.heap.size, o, none⟩) ul).trans (uf o))
    have vl : w.heap.size < w3.heap.size := by omega
    have d0 : w3.cell? ⟨b1, o1 + n * 5, none⟩ = some (.int .i64 r.A.kind) := (hm3.cell (p := ⟨b1, o1 + n * 5, none⟩) (by show b1 < _; simp; omega) (.inr (by show b + 1 ≤ b1; omega))).trans ((World.cell?_alloc_lt _ _ _ hb1).trans (by have := hc1 n hn 0 (by omega); rw [hr] at this; simpa [actE] using this))
    have d1 : w3.cell? ⟨b1, o1 + n * 5 + 1, none⟩ = some (.int .i64 r.A.n) := (hm3.cell (p := ⟨b1, o1 + n * 5 + 1, none⟩) (by show b1 < _; simp; omega) (.inr (by show b + 1 ≤ b1; omega))).trans ((World.cell?_alloc_lt _ _ _ hb1).trans (by have := hc1 n hn 1 (by omega); rw [hr] at this; simpa [actE] using this))
    have d2 : w3.cell? ⟨b1, o1 + n * 5 + 2, none⟩ = some (.bool r.A.priv) := (hm3.cell (p := ⟨b1, o1 + n * 5 + 2, none⟩) (by show b1 < _; simp; omega) (.inr (by show b + 1 ≤ b1; omega))).trans ((World.cell?_alloc_lt _ _ _ hb1).trans (by have := hc1 n hn 2 (by omega); rw [hr] at this; simpa [actE] using this))
    have d3 : w3.cell? ⟨b1, o1 + n * 5 + 3, none⟩ = some (.slice r.aa r.A.args.length r.ca) := (hm3.cell (p := ⟨b1, o1 + n * 5 + 3, none⟩) (by show b1 < _; simp; omega) (.inr (by show b + 1 ≤ b1; omega))).trans ((World.cell?_alloc_lt _ _ _ hb1).trans (by have := hc1 n hn 3 (by omega); rw [hr] at this; simpa [actE] using this))
    have d4 : w3.cell? ⟨b1, o1 + n * 5 + 4, none⟩ = some (.string r.A.text) := (hm3.cell (p := ⟨b1, o1 + n * 5 + 4, none⟩) (by show b1 < _; simp; omega) (.inr (by show b + 1 ≤ b1; omega))).trans ((World.cell?_alloc_lt _ _ _ hb1).trans (by have := hc1 n hn 4 (by omega); rw [hr] at this; simpa [actE] using this))
    have hbl := FreshIn.blks (HRO.out.ow r hrm)
    have HF : Hid (FreshIn intE 3 1 w1.heap.size w3.heap.size (.slice r.aa r.A.args.length r.ca) r.A.args w3) := Lib.hid (FreshIn.ch ((HRO.out.ow r hrm).mono (Nat.le_refl _) (by omega)) ((Ch.refl (M := fun k => k = b)).alloc (.cells #[.int .i64 R.state, .slice ap2 R.args.length cp2, .bool R.priv, .string R.text, .string R.utf] 42) |>.trans (Ch.of_mid (M := fun k => k = b) hm3 (fun k h1 h2 _ => by omega)) (fun i h => .inl h)) (fun k hk h => by have := (hbl k hk).1; omega))
    have HMID3 : Hid (Mid b (b + 1) w w3) := Lib.hid ((HMID.out.alloc _).trans hm3)
    clear hc1 hs3 hm3 u0 u1 u2 u3 u4 uf HN HOK HA HRO HS2 HMID
    have hni : (n : Int) < (L.length : Int) := by omega
    go_wp2_with fail
    refine bodyPost_ret (v := .agg #[.int .i64 r.A.kind, .int .i64 r.A.n, .bool r.A.priv, .slice r.aa r.A.args.length r.ca, .string r.A.text]) (by simp [results, Tryz.results34, go_sem, v0, v1, v2, v3, v4, vl]) rfl ?_
    have hfin : ∀ wz, Ch (fun k => k = w.heap.size) w3 wz → ActR w (.returned (.agg #[.int .i64 r.A.kind, .int .i64 r.A.n, .bool r.A.priv, .slice r.aa r.A.args.length r.ca, .string r.A.text])) wz ∧ Mid b (b + 1) w wz := fun wz hc => by
      refine ⟨⟨r.A, r.aa, r.ca, HAC.out, rfl, ?_⟩, HMID3.out.thenB (hc.below (by omega) (fun k h => by omega))⟩
      have hfb := FreshIn.blks HF.out
      exact (HF.out.ch hc (fun k hk h => by have := (hfb k hk).1; omega)).mono (by omega) (Nat.le_refl _)
    refine hfin _ ?_
    repeat (first | (with_reducible exact Ch.refl) | (with_reducible refine Ch.alloc ?_ _) | (with_reducible refine Ch.setB ?_ _ _))
end
section
open Go.RowKit
theorem actionOf_c (a : Option Addr) (c : Nat) (xs : List UInt8) (w : World) (ha : Sl byteE 1 w a xs) (hl : xs.length ≤ 2097152) :
    Calls Tryz.prog 14 #[.slice a xs.length c] w fun e w' => ActR w e w' ∧ Below w.heap.size w w' := by
  have HS := Lib.hid (l00Source_c a c xs (w.alloc (.cells #[.int .i64 0, .int .i64 0, .bool false, .slice none 0 0, .string ⟨#[]⟩] 38)) (ha.alloc _) hl)
  clear ha
  go_enter Tryz.func14, Tryz.ntmps14
  go_wp2_with fail
  refine HS.out.mono ?_
  rintro e w1 ⟨rfl, hs1, hb1⟩
  have HB1 := Lib.hid hb1
  have hz1 := hb1.size
  simp only [World.size_alloc] at hz1 hs1
  have hlt1 := hs1.lt
  have HP := Lib.hid (action_c (w.heap.size + 1) a c xs w1 hs1)
  have r1_0 : w1.cell? ⟨w.heap.size, 0, none⟩ = some (.int .i64 0) := kC hb1 (by simp) (by simp [go_sem])
  have r1_1 : w1.cell? ⟨w.heap.size, 1, none⟩ = some (.int .i64 0) := kC hb1 (by simp) (by simp [go_sem])
  have r1_2 : w1.cell? ⟨w.heap.size, 2, none⟩ = some (.bool false) := kC hb1 (by simp) (by simp [go_sem])
  have r1_3 : w1.cell? ⟨w.heap.size, 3, none⟩ = some (.slice none 0 0) := kC hb1 (by simp) (by simp [go_sem])
  have r1_4 : w1.cell? ⟨w.heap.size, 4, none⟩ = some (.string ⟨#[]⟩) := kC hb1 (by simp) (by simp [go_sem])
  have rf1 : ∀ o, w1.frozen? ⟨w.heap.size, o, none⟩ = false := fun o => (hb1.frozen (p := ⟨w.heap.size, o, none⟩) (by show w.heap.size < _; simp)).trans (by simp [go_sem])
  clear hs1 hb1
  go_wp2_with fail
  refine HP.out.mono ?_
  rintro e w2 ⟨⟨A, aa, ca, hok, rfl, hf⟩, hm⟩
  have HOK := Lib.hid hok
  have HF := Lib.hid hf
  have HM := Lib.hid hm
  have hz2 := hm.size
  have ul : w.heap.size < w2.heap.size := by omega
  have u0 : w2.cell? ⟨w.heap.size, 0, none⟩ = some (.int .i64 0) := (hm.cell (p := ⟨w.heap.size, 0, none⟩) (by show w.heap.size < _; omega) (.inl (by show w.heap.size < _; omega))).trans r1_0
  have u1 : w2.cell? ⟨w.heap.size, 1, none⟩ = some (.int .i64 0) := (hm.cell (p := ⟨w.heap.size, 1, none⟩) (by show w.heap.size < _; omega) (.inl (by show w.heap.size < _; omega))).trans r1_1
  have u2 : w2.cell? ⟨w.heap.size, 2, none⟩ = some (.bool false) := (hm.cell (p := ⟨w.heap.size, 2, none⟩) (by show w.heap.size < _; omega) (.inl (by show w.heap.size < _; omega))).trans r1_2
  have u3 : w2.cell? ⟨w.heap.size, 3, none⟩ = some (.slice none 0 0) := (hm.cell (p := ⟨w.heap.size, 3, none⟩) (by show w.heap.size < _; omega) (.inl (by show w.heap.size < _; omega))).trans r1_3
  have u4 : w2.cell? ⟨w.heap.size, 4, none⟩ = some (.string ⟨#[]⟩) := (hm.cell (p := ⟨w.heap.size, 4, none⟩) (by show w.heap.size < _; omega) (.inl (by show w.heap.size < _; omega))).trans r1_4
  have uf : ∀ o, w2.frozen? ⟨w.heap.size, o, none⟩ = false := fun o => (hm.frozen (p := ⟨w.heap.size, o, none⟩) (by show w.heap.size < _; omega) (.inl (by show w.heap.size < _; omega))).trans (rf1 o)
  clear hok hf hm
  go_wp2_with fail
  refine bodyPost_ret (v := .agg #[.int .i64 A.kind, .int .i64 A.n, .bool A.priv, .slice aa A.args.length ca, .string A.text]) (by simp [results, Tryz.results14, go_sem, u0, u1, u2, u3, u4, ul]) rfl ?_
  have hfin : ∀ wz, Ch (fun k => k = w.heap.size) w2 wz → ActR w (.returned (.agg #[.int .i64 A.kind, .int .i64 A.n, .bool A.priv, .slice aa A.args.length ca, .string A.text])) wz ∧ Below w.heap.size w wz := fun wz hc => by
    refine ⟨⟨A, aa, ca, HOK.out, rfl, ?_⟩, ?_⟩
    · have hfb := FreshIn.blks HF.out
      exact (HF.out.ch hc (fun k hk h => by have := (hfb k hk).1; omega)).mono (by omega) (Nat.le_refl _)
    · exact (((Below.refl w.heap.size w).alloc (Nat.le_refl _) _).trans (HB1.out.mono (by simp)) |>.trans (HM.out.below (by omega) (by omega))).trans (hc.below (by omega) (fun k h => by omega))
  refine hfin _ ?_
  repeat (first | (with_reducible exact Ch.refl) | (with_reducible refine Ch.alloc ?_ _) | (with_reducible refine Ch.setB ?_ _ _))
end
section
open Go.RowKit
def FeedR (s : Scr) (p : PV) (w : World) (e : Ending) (w' : World) : Prop :=
  ∃ ac cc ah dh ap cp, e = .returned (.tuple #[scrV s ac cc ah dh, .agg #[.int .i64 p.state, .slice ap p.args.length cp, .bool p.priv, .string p.text, .string p.utf]]) ∧ ScrF w.heap.size s ac cc ah dh w' ∧ FreshIn intE 3 1 w.heap.size w'.heap.size (.slice ap p.args.length cp) p.args w' ∧ (∀ k ∈ blkOf ap, k ∉ blkOf ac ∧ k ∉ blkOf ah) ∧ Below w.heap.size w w'
theorem l04Feed_c (s : Scr) (ac : Option Addr) (cc : Nat) (ah : Option Addr) (dh : Nat) (p : PV) (ap : Option Addr) (cp : Nat) (t : ByteArray) (w : World) (hs : ScrS s ac ah w) (ok : ScrOK s) (hp : PvOK p) (ha : Sl intE 1 w ap p.args) (ht : t.size ≤ 131072) :
    Calls Tryz.prog 51 #[.agg #[.int .i64 (s.w : Int), .int .i64 (s.h : Int), .int .i64 (s.x : Int), .int .i64 (s.y : Int), .int .i64 (s.look : Int), .int .i64 (s.top : Int), .int .i64 (s.bot : Int), .int .i64 (s.sx : Int), .int .i64 (s.sy : Int), .string s.title, .slice ac s.cells.length cc, .slice ah s.hist.length dh], .agg #[.int .i64 p.state, .slice ap p.args.length cp, .bool p.priv, .string p.text, .string p.utf], .string t] w (FeedR (actsS s (prun p t.data.toList).2) (prun p t.data.toList).1 w) := by
  obtain ⟨W0, hW0⟩ : ∃ x, (((w.alloc (.cells #[.int .i64 (s.w : Int), .int .i64 (s.h : Int), .int .i64 (s.x : Int), .int .i64 (s.y : Int), .int .i64 (s.look : Int), .int .i64 (s.top : Int), .int .i64 (s.bot : Int), .int .i64 (s.sx : Int), .int .i64 (s.sy : Int), .string s.title, .slice ac s.cells.length cc, .slice ah s.hist.length dh] 26)).alloc (.cells #[.int .i64 p.state, .slice ap p.args.length cp, .bool p.priv, .string p.text, .string p.utf] 42)).alloc (.cells #[.int .i64 0, .int .i64 0, .int .i64 0, .int .i64 0, .int .i64 0, .int .i64 0, .int .i64 0, .int .i64 0, .int .i64 0, .string ⟨#[]⟩, .slice none 0 0, .slice none 0 0] 26)).alloc (.cells #[.int .i64 0, .slice none 0 0, .bool false, .string ⟨#[]⟩, .string ⟨#[]⟩] 42) = x := ⟨_, rfl⟩
  have HB0 : Hid (Below w.heap.size w W0) := Lib.hid (by rw [← hW0]; exact ((((Below.refl w.heap.size w).alloc (Nat.le_refl _) _).alloc (by simp) _).alloc (by simp; omega) _).alloc (by simp; omega) _)
  have hz0 : w.heap.size + 3 < W0.heap.size := by rw [← hW0]; simp
  have a_0 : W0.cell? ⟨w.heap.size, 0, none⟩ = some (.int .i64 (s.w : Int)) := by rw [← hW0]; simp [go_sem]
  have a_1 : W0.cell? ⟨w.heap.size, 1, none⟩ = some (.int .i64 (s.h : Int)) := by rw [← hW0]; simp [go_sem]
  have a_2 : W0.cell? ⟨w.heap.size, 2, none⟩ = some (.int .i64 (s.x : Int)) := by rw [← hW0]; simp [go_sem]
  have a_3 : W0.cell? ⟨w.heap.size, 3, none⟩ = some (.int .i64 (s.y : Int)) := by rw [← hW0]; simp [go_sem]
  have a_4 : W0.cell? ⟨w.heap.size, 4, none⟩ = some (.int .i64 (s.look : Int)) := by rw [← hW0]; simp [go_sem]
  have a_5 : W0.cell? ⟨w.heap.size, 5, none⟩ = some (.int .i64 (s.top : Int)) := by rw [← hW0]; simp [go_sem]
  have a_6 : W0.cell? ⟨w.heap.size, 6, none⟩ = some (.int .i64 (s.bot : Int)) := by rw [← hW0]; simp [go_sem]
  have a_7 : W0.cell? ⟨w.heap.size, 7, none⟩ = some (.int .i64 (s.sx : Int)) := by rw [← hW0]; simp [go_sem]
  have a_8 : W0.cell? ⟨w.heap.size, 8, none⟩ = some (.int .i64 (s.sy : Int)) := by rw [← hW0]; simp [go_sem]
  have a_9 : W0.cell? ⟨w.heap.size, 9, none⟩ = some (.string s.title) := by rw [← hW0]; simp [go_sem]
  have a_10 : W0.cell? ⟨w.heap.size, 10, none⟩ = some (.slice ac s.cells.length cc) := by rw [← hW0]; simp [go_sem]
  have a_11 : W0.cell? ⟨w.heap.size, 11, none⟩ = some (.slice ah s.hist.length dh) := by rw [← hW0]; simp [go_sem]
  have b_0 : W0.cell? ⟨w.heap.size + 1, 0, none⟩ = some (.int .i64 p.state) := by rw [← hW0]; simp [go_sem]
  have b_1 : W0.cell? ⟨w.heap.size + 1, 1, none⟩ = some (.slice ap p.args.length cp) := by rw [← hW0]; simp [go_sem]
  have b_2 : W0.cell? ⟨w.heap.size + 1, 2, none⟩ = some (.bool p.priv) := by rw [← hW0]; simp [go_sem]
  have b_3 : W0.cell? ⟨w.heap.size + 1, 3, none⟩ = some (.string p.text) := by rw [← hW0]; simp [go_sem]
  have b_4 : W0.cell? ⟨w.heap.size + 1, 4, none⟩ = some (.string p.utf) := by rw [← hW0]; simp [go_sem]
  have c_0 : W0.cell? ⟨w.heap.size + 2, 0, none⟩ = some (.int .i64 0) := by rw [← hW0]; simp [go_sem]
  have c_1 : W0.cell? ⟨w.heap.size + 2, 1, none⟩ = some (.int .i64 0) := by rw [← hW0]; simp [go_sem]
  have c_2 : W0.cell? ⟨w.heap.size + 2, 2, none⟩ = some (.int .i64 0) := by rw [← hW0]; simp [go_sem]
  have c_3 : W0.cell? ⟨w.heap.size + 2, 3, none⟩ = some (.int .i64 0) := by rw [← hW0]; simp [go_sem]
  have c_4 : W0.cell? ⟨w.heap.size + 2, 4, none⟩ = some (.int .i64 0) := by rw [← hW0]; simp [go_sem]
  have c_5 : W0.cell? ⟨w.heap.size + 2, 5, none⟩ = some (.int .i64 0) := by rw [← hW0]; simp [go_sem]
  have c_6 : W0.cell? ⟨w.heap.size + 2, 6, none⟩ = some (.int .i64 0) := by rw [← hW0]; simp [go_sem]
  have c_7 : W0.cell? ⟨w.heap.size + 2, 7, none⟩ = some (.int .i64 0) := by rw [← hW0]; simp [go_sem]
  have c_8 : W0.cell? ⟨w.heap.size + 2, 8, none⟩ = some (.int .i64 0) := by rw [← hW0]; simp [go_sem]
  have c_9 : W0.cell? ⟨w.heap.size + 2, 9, none⟩ = some (.string ⟨#[]⟩) := by rw [← hW0]; simp [go_sem]
  have c_10 : W0.cell? ⟨w.heap.size + 2, 10, none⟩ = some (.slice none 0 0) := by rw [← hW0]; simp [go_sem]
  have c_11 : W0.cell? ⟨w.heap.size + 2, 11, none⟩ = some (.slice none 0 0) := by rw [← hW0]; simp [go_sem]
  have c_f : ∀ o, W0.frozen? ⟨w.heap.size + 2, o, none⟩ = false := fun o => by rw [← hW0]; simp [go_sem]
  have d_0 : W0.cell? ⟨w.heap.size + 3, 0, none⟩ = some (.int .i64 0) := by rw [← hW0]; simp [go_sem]
  have d_1 : W0.cell? ⟨w.heap.size + 3, 1, none⟩ = some (.slice none 0 0) := by rw [← hW0]; simp [go_sem]
  have d_2 : W0.cell? ⟨w.heap.size + 3, 2, none⟩ = some (.bool false) := by rw [← hW0]; simp [go_sem]
  have d_3 : W0.cell? ⟨w.heap.size + 3, 3, none⟩ = some (.string ⟨#[]⟩) := by rw [← hW0]; simp [go_sem]
  have d_4 : W0.cell? ⟨w.heap.size + 3, 4, none⟩ = some (.string ⟨#[]⟩) := by rw [← hW0]; simp [go_sem]
  have d_f : ∀ o, W0.frozen? ⟨w.heap.size + 3, o, none⟩ = false := fun o => by rw [← hW0]; simp [go_sem]
  have HS0 := Lib.hid (hs.below HB0.out)
  have HOK := Lib.hid ok
  have HP := Lib.hid hp
  have HA0 := Lib.hid (ha.keep HB0.out)
  have hcn : s.cells.length ≤ 240 := by rw [ok.cn]; exact Nat.mul_le_mul ok.w2 ok.h2
  have hhn := ok.hn
  have hc0 : 0 < s.cells.length := by rw [ok.cn]; exact Nat.mul_pos (by have := ok.w1; omega) (by have := ok.h1; omega)
  have HCN := Lib.hid hcn
  have HHN := Lib.hid hhn
  have HC0 := Lib.hid hc0
  clear hs ok hp ha hcn hhn hc0
  go_enter Tryz.func51, Tryz.ntmps51
  go_upto_region 1 with fail
  clear hW0
  go_wp2_with fail
  refine (run_r ap cp p t _ HA0.out ht HP.out).mono ?_
  rintro e w1 ⟨ap2, cp2, al2, cl2, L, rfl, hf, hro, hd, hL, hb⟩
  obtain ⟨q, hq⟩ : ∃ q, (prun p t.data.toList).1 = q := ⟨_, rfl⟩
  obtain ⟨acts, hacts⟩ : ∃ l, (prun p t.data.toList).2 = l := ⟨_, rfl⟩
  have hAC : ∀ r ∈ L, AcOK r.A := fun r hr => prun_ac t.data.toList HP.out r.A (by rw [← hL]; exact List.mem_map_of_mem hr)
  have hLn : L.length ≤ 300000 := by
    have h1 := run_len t.data.toList p
    have h2 := congrArg List.length hL
    have h3 : t.data.toList.length = t.size := rfl
    rw [List.length_map] at h2
    omega
  rw [hq] at hf
  rw [hacts] at hL
  rw [hq]
  have HQ := Lib.hid hq
  have HACTS := Lib.hid hacts
  have HB1 := Lib.hid hb
  have hz1 := hb.size
  have HF := Lib.hid hf
  have HRO := Lib.hid hro
  have HL := Lib.hid hL
  have HAC := Lib.hid hAC
  obtain ⟨W1, hW1⟩ : ∃ x, w1.alloc (.cells #[.int .i64 q.state, .slice ap2 q.args.length cp2, .bool q.priv, .string q.text, .string q.utf] 42) = x := ⟨_, rfl⟩
  have HBW1 : Hid (Below w1.heap.size w1 W1) := Lib.hid (by rw [← hW1]; exact (Below.refl _ _).alloc (Nat.le_refl _) _)
  have hzW1 : w1.heap.size < W1.heap.size := by rw [← hW1]; simp
  have y_0 : W1.cell? ⟨w1.heap.size, 0, none⟩ = some (.int .i64 q.state) := by rw [← hW1]; simp [go_sem]
  have y_1 : W1.cell? ⟨w1.heap.size, 1, none⟩ = some (.slice ap2 q.args.length cp2) := by rw [← hW1]; simp [go_sem]
  have y_2 : W1.cell? ⟨w1.heap.size, 2, none⟩ = some (.bool q.priv) := by rw [← hW1]; simp [go_sem]
  have y_3 : W1.cell? ⟨w1.heap.size, 3, none⟩ = some (.string q.text) := by rw [← hW1]; simp [go_sem]
  have y_4 : W1.cell? ⟨w1.heap.size, 4, none⟩ = some (.string q.utf) := by rw [← hW1]; simp [go_sem]
  have HB01 : Hid (Below W0.heap.size W0 W1) := Lib.hid (HB1.out.trans (HBW1.out.mono hz1))
  have e_0 := kC HB01.out (by omega) a_0
  have e_1 := kC HB01.out (by omega) a_1
  have e_2 := kC HB01.out (by omega) a_2
  have e_3 := kC HB01.out (by omega) a_3
  have e_4 := kC HB01.out (by omega) a_4
  have e_5 := kC HB01.out (by omega) a_5
  have e_6 := kC HB01.out (by omega) a_6
  have e_7 := kC HB01.out (by omega) a_7
  have e_8 := kC HB01.out (by omega) a_8
  have e_9 := kC HB01.out (by omega) a_9
  have e_10 := kC HB01.out (by omega) a_10
  have e_11 := kC HB01.out (by omega) a_11
  have HS1 := Lib.hid (HS0.out.below HB01.out)
  clear hf hro hd hL hb hq hacts hAC
  go_upto_region 2 with fail
  clear hW1
  go_wp2_with fail
  refine (l04Own_c s ac cc ah dh _ HS1.out HCN.out HHN.out).mono ?_
  rintro e w2 ⟨ac2, cc2, ah2, dh2, rfl, hF2, hb2⟩
  obtain ⟨g2, rfl⟩ := hF2.blk HC0.out
  have HF2 := Lib.hid hF2
  have HB2 := Lib.hid hb2
  have hz2 := hb2.size
  obtain ⟨lo, hlo⟩ : ∃ l, W1.heap.size = l := ⟨_, rfl⟩
  unfold scrV
  obtain ⟨b, hb⟩ : ∃ b, w2.heap.size = b := ⟨_, rfl⟩
  obtain ⟨W3, hW3⟩ : ∃ x, w2.alloc (.cells #[.int .i64 (s.w : Int), .int .i64 (s.h : Int), .int .i64 (s.x : Int), .int .i64 (s.y : Int), .int .i64 (s.look : Int), .int .i64 (s.top : Int), .int .i64 (s.bot : Int), .int .i64 (s.sx : Int), .int .i64 (s.sy : Int), .string s.title, .slice (some ⟨g2, 0, none⟩) s.cells.length cc2, .slice ah2 s.hist.length dh2] 67) = x := ⟨_, rfl⟩
  have HA3 : Hid (ScrAt lo b 0 s g2 cc2 ah2 dh2 W3) := Lib.hid (by rw [← hW3, ← hb, ← hlo]; exact ScrAt.box hF2 _)
  have HB23 : Hid (Below w2.heap.size w2 W3) := Lib.hid (by rw [← hW3]; exact (Below.refl _ _).alloc (Nat.le_refl _) _)
  have HB3 : Hid (Below lo W1 W3) := Lib.hid (by rw [← hlo]; exact hb2.trans (HB23.out.mono hz2))
  have hlob : lo ≤ b := by omega
  have HLO := Lib.hid hlo
  have HBB := Lib.hid hb
  clear hF2 hb2 e_0 e_1 e_2 e_3 e_4 e_5 e_6 e_7 e_8 e_9 e_10 e_11
  go_upto_region 3 with fail
  clear hW3 hb
  go_wp2_with fail
  go_loopw [11] (fun iv wr => ∃ i : Nat, i ≤ L.length ∧ iv = .int .i64 i ∧ Hid (∃ g1 c1 a1 d1, ScrAt lo b 0 (actsS s ((L.take i).map (·.A))) g1 c1 a1 d1 wr ∧ Below lo W1 wr)) (fun iv _ => L.length - (intOf iv).toNat)
  case atStart => exact ⟨0, Nat.zero_le _, rfl, Lib.hid ⟨g2, cc2, ah2, dh2, HA3.out, HB3.out⟩⟩
  case round =>
    obtain ⟨i, hi, rfl, HI⟩ := hrel
    obtain ⟨g1, c1, a1, d1, hax, hbx⟩ := HI.out
    obtain ⟨s1, hs1⟩ : ∃ x, actsS s ((L.take i).map (·.A)) = x := ⟨_, rfl⟩
    have hok1 : ScrOK s1 := by
      rw [← hs1]
      exact HOK.out.acts (fun a ha => by
        obtain ⟨r, hr, rfl⟩ := List.mem_map.1 ha
        exact HAC.out r (List.mem_of_mem_take hr))
    rw [hs1] at hax
    have HX := Lib.hid hax
    have HBX := Lib.hid hbx
    have HOK1 := Lib.hid hok1
    have HS1' := Lib.hid hs1
    have hzr := hbx.size
    have hzl := HLO.out
    clear hax hbx hs1 hok1
    have HBW : Hid (Below W1.heap.size W1 wr) := Lib.hid (by rw [HLO.out]; exact HBX.out)
    have hw1r : w1.heap.size < wr.heap.size := by omega
    have HLr : Hid (Sl actE 5 wr al2 L ∧ ∀ r ∈ L, Sl intE 1 wr r.aa r.A.args ∧ ∀ k ∈ blkOf r.aa, k < lo) := Lib.hid ⟨((FreshIn.sl (enc := actE) (sz := 5) (fun _ => rfl) HRO.out.row).keep HBW1.out).keep HBW.out, fun r hr => ⟨((FreshIn.sl (enc := intE) (fun _ => rfl) (HRO.out.ow r hr)).keep HBW1.out).keep HBW.out, fun k hk => by have := (FreshIn.blks (HRO.out.ow r hr) k hk).2; omega⟩⟩
    by_cases hlt : i < L.length
    · have hlt' : (i : Int) < (L.length : Int) := by omega
      obtain ⟨b1, o1, hae, hb1, hc1⟩ := HLr.out.1.at hlt
      subst hae
      obtain ⟨r, hr⟩ : ∃ r, L[i] = r := ⟨_, rfl⟩
      have hrm : r ∈ L := hr ▸ List.getElem_mem hlt
      have HRM := Lib.hid (HLr.out.2 r hrm)
      have HRA := Lib.hid (HAC.out r hrm)
      have r_0 : wr.cell? ⟨b1, o1 + i * 5, none⟩ = some (.int .i64 r.A.kind) := by have := hc1 i hlt 0 (by omega); rw [hr] at this; simpa [actE] using this
      have r_1 : wr.cell? ⟨b1, o1 + i * 5 + 1, none⟩ = some (.int .i64 r.A.n) := by have := hc1 i hlt 1 (by omega); rw [hr] at this; simpa [actE] using this
      have r_2 : wr.cell? ⟨b1, o1 + i * 5 + 2, none⟩ = some (.bool r.A.priv) := by have := hc1 i hlt 2 (by omega); rw [hr] at this; simpa [actE] using this
      have r_3 : wr.cell? ⟨b1, o1 + i * 5 + 3, none⟩ = some (.slice r.aa r.A.args.length r.ca) := by have := hc1 i hlt 3 (by omega); rw [hr] at this; simpa [actE] using this
      have r_4 : wr.cell? ⟨b1, o1 + i * 5 + 4, none⟩ = some (.string r.A.text) := by have := hc1 i hlt 4 (by omega); rw [hr] at this; simpa [actE] using this
      have HTK : Hid (actsS s ((L.take (i + 1)).map (·.A)) = actS s1 r.A) := Lib.hid (by
        rw [List.take_succ_eq_append_getElem hlt, hr, List.map_append, ← HS1'.out]
        unfold actsS
        rw [List.foldl_append]
        rfl)
      have hnaa : ∀ k ∈ blkOf r.aa, k ≠ b ∧ k ≠ g1 ∧ k ∉ blkOf a1 := fun k hk => by
        have h1 := HRM.out.2 k hk
        have h2 := HX.out.glt.1
        refine ⟨by omega, by omega, fun h => ?_⟩
        have := (HX.out.win.blk k h).1
        omega
      have HNAA := Lib.hid hnaa
      clear hc1 hr hrm hnaa
      go_wp2_with fail
      refine (do_c lo b s1 g1 c1 a1 d1 _ r.A r.aa r.ca HX.out HOK1.out (by omega) HRA.out HRM.out.1 HNAA.out).mono ?_
      rintro e x1 ⟨rfl, g3, c3, a3, d3, hx3, hu3, _⟩
      have HX3 := Lib.hid hx3
      have HB3' : Hid (Below lo W1 x1) := Lib.hid (HBX.out.trans (hu3.toBelow (by omega) hlob (fun k hk => by
        rcases hk with h | h
        · rw [h]; exact HX.out.glt.1
        · exact (HX.out.win.blk k h).1)))
      clear hx3 hu3
      go_wp2_with fail
      go_roundw
      case rel => exact ⟨i + 1, by omega, by go_num, Lib.hid ⟨g3, c3, a3, d3, by rw [HTK.out]; exact HX3.out, HB3'.out⟩⟩
      case measure => simp [intOf]; omega
    · obtain rfl : i = L.length := by omega
      have HE : Hid (actsS s acts = s1) := Lib.hid (by rw [← HS1'.out, List.take_length, HL.out])
      go_upto_region 7 with fail
      have f_0 := kC HBW.out hzW1 y_0
      have f_1 := kC HBW.out hzW1 y_1
      have f_2 := kC HBW.out hzW1 y_2
      have f_3 := kC HBW.out hzW1 y_3
      have f_4 := kC HBW.out hzW1 y_4
      have hz02 : w.heap.size + 2 < W0.heap.size := by omega
      have u_0 : wr.cell? ⟨w.heap.size + 2, 0, none⟩ = some (.int .i64 0) := (HBW.out.cell (p := ⟨w.heap.size + 2, 0, none⟩) (by show w.heap.size + 2 < _; omega)).trans ((HB01.out.cell (p := ⟨w.heap.size + 2, 0, none⟩) hz02).trans c_0)
      have u_1 : wr.cell? ⟨w.heap.size + 2, 1, none⟩ = some (.int .i64 0) := (HBW.out.cell (p := ⟨w.heap.size + 2, 1, none⟩) (by show w.heap.size + 2 < _; omega)).trans ((HB01.out.cell (p := ⟨w.heap.size + 2, 1, none⟩) hz02).trans c_1)
      have u_2 : wr.cell? ⟨w.heap.size + 2, 2, none⟩ = some (.int .i64 0) := (HBW.out.cell (p := ⟨w.heap.size + 2, 2, none⟩) (by show w.heap.size + 2 < _; omega)).trans ((HB01.out.cell (p := ⟨w.heap.size + 2, 2, none⟩) hz02).trans c_2)
      have u_3 : wr.cell? ⟨w.heap.size + 2, 3, none⟩ = some (.int .i64 0) := (HBW.out.cell (p := ⟨w.heap.size + 2, 3, none⟩) (by show w.heap.size + 2 < _; omega)).trans ((HB01.out.cell (p := ⟨w.heap.size + 2, 3, none⟩) hz02).trans c_3)
      have u_4 : wr.cell? ⟨w.heap.size + 2, 4, none⟩ = some (.int .i64 0) := (HBW.out.cell (p := ⟨w.heap.size + 2, 4, none⟩) (by show w.heap.size + 2 < _; omega)).trans ((HB01.out.cell (p := ⟨w.heap.size + 2, 4, none⟩) hz02).trans c_4)
      have u_5 : wr.cell? ⟨w.heap.size + 2, 5, none⟩ = some (.int .i64 0) := (HBW.out.cell (p := ⟨w.heap.size + 2, 5, none⟩) (by show w.heap.size + 2 < _; omega)).trans ((HB01.out.cell (p := ⟨w.heap.size + 2, 5, none⟩) hz02).trans c_5)
      have u_6 : wr.cell? ⟨w.heap.size + 2, 6, none⟩ = some (.int .i64 0) := (HBW.out.cell (p := ⟨w.heap.size + 2, 6, none⟩) (by show w.heap.size + 2 < _; omega)).trans ((HB01.out.cell (p := ⟨w.heap.size + 2, 6, none⟩) hz02).trans c_6)
      have u_7 : wr.cell? ⟨w.heap.size + 2, 7, none⟩ = some (.int .i64 0) := (HBW.out.cell (p := ⟨w.heap.size + 2, 7, none⟩) (by show w.heap.size + 2 < _; omega)).trans ((HB01.out.cell (p := ⟨w.heap.size + 2, 7, none⟩) hz02).trans c_7)
      have u_8 : wr.cell? ⟨w.heap.size + 2, 8, none⟩ = some (.int .i64 0) := (HBW.out.cell (p := ⟨w.heap.size + 2, 8, none⟩) (by show w.heap.size + 2 < _; omega)).trans ((HB01.out.cell (p := ⟨w.heap.size + 2, 8, none⟩) hz02).trans c_8)
      have u_9 : wr.cell? ⟨w.heap.size + 2, 9, none⟩ = some (.string ⟨#[]⟩) := (HBW.out.cell (p := ⟨w.heap.size + 2, 9, none⟩) (by show w.heap.size + 2 < _; omega)).trans ((HB01.out.cell (p := ⟨w.heap.size + 2, 9, none⟩) hz02).trans c_9)
      have u_10 : wr.cell? ⟨w.heap.size + 2, 10, none⟩ = some (.slice none 0 0) := (HBW.out.cell (p := ⟨w.heap.size + 2, 10, none⟩) (by show w.heap.size + 2 < _; omega)).trans ((HB01.out.cell (p := ⟨w.heap.size + 2, 10, none⟩) hz02).trans c_10)
      have u_11 : wr.cell? ⟨w.heap.size + 2, 11, none⟩ = some (.slice none 0 0) := (HBW.out.cell (p := ⟨w.heap.size + 2, 11, none⟩) (by show w.heap.size + 2 < _; omega)).trans ((HB01.out.cell (p := ⟨w.heap.size + 2, 11, none⟩) hz02).trans c_11)
      have u_f : ∀ o, wr.frozen? ⟨w.heap.size + 2, o, none⟩ = false := fun o => (HBW.out.frozen (p := ⟨w.heap.size + 2, o, none⟩) (by show w.heap.size + 2 < _; omega)).trans ((HB01.out.frozen (p := ⟨w.heap.size + 2, o, none⟩) hz02).trans (c_f o))
      have v_0 : wr.cell? ⟨w.heap.size + 3, 0, none⟩ = some (.int .i64 0) := (HBW.out.cell (p := ⟨w.heap.size + 3, 0, none⟩) (by show w.heap.size + 3 < _; omega)).trans ((HB01.out.cell (p := ⟨w.heap.size + 3, 0, none⟩) hz0).trans d_0)
      have v_1 : wr.cell? ⟨w.heap.size + 3, 1, none⟩ = some (.slice none 0 0) := (HBW.out.cell (p := ⟨w.heap.size + 3, 1, none⟩) (by show w.heap.size + 3 < _; omega)).trans ((HB01.out.cell (p := ⟨w.heap.size + 3, 1, none⟩) hz0).trans d_1)
      have v_2 : wr.cell? ⟨w.heap.size + 3, 2, none⟩ = some (.bool false) := (HBW.out.cell (p := ⟨w.heap.size + 3, 2, none⟩) (by show w.heap.size + 3 < _; omega)).trans ((HB01.out.cell (p := ⟨w.heap.size + 3, 2, none⟩) hz0).trans d_2)
      have v_3 : wr.cell? ⟨w.heap.size + 3, 3, none⟩ = some (.string ⟨#[]⟩) := (HBW.out.cell (p := ⟨w.heap.size + 3, 3, none⟩) (by show w.heap.size + 3 < _; omega)).trans ((HB01.out.cell (p := ⟨w.heap.size + 3, 3, none⟩) hz0).trans d_3)
      have v_4 : wr.cell? ⟨w.heap.size + 3, 4, none⟩ = some (.string ⟨#[]⟩) := (HBW.out.cell (p := ⟨w.heap.size + 3, 4, none⟩) (by show w.heap.size + 3 < _; omega)).trans ((HB01.out.cell (p := ⟨w.heap.size + 3, 4, none⟩) hz0).trans d_4)
      have v_f : ∀ o, wr.frozen? ⟨w.heap.size + 3, o, none⟩ = false := fun o => (HBW.out.frozen (p := ⟨w.heap.size + 3, o, none⟩) (by show w.heap.size + 3 < _; omega)).trans ((HB01.out.frozen (p := ⟨w.heap.size + 3, o, none⟩) hz0).trans (d_f o))
      have k_0 := HX.out.e0
      have k_1 := HX.out.e1
      have k_2 := HX.out.e2
      have k_3 := HX.out.e3
      have k_4 := HX.out.e4
      have k_5 := HX.out.e5
      have k_6 := HX.out.e6
      have k_7 := HX.out.e7
      have k_8 := HX.out.e8
      have k_9 := HX.out.e9
      have k_10 := HX.out.e10
      have k_11 := HX.out.e11
      have k_f := HX.out.fz
      have k_l := HX.out.lt
      have hSc1 := And.intro k_0 (And.intro k_1 (And.intro k_2 (And.intro k_3 (And.intro k_4 (And.intro k_5 (And.intro k_6 (And.intro k_7 (And.intro k_8 (And.intro k_9 (And.intro k_10 (And.intro k_11 (And.intro f_0 (And.intro f_1 (And.intro f_2 (And.intro f_3 f_4)))))))))))))))
      refine wp_region_O (fun w' => w'.cell? ⟨b, 0, none⟩ = some (.int .i64 (s1.w : Int)) ∧ w'.cell? ⟨b, 1, none⟩ = some (.int .i64 (s1.h : Int)) ∧ w'.cell? ⟨b, 2, none⟩ = some (.int .i64 (s1.x : Int)) ∧ w'.cell? ⟨b, 3, none⟩ = some (.int .i64 (s1.y : Int)) ∧ w'.cell? ⟨b, 4, none⟩ = some (.int .i64 (s1.look : Int)) ∧ w'.cell? ⟨b, 5, none⟩ = some (.int .i64 (s1.top : Int)) ∧ w'.cell? ⟨b, 6, none⟩ = some (.int .i64 (s1.bot : Int)) ∧ w'.cell? ⟨b, 7, none⟩ = some (.int .i64 (s1.sx : Int)) ∧ w'.cell? ⟨b, 8, none⟩ = some (.int .i64 (s1.sy : Int)) ∧ w'.cell? ⟨b, 9, none⟩ = some (.string s1.title) ∧ w'.cell? ⟨b, 10, none⟩ = some (.slice (some ⟨g1, 0, none⟩) s1.cells.length c1) ∧ w'.cell? ⟨b, 11, none⟩ = some (.slice a1 s1.hist.length d1) ∧ w'.cell? ⟨w1.heap.size, 0, none⟩ = some (.int .i64 q.state) ∧ w'.cell? ⟨w1.heap.size, 1, none⟩ = some (.slice ap2 q.args.length cp2) ∧ w'.cell? ⟨w1.heap.size, 2, none⟩ = some (.bool q.priv) ∧ w'.cell? ⟨w1.heap.size, 3, none⟩ = some (.string q.text) ∧ w'.cell? ⟨w1.heap.size, 4, none⟩ = some (.string q.utf)) [7] [0,1,2,3,5,4,6,7] ?_
      iterate 5 (first | refine oW (h := ?_) | refine oL (hS := hSc1) (h := ?_))
      refine oO (hS := .inr hSc1) (h := ?_)
      intro K' hK
      go_simp
      refine (l04Own_c s1 (some ⟨g1, 0, none⟩) c1 a1 d1 _ HX.out.drew.rd (by rw [HOK1.out.cn]; exact Nat.mul_le_mul HOK1.out.w2 HOK1.out.h2) HOK1.out.hn).mono ?_
      rintro e x1 ⟨ac3, cc3, ah3, dh3, rfl, hF3, hb3⟩
      have HB3x : Hid (Below wr.heap.size wr x1) := Lib.hid (((Below.refl _ _).drew).trans hb3)
      have HF3 : Hid (ScrF wr.heap.size s1 ac3 cc3 ah3 dh3 x1) := Lib.hid hF3
      have hzx := HB3x.out.size
      have HX1 := Lib.hid (HX.out.below HB3x.out)
      clear hF3 hb3
      unfold scrV
      have hSx : x1.cell? ⟨b, 0, none⟩ = some (.int .i64 (s1.w : Int)) ∧ x1.cell? ⟨b, 1, none⟩ = some (.int .i64 (s1.h : Int)) ∧ x1.cell? ⟨b, 2, none⟩ = some (.int .i64 (s1.x : Int)) ∧ x1.cell? ⟨b, 3, none⟩ = some (.int .i64 (s1.y : Int)) ∧ x1.cell? ⟨b, 4, none⟩ = some (.int .i64 (s1.look : Int)) ∧ x1.cell? ⟨b, 5, none⟩ = some (.int .i64 (s1.top : Int)) ∧ x1.cell? ⟨b, 6, none⟩ = some (.int .i64 (s1.bot : Int)) ∧ x1.cell? ⟨b, 7, none⟩ = some (.int .i64 (s1.sx : Int)) ∧ x1.cell? ⟨b, 8, none⟩ = some (.int .i64 (s1.sy : Int)) ∧ x1.cell? ⟨b, 9, none⟩ = some (.string s1.title) ∧ x1.cell? ⟨b, 10, none⟩ = some (.slice (some ⟨g1, 0, none⟩) s1.cells.length c1) ∧ x1.cell? ⟨b, 11, none⟩ = some (.slice a1 s1.hist.length d1) ∧ x1.cell? ⟨w1.heap.size, 0, none⟩ = some (.int .i64 q.state) ∧ x1.cell? ⟨w1.heap.size, 1, none⟩ = some (.slice ap2 q.args.length cp2) ∧ x1.cell? ⟨w1.heap.size, 2, none⟩ = some (.bool q.priv) ∧ x1.cell? ⟨w1.heap.size, 3, none⟩ = some (.string q.text) ∧ x1.cell? ⟨w1.heap.size, 4, none⟩ = some (.string q.utf) := ⟨HX1.out.c0, HX1.out.c1, HX1.out.c2, HX1.out.c3, HX1.out.c4, HX1.out.c5, HX1.out.c6, HX1.out.c7, HX1.out.c8, HX1.out.c9, HX1.out.c10, HX1.out.c11, (HB3x.out.cell (p := ⟨w1.heap.size, 0, none⟩) hw1r).trans f_0, (HB3x.out.cell (p := ⟨w1.heap.size, 1, none⟩) hw1r).trans f_1, (HB3x.out.cell (p := ⟨w1.heap.size, 2, none⟩) hw1r).trans f_2, (HB3x.out.cell (p := ⟨w1.heap.size, 3, none⟩) hw1r).trans f_3, (HB3x.out.cell (p := ⟨w1.heap.size, 4, none⟩) hw1r).trans f_4⟩
      have p6_0 := kC HB3x.out (by omega) u_0
      have p6_1 := kC HB3x.out (by omega) u_1
      have p6_2 := kC HB3x.out (by omega) u_2
      have p6_3 := kC HB3x.out (by omega) u_3
      have p6_4 := kC HB3x.out (by omega) u_4
      have p6_5 := kC HB3x.out (by omega) u_5
      have p6_6 := kC HB3x.out (by omega) u_6
      have p6_7 := kC HB3x.out (by omega) u_7
      have p6_8 := kC HB3x.out (by omega) u_8
      have p6_9 := kC HB3x.out (by omega) u_9
      have p6_10 := kC HB3x.out (by omega) u_10
      have p6_11 := kC HB3x.out (by omega) u_11
      have p6_f : ∀ o, x1.frozen? ⟨w.heap.size + 2, o, none⟩ = false := fun o => (HB3x.out.frozen (p := ⟨w.heap.size + 2, o, none⟩) (by show w.heap.size + 2 < _; omega)).trans (u_f o)
      have p7_0 := kC HB3x.out (by omega) v_0
      have p7_1 := kC HB3x.out (by omega) v_1
      have p7_2 := kC HB3x.out (by omega) v_2
      have p7_3 := kC HB3x.out (by omega) v_3
      have p7_4 := kC HB3x.out (by omega) v_4
      have p7_f : ∀ o, x1.frozen? ⟨w.heap.size + 3, o, none⟩ = false := fun o => (HB3x.out.frozen (p := ⟨w.heap.size + 3, o, none⟩) (by show w.heap.size + 3 < _; omega)).trans (v_f o)
      have p6_l : w.heap.size + 2 < x1.heap.size := by omega
      have p7_l : w.heap.size + 3 < x1.heap.size := by omega
      refine oN hK (hS := .inr hSx) (h := ?_)
      clear hK K'
      refine oO (hS := .inr hSx) (h := ?_)
      intro K' hK
      go_simp
      obtain ⟨x2, hx2⟩ : ∃ x, ((((((((((((x1.setCell ⟨w.heap.size + 1 + 1, 0, none⟩ (.int .i64 (s1.w : Int))).setCell ⟨w.heap.size + 1 + 1, 1, none⟩ (.int .i64 (s1.h : Int))).setCell ⟨w.heap.size + 1 + 1, 2, none⟩ (.int .i64 (s1.x : Int))).setCell ⟨w.heap.size + 1 + 1, 3, none⟩ (.int .i64 (s1.y : Int))).setCell ⟨w.heap.size + 1 + 1, 4, none⟩ (.int .i64 (s1.look : Int))).setCell ⟨w.heap.size + 1 + 1, 5, none⟩ (.int .i64 (s1.top : Int))).setCell ⟨w.heap.size + 1 + 1, 6, none⟩ (.int .i64 (s1.bot : Int))).setCell ⟨w.heap.size + 1 + 1, 7, none⟩ (.int .i64 (s1.sx : Int))).setCell ⟨w.heap.size + 1 + 1, 8, none⟩ (.int .i64 (s1.sy : Int))).setCell ⟨w.heap.size + 1 + 1, 9, none⟩ (.string s1.title)).setCell ⟨w.heap.size + 1 + 1, 10, none⟩ (.slice ac3 s1.cells.length cc3)).setCell ⟨w.heap.size + 1 + 1, 11, none⟩ (.slice ah3 s1.hist.length dh3)) = x := ⟨_, rfl⟩
      have HC2 : Hid (Ch (· = w.heap.size + 2) x1 x2) := Lib.hid (by rw [← hx2]; exact (((((((((((Ch.set1' _ _ 0 _).trans (Ch.set1' _ _ 1 _) (fun _ h => .inl h)).trans (Ch.set1' _ _ 2 _) (fun _ h => .inl h)).trans (Ch.set1' _ _ 3 _) (fun _ h => .inl h)).trans (Ch.set1' _ _ 4 _) (fun _ h => .inl h)).trans (Ch.set1' _ _ 5 _) (fun _ h => .inl h)).trans (Ch.set1' _ _ 6 _) (fun _ h => .inl h)).trans (Ch.set1' _ _ 7 _) (fun _ h => .inl h)).trans (Ch.set1' _ _ 8 _) (fun _ h => .inl h)).trans (Ch.set1' _ _ 9 _) (fun _ h => .inl h)).trans (Ch.set1' _ _ 10 _) (fun _ h => .inl h)).trans (Ch.set1' _ _ 11 _) (fun _ h => .inl h))
      have t_0 : x2.cell? ⟨w.heap.size + 2, 0, none⟩ = some (.int .i64 (s1.w : Int)) := by rw [← hx2]; simp [go_sem, p6_0, p6_1, p6_2, p6_3, p6_4, p6_5, p6_6, p6_7, p6_8, p6_9, p6_10, p6_11, p6_l]
      have t_1 : x2.cell? ⟨w.heap.size + 2, 1, none⟩ = some (.int .i64 (s1.h : Int)) := by rw [← hx2]; simp [go_sem, p6_0, p6_1, p6_2, p6_3, p6_4, p6_5, p6_6, p6_7, p6_8, p6_9, p6_10, p6_11, p6_l]
      have t_2 : x2.cell? ⟨w.heap.size + 2, 2, none⟩ = some (.int .i64 (s1.x : Int)) := by rw [← hx2]; simp [go_sem, p6_0, p6_1, p6_2, p6_3, p6_4, p6_5, p6_6, p6_7, p6_8, p6_9, p6_10, p6_11, p6_l]
      have t_3 : x2.cell? ⟨w.heap.size + 2, 3, none⟩ = some (.int .i64 (s1.y : Int)) := by rw [← hx2]; simp [go_sem, p6_0, p6_1, p6_2, p6_3, p6_4, p6_5, p6_6, p6_7, p6_8, p6_9, p6_10, p6_11, p6_l]
      have t_4 : x2.cell? ⟨w.heap.size + 2, 4, none⟩ = some (.int .i64 (s1.look : Int)) := by rw [← hx2]; simp [go_sem, p6_0, p6_1, p6_2, p6_3, p6_4, p6_5, p6_6, p6_7, p6_8, p6_9, p6_10, p6_11, p6_l]
      have t_5 : x2.cell? ⟨w.heap.size + 2, 5, none⟩ = some (.int .i64 (s1.top : Int)) := by rw [← hx2]; simp [go_sem, p6_0, p6_1, p6_2, p6_3, p6_4, p6_5, p6_6, p6_7, p6_8, p6_9, p6_10, p6_11, p6_l]
      have t_6 : x2.cell? ⟨w.heap.size + 2, 6, none⟩ = some (.int .i64 (s1.bot : Int)) := by rw [← hx2]; simp [go_sem, p6_0, p6_1, p6_2, p6_3, p6_4, p6_5, p6_6, p6_7, p6_8, p6_9, p6_10, p6_11, p6_l]
      have t_7 : x2.cell? ⟨w.heap.size + 2, 7, none⟩ = some (.int .i64 (s1.sx : Int)) := by rw [← hx2]; simp [go_sem, p6_0, p6_1, p6_2, p6_3, p6_4, p6_5, p6_6, p6_7, p6_8, p6_9, p6_10, p6_11, p6_l]
      have t_8 : x2.cell? ⟨w.heap.size + 2, 8, none⟩ = some (.int .i64 (s1.sy : Int)) := by rw [← hx2]; simp [go_sem, p6_0, p6_1, p6_2, p6_3, p6_4, p6_5, p6_6, p6_7, p6_8, p6_9, p6_10, p6_11, p6_l]
      have t_9 : x2.cell? ⟨w.heap.size + 2, 9, none⟩ = some (.string s1.title) := by rw [← hx2]; simp [go_sem, p6_0, p6_1, p6_2, p6_3, p6_4, p6_5, p6_6, p6_7, p6_8, p6_9, p6_10, p6_11, p6_l]
      have t_10 : x2.cell? ⟨w.heap.size + 2, 10, none⟩ = some (.slice ac3 s1.cells.length cc3) := by rw [← hx2]; simp [go_sem, p6_0, p6_1, p6_2, p6_3, p6_4, p6_5, p6_6, p6_7, p6_8, p6_9, p6_10, p6_11, p6_l]
      have t_11 : x2.cell? ⟨w.heap.size + 2, 11, none⟩ = some (.slice ah3 s1.hist.length dh3) := by rw [← hx2]; simp [go_sem, p6_0, p6_1, p6_2, p6_3, p6_4, p6_5, p6_6, p6_7, p6_8, p6_9, p6_10, p6_11, p6_l]
      have hzx2 := HC2.out.size
      have t_l : w.heap.size + 2 < x2.heap.size := by omega
      have p8_0 : x2.cell? ⟨w.heap.size + 3, 0, none⟩ = some (.int .i64 0) := (HC2.out.cell (p := ⟨w.heap.size + 3, 0, none⟩) p7_l (by show ¬ w.heap.size + 3 = w.heap.size + 2; omega)).trans p7_0
      have p8_1 : x2.cell? ⟨w.heap.size + 3, 1, none⟩ = some (.slice none 0 0) := (HC2.out.cell (p := ⟨w.heap.size + 3, 1, none⟩) p7_l (by show ¬ w.heap.size + 3 = w.heap.size + 2; omega)).trans p7_1
      have p8_2 : x2.cell? ⟨w.heap.size + 3, 2, none⟩ = some (.bool false) := (HC2.out.cell (p := ⟨w.heap.size + 3, 2, none⟩) p7_l (by show ¬ w.heap.size + 3 = w.heap.size + 2; omega)).trans p7_2
      have p8_3 : x2.cell? ⟨w.heap.size + 3, 3, none⟩ = some (.string ⟨#[]⟩) := (HC2.out.cell (p := ⟨w.heap.size + 3, 3, none⟩) p7_l (by show ¬ w.heap.size + 3 = w.heap.size + 2; omega)).trans p7_3
      have p8_4 : x2.cell? ⟨w.heap.size + 3, 4, none⟩ = some (.string ⟨#[]⟩) := (HC2.out.cell (p := ⟨w.heap.size + 3, 4, none⟩) p7_l (by show ¬ w.heap.size + 3 = w.heap.size + 2; omega)).trans p7_4
      have p8_f : ∀ o, x2.frozen? ⟨w.heap.size + 3, o, none⟩ = false := fun o => (HC2.out.frozen (p := ⟨w.heap.size + 3, o, none⟩) p7_l (by show ¬ w.heap.size + 3 = w.heap.size + 2; omega)).trans (p7_f o)
      have p8_l : w.heap.size + 3 < x2.heap.size := by omega
      have hS2 : x2.cell? ⟨b, 0, none⟩ = some (.int .i64 (s1.w : Int)) ∧ x2.cell? ⟨b, 1, none⟩ = some (.int .i64 (s1.h : Int)) ∧ x2.cell? ⟨b, 2, none⟩ = some (.int .i64 (s1.x : Int)) ∧ x2.cell? ⟨b, 3, none⟩ = some (.int .i64 (s1.y : Int)) ∧ x2.cell? ⟨b, 4, none⟩ = some (.int .i64 (s1.look : Int)) ∧ x2.cell? ⟨b, 5, none⟩ = some (.int .i64 (s1.top : Int)) ∧ x2.cell? ⟨b, 6, none⟩ = some (.int .i64 (s1.bot : Int)) ∧ x2.cell? ⟨b, 7, none⟩ = some (.int .i64 (s1.sx : Int)) ∧ x2.cell? ⟨b, 8, none⟩ = some (.int .i64 (s1.sy : Int)) ∧ x2.cell? ⟨b, 9, none⟩ = some (.string s1.title) ∧ x2.cell? ⟨b, 10, none⟩ = some (.slice (some ⟨g1, 0, none⟩) s1.cells.length c1) ∧ x2.cell? ⟨b, 11, none⟩ = some (.slice a1 s1.hist.length d1) ∧ x2.cell? ⟨w1.heap.size, 0, none⟩ = some (.int .i64 q.state) ∧ x2.cell? ⟨w1.heap.size, 1, none⟩ = some (.slice ap2 q.args.length cp2) ∧ x2.cell? ⟨w1.heap.size, 2, none⟩ = some (.bool q.priv) ∧ x2.cell? ⟨w1.heap.size, 3, none⟩ = some (.string q.text) ∧ x2.cell? ⟨w1.heap.size, 4, none⟩ = some (.string q.utf) := ⟨(HC2.out.cell (p := ⟨b, 0, none⟩) HX1.out.lt (by show ¬ b = w.heap.size + 2; omega)).trans HX1.out.c0, (HC2.out.cell (p := ⟨b, 1, none⟩) HX1.out.lt (by show ¬ b = w.heap.size + 2; omega)).trans HX1.out.c1, (HC2.out.cell (p := ⟨b, 2, none⟩) HX1.out.lt (by show ¬ b = w.heap.size + 2; omega)).trans HX1.out.c2, (HC2.out.cell (p := ⟨b, 3, none⟩) HX1.out.lt (by show ¬ b = w.heap.size + 2; omega)).trans HX1.out.c3, (HC2.out.cell (p := ⟨b, 4, none⟩) HX1.out.lt (by show ¬ b = w.heap.size + 2; omega)).trans HX1.out.c4, (HC2.out.cell (p := ⟨b, 5, none⟩) HX1.out.lt (by show ¬ b = w.heap.size + 2; omega)).trans HX1.out.c5, (HC2.out.cell (p := ⟨b, 6, none⟩) HX1.out.lt (by show ¬ b = w.heap.size + 2; omega)).trans HX1.out.c6, (HC2.out.cell (p := ⟨b, 7, none⟩) HX1.out.lt (by show ¬ b = w.heap.size + 2; omega)).trans HX1.out.c7, (HC2.out.cell (p := ⟨b, 8, none⟩) HX1.out.lt (by show ¬ b = w.heap.size + 2; omega)).trans HX1.out.c8, (HC2.out.cell (p := ⟨b, 9, none⟩) HX1.out.lt (by show ¬ b = w.heap.size + 2; omega)).trans HX1.out.c9, (HC2.out.cell (p := ⟨b, 10, none⟩) HX1.out.lt (by show ¬ b = w.heap.size + 2; omega)).trans HX1.out.c10, (HC2.out.cell (p := ⟨b, 11, none⟩) HX1.out.lt (by show ¬ b = w.heap.size + 2; omega)).trans HX1.out.c11, (HC2.out.cell (p := ⟨w1.heap.size, 0, none⟩) (by show w1.heap.size < _; omega) (by show ¬ w1.heap.size = w.heap.size + 2; omega)).trans hSx.2.2.2.2.2.2.2.2.2.2.2.2.1, (HC2.out.cell (p := ⟨w1.heap.size, 1, none⟩) (by show w1.heap.size < _; omega) (by show ¬ w1.heap.size = w.heap.size + 2; omega)).trans hSx.2.2.2.2.2.2.2.2.2.2.2.2.2.1, (HC2.out.cell (p := ⟨w1.heap.size, 2, none⟩) (by show w1.heap.size < _; omega) (by show ¬ w1.heap.size = w.heap.size + 2; omega)).trans hSx.2.2.2.2.2.2.2.2.2.2.2.2.2.2.1, (HC2.out.cell (p := ⟨w1.heap.size, 3, none⟩) (by show w1.heap.size < _; omega) (by show ¬ w1.heap.size = w.heap.size + 2; omega)).trans hSx.2.2.2.2.2.2.2.2.2.2.2.2.2.2.2.1, (HC2.out.cell (p := ⟨w1.heap.size, 4, none⟩) (by show w1.heap.size < _; omega) (by show ¬ w1.heap.size = w.heap.size + 2; omega)).trans hSx.2.2.2.2.2.2.2.2.2.2.2.2.2.2.2.2⟩
      rw [hx2]
      clear hx2 hSx p6_0 p6_1 p6_2 p6_3 p6_4 p6_5 p6_6 p6_7 p6_8 p6_9 p6_10 p6_11 p6_f p6_l p7_0 p7_1 p7_2 p7_3 p7_4 p7_f p7_l
      refine oN hK (hS := .inr hS2) (h := ?_)
      clear hK K'
      refine oO (hS := .inl rfl) (h := ?_)
      intro K' hK
      go_simp
      refine oN hK (hS := .inl rfl) (h := ?_)
      clear hK K'
      refine oD ?_
      have nn : ¬ w.heap.size + 2 = w.heap.size + 3 := by omega
      have nm : ¬ w.heap.size + 3 = w.heap.size + 2 := by omega
      go_wp2_with fail
      refine bodyPost_ret (v := .tuple #[scrV s1 ac3 cc3 ah3 dh3, .agg #[.int .i64 q.state, .slice ap2 q.args.length cp2, .bool q.priv, .string q.text, .string q.utf]]) (by simp [results, Tryz.results51, scrV, go_sem, t_0, t_1, t_2, t_3, t_4, t_5, t_6, t_7, t_8, t_9, t_10, t_11, t_l, p8_0, p8_1, p8_2, p8_3, p8_4, p8_l, nn, nm]) rfl ?_
      rw [HACTS.out, HQ.out, HE.out]
      have hfin : ∀ wz, Ch (· = w.heap.size + 3) x2 wz → FeedR s1 q w (.returned (.tuple #[scrV s1 ac3 cc3 ah3 dh3, .agg #[.int .i64 q.state, .slice ap2 q.args.length cp2, .bool q.priv, .string q.text, .string q.utf]])) wz := fun wz hc => by
        have h1 : Below w.heap.size w x1 := (((HB0.out.trans (HB1.out.mono (by omega))).trans (HBW1.out.mono (by omega))).trans (HBW.out.mono (by omega))).trans (HB3x.out.mono (by omega))
        have h2 : Ch (fun k => k = w.heap.size + 2 ∨ k = w.heap.size + 3) x1 wz := (HC2.out.mono (fun i h => .inl (.inl h))).trans hc (fun i h => .inl (.inr h))
        have hfb := FreshIn.blks HF.out
        have f1 := ((HF.out.keepB HBW1.out).keepB HBW.out).keepB HB3x.out
        have fc := FreshIn.blks HF3.out.row
        have fh := HF3.out.win.blk
        refine ⟨ac3, cc3, ah3, dh3, ap2, cp2, rfl, (HF3.out.low (by omega)).ch h2 (fun k hk e => by have := (fc k hk).1; omega) (fun k hk e => by have := (fh k hk).1; omega), (f1.ch h2 (fun k hk e => by have := (hfb k hk).1; omega)).mono (by omega) (Nat.le_refl _), fun k hk => ⟨fun h => ?_, fun h => ?_⟩, h1.trans (h2.below (by omega) (fun k h => by omega))⟩
        · have := (hfb k hk).2; have := (fc k h).1; omega
        · have := (hfb k hk).2; have := (fh k h).1; omega
      refine hfin _ ?_
      exact ((((Ch.set1' _ _ 0 _).trans (Ch.set1' _ _ 1 _) (fun _ h => .inl h)).trans (Ch.set1' _ _ 2 _) (fun _ h => .inl h)).trans (Ch.set1' _ _ 3 _) (fun _ h => .inl h)).trans (Ch.set1' _ _ 4 _) (fun _ h => .inl h)
end
section
open Go.RowKit
section
variable {P : Program} {md : Region.Mode} {ops : Array Oper} {Q : Exit → Act → World → Prop} {S : World → Prop} {ex : Nat → Bool}
end
structure DrS (b : Nat) (a : Option Addr) (c : Nat) (xs : List UInt8) (K lo X Y : Nat) (s : Scr) (ac : Option Addr) (cc : Nat) (ah : Option Addr) (dh : Nat) (p : PV) (ap : Option Addr) (cp : Nat) (w : World) : Prop where
  sc : ScrF lo s ac cc ah dh w
  ok : ScrOK s
  pv : PvOK p
  gd : p = pz ∧ s.look &&& 48 = 0
  ar : FreshIn intE 3 1 lo w.heap.size (.slice ap p.args.length cp) p.args w
  src : SrcAt b a c xs K w
  x0 : w.cell? ⟨X, 0, none⟩ = some (.int .i64 (s.w : Int))
  x1 : w.cell? ⟨X, 1, none⟩ = some (.int .i64 (s.h : Int))
  x2 : w.cell? ⟨X, 2, none⟩ = some (.int .i64 (s.x : Int))
  x3 : w.cell? ⟨X, 3, none⟩ = some (.int .i64 (s.y : Int))
  x4 : w.cell? ⟨X, 4, none⟩ = some (.int .i64 (s.look : Int))
  x5 : w.cell? ⟨X, 5, none⟩ = some (.int .i64 (s.top : Int))
  x6 : w.cell? ⟨X, 6, none⟩ = some (.int .i64 (s.bot : Int))
  x7 : w.cell? ⟨X, 7, none⟩ = some (.int .i64 (s.sx : Int))
  x8 : w.cell? ⟨X, 8, none⟩ = some (.int .i64 (s.sy : Int))
  x9 : w.cell? ⟨X, 9, none⟩ = some (.string s.title)
  x10 : w.cell? ⟨X, 10, none⟩ = some (.slice ac s.cells.length cc)
  x11 : w.cell? ⟨X, 11, none⟩ = some (.slice ah s.hist.length dh)
  y0 : w.cell? ⟨Y, 0, none⟩ = some (.int .i64 p.state)
  y1 : w.cell? ⟨Y, 1, none⟩ = some (.slice ap p.args.length cp)
  y2 : w.cell? ⟨Y, 2, none⟩ = some (.bool p.priv)
  y3 : w.cell? ⟨Y, 3, none⟩ = some (.string p.text)
  y4 : w.cell? ⟨Y, 4, none⟩ = some (.string p.utf)
  xf : ∀ o, w.frozen? ⟨X, o, none⟩ = false
  yf : ∀ o, w.frozen? ⟨Y, o, none⟩ = false
  xl : lo ≤ X ∧ X < w.heap.size
  yl : lo ≤ Y ∧ Y < w.heap.size
  xy : X ≠ Y
  bl : b < lo
  nx : ∀ k, k ∈ blkOf ac ∨ k ∈ blkOf ah ∨ k ∈ blkOf ap → k ≠ X ∧ k ≠ Y
theorem SrcAt.ch {b K c : Nat} {a : Option Addr} {xs : List UInt8} {w w' : World} {M : Nat → Prop} (h : SrcAt b a c xs K w) (hc : Ch M w w') (hb : ¬ M b) (ha : ∀ b' o, a = some ⟨b', o, none⟩ → xs = [] ∨ ¬ M b') : SrcAt b a c xs K w' := by
  obtain ⟨q, seed, h1, h2, h3, c0, c1, c2, hf, hs, hne, hb0⟩ := h
  refine ⟨q, seed, h1, h2, h3, (hc.cell (p := ⟨b, 0, none⟩) hb0 hb).trans c0, (hc.cell (p := ⟨b, 1, none⟩) hb0 hb).trans c1, (hc.cell (p := ⟨b, 2, none⟩) hb0 hb).trans c2, fun o => (hc.frozen (p := ⟨b, o, none⟩) hb0 hb).trans (hf o), ?_, hne, Nat.lt_of_lt_of_le hb0 hc.size⟩
  by_cases hx : xs = []
  · exact .inl hx
  · refine hs.ch hc (fun k hk => ?_)
    cases a with
    | none => simp [blkOf] at hk
    | some p =>
      simp only [blkOf, List.mem_singleton] at hk
      subst hk
      obtain ⟨pb, po, ps⟩ := p
      rcases hs with hs | ⟨b2, o2, he2, _⟩
      · exact absurd hs hx
      · cases he2
        exact (ha pb po rfl).resolve_left hx
theorem DrS.ch {b : Nat} {a : Option Addr} {c : Nat} {xs : List UInt8} {K K' lo X Y : Nat} {s : Scr} {ac : Option Addr} {cc : Nat} {ah : Option Addr} {dh : Nat} {p : PV} {ap : Option Addr} {cp : Nat} {w w' : World} (h : DrS b a c xs K lo X Y s ac cc ah dh p ap cp w) (hc : Ch (· = b) w w') (hs : SrcAt b a c xs K' w') : DrS b a c xs K' lo X Y s ac cc ah dh p ap cp w' := by
  have hb := h.bl
  have hX := h.xl
  have hY := h.yl
  have f1 := FreshIn.blks h.sc.row
  have f2 := h.sc.win.blk
  have f3 := FreshIn.blks h.ar
  have nX : ¬ X = b := by omega
  have nY : ¬ Y = b := by omega
  have hz := hc.size
  exact ⟨h.sc.ch hc (fun k hk e => by have := (f1 k hk).1; omega) (fun k hk e => by have := (f2 k hk).1; omega), h.ok, h.pv, h.gd, h.ar.ch hc (fun k hk e => by have := (f3 k hk).1; omega), hs, (hc.cell (p := ⟨X, 0, none⟩) hX.2 nX).trans h.x0, (hc.cell (p := ⟨X, 1, none⟩) hX.2 nX).trans h.x1, (hc.cell (p := ⟨X, 2, none⟩) hX.2 nX).trans h.x2, (hc.cell (p := ⟨X, 3, none⟩) hX.2 nX).trans h.x3, (hc.cell (p := ⟨X, 4, none⟩) hX.2 nX).trans h.x4, (hc.cell (p := ⟨X, 5, none⟩) hX.2 nX).trans h.x5, (hc.cell (p := ⟨X, 6, none⟩) hX.2 nX).trans h.x6, (hc.cell (p := ⟨X, 7, none⟩) hX.2 nX).trans h.x7, (hc.cell (p := ⟨X, 8, none⟩) hX.2 nX).trans h.x8, (hc.cell (p := ⟨X, 9, none⟩) hX.2 nX).trans h.x9, (hc.cell (p := ⟨X, 10, none⟩) hX.2 nX).trans h.x10, (hc.cell (p := ⟨X, 11, none⟩) hX.2 nX).trans h.x11, (hc.cell (p := ⟨Y, 0, none⟩) hY.2 nY).trans h.y0, (hc.cell (p := ⟨Y, 1, none⟩) hY.2 nY).trans h.y1, (hc.cell (p := ⟨Y, 2, none⟩) hY.2 nY).trans h.y2, (hc.cell (p := ⟨Y, 3, none⟩) hY.2 nY).trans h.y3, (hc.cell (p := ⟨Y, 4, none⟩) hY.2 nY).trans h.y4, fun o => (hc.frozen (p := ⟨X, o, none⟩) hX.2 nX).trans (h.xf o), fun o => (hc.frozen (p := ⟨Y, o, none⟩) hY.2 nY).trans (h.yf o), ⟨hX.1, by omega⟩, ⟨hY.1, by omega⟩, h.xy, hb, h.nx⟩
theorem srcScreen_c (b : Nat) (a : Option Addr) (c : Nat) (xs : List UInt8) (w : World) (h : SrcAt b a c xs 0 w) :
    Calls Tryz.prog 23 #[.pointer (some ⟨b, 0, none⟩)] w fun e w' => ∃ s, (ScrOK s ∧ s.look &&& 48 = 0) ∧ Below b w w' ∧ ∃ ac cc ah dh, e = .returned (scrV s ac cc ah dh) ∧ ScrF w.heap.size s ac cc ah dh w' := by
  have hb0 : b < w.heap.size := h.lt
  have hfar := h.far
  obtain ⟨W0, hW0⟩ : ∃ x, w.alloc (.cells #[.int .i64 0, .int .i64 0, .int .i64 0, .int .i64 0, .int .i64 0, .int .i64 0, .int .i64 0, .int .i64 0, .int .i64 0, .string ⟨#[]⟩, .slice none 0 0, .slice none 0 0] 26) = x := ⟨_, rfl⟩
  have HB0 : Hid (Below w.heap.size w W0) := Lib.hid (by rw [← hW0]; exact (Below.refl _ _).alloc (Nat.le_refl _) _)
  have hz0 : w.heap.size < W0.heap.size := by rw [← hW0]; simp
  have z_0 : W0.cell? ⟨w.heap.size, 0, none⟩ = some (.int .i64 0) := by rw [← hW0]; simp [go_sem]
  have z_1 : W0.cell? ⟨w.heap.size, 1, none⟩ = some (.int .i64 0) := by rw [← hW0]; simp [go_sem]
  have z_2 : W0.cell? ⟨w.heap.size, 2, none⟩ = some (.int .i64 0) := by rw [← hW0]; simp [go_sem]
  have z_3 : W0.cell? ⟨w.heap.size, 3, none⟩ = some (.int .i64 0) := by rw [← hW0]; simp [go_sem]
  have z_4 : W0.cell? ⟨w.heap.size, 4, none⟩ = some (.int .i64 0) := by rw [← hW0]; simp [go_sem]
  have z_5 : W0.cell? ⟨w.heap.size, 5, none⟩ = some (.int .i64 0) := by rw [← hW0]; simp [go_sem]
  have z_6 : W0.cell? ⟨w.heap.size, 6, none⟩ = some (.int .i64 0) := by rw [← hW0]; simp [go_sem]
  have z_7 : W0.cell? ⟨w.heap.size, 7, none⟩ = some (.int .i64 0) := by rw [← hW0]; simp [go_sem]
  have z_8 : W0.cell? ⟨w.heap.size, 8, none⟩ = some (.int .i64 0) := by rw [← hW0]; simp [go_sem]
  have z_9 : W0.cell? ⟨w.heap.size, 9, none⟩ = some (.string ⟨#[]⟩) := by rw [← hW0]; simp [go_sem]
  have z_10 : W0.cell? ⟨w.heap.size, 10, none⟩ = some (.slice none 0 0) := by rw [← hW0]; simp [go_sem]
  have z_11 : W0.cell? ⟨w.heap.size, 11, none⟩ = some (.slice none 0 0) := by rw [← hW0]; simp [go_sem]
  have z_f : ∀ o, W0.frozen? ⟨w.heap.size, o, none⟩ = false := fun o => by rw [← hW0]; simp [go_sem]
  have HN := Lib.hid (srcNext_c b a c xs 0 12 W0 (h.below HB0.out) (by omega) (by omega) (by omega))
  clear h
  go_enter Tryz.func23, Tryz.ntmps23
  go_upto_region 1 with fail
  clear hW0
  go_wp2_with fail
  refine HN.out.mono ?_
  rintro e w1 ⟨m1, hm1, rfl, hs1, hd1⟩
  have HS1 := Lib.hid hs1
  have HD1 := Lib.hid hd1
  have hz1 := hd1.size
  have HN2 := Lib.hid (srcNext_c b a c xs 1 6 w1 hs1 (by omega) (by omega) (by omega))
  clear hs1 hd1
  go_wp2_with fail
  refine HN2.out.mono ?_
  rintro e w2 ⟨m2, hm2, rfl, hs2, hd2⟩
  have HS2 := Lib.hid hs2
  have HD2 := Lib.hid hd2
  have hz2 := hd2.size
  clear hs2 hd2
  obtain ⟨n1, hn1⟩ : ∃ n, 2 + m1 = n := ⟨_, rfl⟩
  obtain ⟨n2, hn2⟩ : ∃ n, 2 + m2 = n := ⟨_, rfl⟩
  have hi1 : (2 : Int) + (m1 : Int) = (n1 : Int) := by omega
  have hi2 : (2 : Int) + (m2 : Int) = (n2 : Int) := by omega
  go_wp2_with fail
  refine (l04New_c n1 n2 _ (by omega) (by omega) (by omega)).mono ?_
  rintro e w3 ⟨ac3, cc3, ah3, dh3, rfl, hf3, hb3⟩
  have HF3 := Lib.hid hf3
  have HB3 := Lib.hid hb3
  have hz3 := hb3.size
  unfold scrV
  obtain ⟨X, hX⟩ : ∃ x, w3.heap.size = x := ⟨_, rfl⟩
  obtain ⟨W3, hW3⟩ : ∃ x, w3.alloc (.cells #[.int .i64 ((newS n1 n2).w : Int), .int .i64 ((newS n1 n2).h : Int), .int .i64 ((newS n1 n2).x : Int), .int .i64 ((newS n1 n2).y : Int), .int .i64 ((newS n1 n2).look : Int), .int .i64 ((newS n1 n2).top : Int), .int .i64 ((newS n1 n2).bot : Int), .int .i64 ((newS n1 n2).sx : Int), .int .i64 ((newS n1 n2).sy : Int), .string (newS n1 n2).title, .slice ac3 (newS n1 n2).cells.length cc3, .slice ah3 (newS n1 n2).hist.length dh3] 26) = x := ⟨_, rfl⟩
  have HB3' : Hid (Below w3.heap.size w3 W3) := Lib.hid (by rw [← hW3]; exact (Below.refl _ _).alloc (Nat.le_refl _) _)
  have hX3 : X < W3.heap.size := by rw [← hW3, ← hX]; simp
  have x_0 : W3.cell? ⟨X, 0, none⟩ = some (.int .i64 ((newS n1 n2).w : Int)) := by rw [← hW3, ← hX]; simp [go_sem]
  have x_1 : W3.cell? ⟨X, 1, none⟩ = some (.int .i64 ((newS n1 n2).h : Int)) := by rw [← hW3, ← hX]; simp [go_sem]
  have x_2 : W3.cell? ⟨X, 2, none⟩ = some (.int .i64 ((newS n1 n2).x : Int)) := by rw [← hW3, ← hX]; simp [go_sem]
  have x_3 : W3.cell? ⟨X, 3, none⟩ = some (.int .i64 ((newS n1 n2).y : Int)) := by rw [← hW3, ← hX]; simp [go_sem]
  have x_4 : W3.cell? ⟨X, 4, none⟩ = some (.int .i64 ((newS n1 n2).look : Int)) := by rw [← hW3, ← hX]; simp [go_sem]
  have x_5 : W3.cell? ⟨X, 5, none⟩ = some (.int .i64 ((newS n1 n2).top : Int)) := by rw [← hW3, ← hX]; simp [go_sem]
  have x_6 : W3.cell? ⟨X, 6, none⟩ = some (.int .i64 ((newS n1 n2).bot : Int)) := by rw [← hW3, ← hX]; simp [go_sem]
  have x_7 : W3.cell? ⟨X, 7, none⟩ = some (.int .i64 ((newS n1 n2).sx : Int)) := by rw [← hW3, ← hX]; simp [go_sem]
  have x_8 : W3.cell? ⟨X, 8, none⟩ = some (.int .i64 ((newS n1 n2).sy : Int)) := by rw [← hW3, ← hX]; simp [go_sem]
  have x_9 : W3.cell? ⟨X, 9, none⟩ = some (.string (newS n1 n2).title) := by rw [← hW3, ← hX]; simp [go_sem]
  have x_10 : W3.cell? ⟨X, 10, none⟩ = some (.slice ac3 (newS n1 n2).cells.length cc3) := by rw [← hW3, ← hX]; simp [go_sem]
  have x_11 : W3.cell? ⟨X, 11, none⟩ = some (.slice ah3 (newS n1 n2).hist.length dh3) := by rw [← hW3, ← hX]; simp [go_sem]
  have x_f : ∀ o, W3.frozen? ⟨X, o, none⟩ = false := fun o => by rw [← hW3, ← hX]; simp [go_sem]
  clear hf3 hb3 hi1 hi2
  go_upto_region 2 with fail
  clear hW3
  go_upto_region 3 with fail
  obtain ⟨Y, hY⟩ : ∃ x, W3.heap.size + 1 = x := ⟨_, rfl⟩
  obtain ⟨W5, hW5⟩ : ∃ x, (W3.alloc (.cells #[] 3)).alloc (.cells #[.int .i64 0, .slice (some ⟨W3.heap.size, 0, none⟩) 0 0, .bool false, .string ⟨#[]⟩, .string ⟨#[]⟩] 42) = x := ⟨_, rfl⟩
  rw [hW5, hY]
  have HB5 : Hid (Below W3.heap.size W3 W5) := Lib.hid (by rw [← hW5]; exact ((Below.refl _ _).alloc (Nat.le_refl _) _).alloc (by simp) _)
  have hY5 : Y < W5.heap.size := by rw [← hW5, ← hY]; simp
  have HAR : Hid (FreshIn intE 3 1 (w.heap.size + 1) W5.heap.size (.slice (some ⟨W3.heap.size, 0, none⟩) 0 0) ([] : List Int) W5) := Lib.hid (by
    rw [← hW5]
    exact (FreshIn.emp intE _ 1 (w.heap.size + 1) W3 (by omega)).keepB ((Below.refl _ _).alloc (Nat.le_refl _) _))
  have y_0 : W5.cell? ⟨Y, 0, none⟩ = some (.int .i64 0) := by rw [← hW5, ← hY]; simp [go_sem]
  have y_1 : W5.cell? ⟨Y, 1, none⟩ = some (.slice (some ⟨W3.heap.size, 0, none⟩) 0 0) := by rw [← hW5, ← hY]; simp [go_sem]
  have y_2 : W5.cell? ⟨Y, 2, none⟩ = some (.bool false) := by rw [← hW5, ← hY]; simp [go_sem]
  have y_3 : W5.cell? ⟨Y, 3, none⟩ = some (.string ⟨#[]⟩) := by rw [← hW5, ← hY]; simp [go_sem]
  have y_4 : W5.cell? ⟨Y, 4, none⟩ = some (.string ⟨#[]⟩) := by rw [← hW5, ← hY]; simp [go_sem]
  have y_f : ∀ o, W5.frozen? ⟨Y, o, none⟩ = false := fun o => by rw [← hW5, ← hY]; simp [go_sem]
  obtain ⟨lo, hlo⟩ : ∃ l, w.heap.size = l := ⟨_, rfl⟩
  have HLO := Lib.hid hlo
  have HZ0 : Hid (W0.cell? ⟨lo, 0, none⟩ = some (.int .i64 0) ∧ W0.cell? ⟨lo, 1, none⟩ = some (.int .i64 0) ∧ W0.cell? ⟨lo, 2, none⟩ = some (.int .i64 0) ∧ W0.cell? ⟨lo, 3, none⟩ = some (.int .i64 0) ∧ W0.cell? ⟨lo, 4, none⟩ = some (.int .i64 0) ∧ W0.cell? ⟨lo, 5, none⟩ = some (.int .i64 0) ∧ W0.cell? ⟨lo, 6, none⟩ = some (.int .i64 0) ∧ W0.cell? ⟨lo, 7, none⟩ = some (.int .i64 0) ∧ W0.cell? ⟨lo, 8, none⟩ = some (.int .i64 0) ∧ W0.cell? ⟨lo, 9, none⟩ = some (.string ⟨#[]⟩) ∧ W0.cell? ⟨lo, 10, none⟩ = some (.slice none 0 0) ∧ W0.cell? ⟨lo, 11, none⟩ = some (.slice none 0 0) ∧ ∀ o, W0.frozen? ⟨lo, o, none⟩ = false) := Lib.hid (by rw [← hlo]; exact ⟨z_0, z_1, z_2, z_3, z_4, z_5, z_6, z_7, z_8, z_9, z_10, z_11, z_f⟩)
  have HDR : Hid (DrS b a c xs 2 (lo + 1) X Y (newS n1 n2) ac3 cc3 ah3 dh3 pz (some ⟨W3.heap.size, 0, none⟩) 0 W5) := Lib.hid (by
    have f1 := FreshIn.blks HF3.out.row
    have f2 := HF3.out.win.blk
    have g1 : ∀ k, k ∈ blkOf ac3 ∨ k ∈ blkOf ah3 ∨ k ∈ blkOf (some ⟨W3.heap.size, 0, none⟩) → k ≠ X ∧ k ≠ Y := fun k hk => by
      rcases hk with h | h | h
      · have := f1 k h; omega
      · have := f2 k h; omega
      · simp [blkOf] at h; omega
    have hsc : ScrF (lo + 1) (newS n1 n2) ac3 cc3 ah3 dh3 W5 := ((HF3.out.low (by omega)).below HB3'.out).below HB5.out
    have hsrc : SrcAt b a c xs 2 W5 := ((HS2.out.below HB3.out).below HB3'.out).below HB5.out
    have hX5 : X < W5.heap.size := by have := HB5.out.size; omega
    exact ⟨hsc, ScrOK.new (by omega) (by omega) (by omega) (by omega), PvOK.z, ⟨rfl, by show (0 : Nat) &&& 48 = 0; decide⟩, by rw [← hlo]; exact HAR.out, hsrc, (HB5.out.cell (p := ⟨X, 0, none⟩) hX3).trans x_0, (HB5.out.cell (p := ⟨X, 1, none⟩) hX3).trans x_1, (HB5.out.cell (p := ⟨X, 2, none⟩) hX3).trans x_2, (HB5.out.cell (p := ⟨X, 3, none⟩) hX3).trans x_3, (HB5.out.cell (p := ⟨X, 4, none⟩) hX3).trans x_4, (HB5.out.cell (p := ⟨X, 5, none⟩) hX3).trans x_5, (HB5.out.cell (p := ⟨X, 6, none⟩) hX3).trans x_6, (HB5.out.cell (p := ⟨X, 7, none⟩) hX3).trans x_7, (HB5.out.cell (p := ⟨X, 8, none⟩) hX3).trans x_8, (HB5.out.cell (p := ⟨X, 9, none⟩) hX3).trans x_9, (HB5.out.cell (p := ⟨X, 10, none⟩) hX3).trans x_10, (HB5.out.cell (p := ⟨X, 11, none⟩) hX3).trans x_11, y_0, y_1, y_2, y_3, y_4, fun o => (HB5.out.frozen (p := ⟨X, o, none⟩) hX3).trans (x_f o), y_f, ⟨by omega, hX5⟩, ⟨by omega, hY5⟩, by omega, by omega, g1⟩)
  have HZ : Hid ((∀ o, W5.cell? ⟨lo, o, none⟩ = W0.cell? ⟨lo, o, none⟩) ∧ (∀ o, W5.frozen? ⟨lo, o, none⟩ = W0.frozen? ⟨lo, o, none⟩) ∧ Ch (fun k => k = b ∨ lo ≤ k) w W5) := Lib.hid (by
    have h1 : Mid b (b + 1) W0 w2 := HD1.out.trans HD2.out
    have hzz : lo < w2.heap.size := by omega
    have h2 : Below w2.heap.size w2 W5 := (HB3.out.trans (HB3'.out.mono hz3)).trans (HB5.out.mono (by omega))
    refine ⟨fun o => (h2.cell (p := ⟨lo, o, none⟩) hzz).trans (h1.cell (p := ⟨lo, o, none⟩) (by show lo < _; omega) (.inr (by show b + 1 ≤ lo; omega))), fun o => (h2.frozen (p := ⟨lo, o, none⟩) hzz).trans (h1.frozen (p := ⟨lo, o, none⟩) (by show lo < _; omega) (.inr (by show b + 1 ≤ lo; omega))), ?_⟩
    exact ((Ch.of_below HB0.out).trans (Ch.of_mid (M := fun k => k = b ∨ lo ≤ k) h1 (fun k h1 h2 _ => .inl (by omega))) (fun i hi => .inl hi)).trans (N := fun _ => False) (Ch.of_below h2) (fun _ h => h.elim))
  have hloX : lo < X := by omega
  have hloY : lo < Y := by omega
  have hlo5 : lo < W5.heap.size := by omega
  have hbl : b < lo := by omega
  have HFAR : Hid (∀ b' o, a = some ⟨b', o, none⟩ → xs = [] ∨ b' < lo) := Lib.hid (by rw [← hlo]; exact hfar)
  have HN5 := Lib.hid (srcNext_c b a c xs 2 5 W5 HDR.out.src (by omega) (by omega) (by omega))
  clear hW5 x_0 x_1 x_2 x_3 x_4 x_5 x_6 x_7 x_8 x_9 x_10 x_11 x_f y_0 y_1 y_2 y_3 y_4 y_f z_0 z_1 z_2 z_3 z_4 z_5 z_6 z_7 z_8 z_9 z_10 z_11 z_f
  go_wp2_with fail
  refine HN5.out.mono ?_
  rintro e w6 ⟨m5, hm5, rfl, hs6, hd6⟩
  have hc6 : Ch (· = b) W5 w6 := Ch.of_mid hd6 (fun k h1 h2 _ => by omega)
  have HDR6 := Lib.hid (HDR.out.ch hc6 hs6)
  have HZ6 : Hid ((∀ o, w6.cell? ⟨lo, o, none⟩ = W0.cell? ⟨lo, o, none⟩) ∧ (∀ o, w6.frozen? ⟨lo, o, none⟩ = W0.frozen? ⟨lo, o, none⟩) ∧ Ch (fun k => k = b ∨ lo ≤ k) w w6) := Lib.hid ⟨fun o => (hc6.cell (p := ⟨lo, o, none⟩) hlo5 (by show ¬ lo = b; omega)).trans (HZ.out.1 o), fun o => (hc6.frozen (p := ⟨lo, o, none⟩) hlo5 (by show ¬ lo = b; omega)).trans (HZ.out.2.1 o), HZ.out.2.2.trans hc6 (fun i hi => .inl (.inl hi))⟩
  have hlo6 : lo < w6.heap.size := by have := hc6.size; omega
  clear hs6 hd6 hc6
  go_wp2_with fail
  go_loopw [5] (fun iv wr => ∃ (j : Nat), j ≤ 4 ∧ iv = .int .i64 j ∧ Hid (∃ K s ac cc ah dh p ap cp, K ≤ 1000 * (5 - j) ∧ DrS b a c xs K (lo + 1) X Y s ac cc ah dh p ap cp wr ∧ (∀ o, wr.cell? ⟨lo, o, none⟩ = W0.cell? ⟨lo, o, none⟩) ∧ (∀ o, wr.frozen? ⟨lo, o, none⟩ = W0.frozen? ⟨lo, o, none⟩) ∧ Ch (fun k => k = b ∨ lo ≤ k) w wr ∧ lo < wr.heap.size)) (fun iv _ => (intOf iv).toNat)
  case atStart => exact ⟨m5, by omega, rfl, Lib.hid ⟨3, _, _, _, _, _, _, _, _, by omega, HDR6.out, HZ6.out.1, HZ6.out.2.1, HZ6.out.2.2, hlo6⟩⟩
  case round =>
    obtain ⟨j, hj, rfl, HI⟩ := hrel
    obtain ⟨K, s, ac, cc, ah, dh, p, ap, cp, hK, hdr, hzc, hzf, hch, hlr⟩ := HI.out
    have HD := Lib.hid hdr
    have HZC := Lib.hid hzc
    have HZF := Lib.hid hzf
    have HCH := Lib.hid hch
    clear hdr hzc hzf hch
    by_cases hj0 : 0 < j
    · have hj0' : (0 : Int) < (j : Int) := by omega
      go_upto_region 6 with fail
      have x_0 := HD.out.x0
      have x_1 := HD.out.x1
      have x_2 := HD.out.x2
      have x_3 := HD.out.x3
      have x_4 := HD.out.x4
      have x_5 := HD.out.x5
      have x_6 := HD.out.x6
      have x_7 := HD.out.x7
      have x_8 := HD.out.x8
      have x_9 := HD.out.x9
      have x_10 := HD.out.x10
      have x_11 := HD.out.x11
      have y_0 := HD.out.y0
      have y_1 := HD.out.y1
      have y_2 := HD.out.y2
      have y_3 := HD.out.y3
      have y_4 := HD.out.y4
      have hS0 : wr.cell? ⟨X, 0, none⟩ = some (.int .i64 (s.w : Int)) ∧ wr.cell? ⟨X, 1, none⟩ = some (.int .i64 (s.h : Int)) ∧ wr.cell? ⟨X, 2, none⟩ = some (.int .i64 (s.x : Int)) ∧ wr.cell? ⟨X, 3, none⟩ = some (.int .i64 (s.y : Int)) ∧ wr.cell? ⟨X, 4, none⟩ = some (.int .i64 (s.look : Int)) ∧ wr.cell? ⟨X, 5, none⟩ = some (.int .i64 (s.top : Int)) ∧ wr.cell? ⟨X, 6, none⟩ = some (.int .i64 (s.bot : Int)) ∧ wr.cell? ⟨X, 7, none⟩ = some (.int .i64 (s.sx : Int)) ∧ wr.cell? ⟨X, 8, none⟩ = some (.int .i64 (s.sy : Int)) ∧ wr.cell? ⟨X, 9, none⟩ = some (.string s.title) ∧ wr.cell? ⟨X, 10, none⟩ = some (.slice ac s.cells.length cc) ∧ wr.cell? ⟨X, 11, none⟩ = some (.slice ah s.hist.length dh) ∧ wr.cell? ⟨Y, 0, none⟩ = some (.int .i64 p.state) ∧ wr.cell? ⟨Y, 1, none⟩ = some (.slice ap p.args.length cp) ∧ wr.cell? ⟨Y, 2, none⟩ = some (.bool p.priv) ∧ wr.cell? ⟨Y, 3, none⟩ = some (.string p.text) ∧ wr.cell? ⟨Y, 4, none⟩ = some (.string p.utf) := ⟨x_0, x_1, x_2, x_3, x_4, x_5, x_6, x_7, x_8, x_9, x_10, x_11, y_0, y_1, y_2, y_3, y_4⟩
      refine wp_region_O (fun w' => w'.cell? ⟨X, 0, none⟩ = some (.int .i64 (s.w : Int)) ∧ w'.cell? ⟨X, 1, none⟩ = some (.int .i64 (s.h : Int)) ∧ w'.cell? ⟨X, 2, none⟩ = some (.int .i64 (s.x : Int)) ∧ w'.cell? ⟨X, 3, none⟩ = some (.int .i64 (s.y : Int)) ∧ w'.cell? ⟨X, 4, none⟩ = some (.int .i64 (s.look : Int)) ∧ w'.cell? ⟨X, 5, none⟩ = some (.int .i64 (s.top : Int)) ∧ w'.cell? ⟨X, 6, none⟩ = some (.int .i64 (s.bot : Int)) ∧ w'.cell? ⟨X, 7, none⟩ = some (.int .i64 (s.sx : Int)) ∧ w'.cell? ⟨X, 8, none⟩ = some (.int .i64 (s.sy : Int)) ∧ w'.cell? ⟨X, 9, none⟩ = some (.string s.title) ∧ w'.cell? ⟨X, 10, none⟩ = some (.slice ac s.cells.length cc) ∧ w'.cell? ⟨X, 11, none⟩ = some (.slice ah s.hist.length dh) ∧ w'.cell? ⟨Y, 0, none⟩ = some (.int .i64 p.state) ∧ w'.cell? ⟨Y, 1, none⟩ = some (.slice ap p.args.length cp) ∧ w'.cell? ⟨Y, 2, none⟩ = some (.bool p.priv) ∧ w'.cell? ⟨Y, 3, none⟩ = some (.string p.text) ∧ w'.cell? ⟨Y, 4, none⟩ = some (.string p.utf)) [8,9] [0,1,2,3,4,5,6,7,8,9] ?_
      iterate 3 (first | refine oW (h := ?_) | refine oL (hS := hS0) (h := ?_))
      refine oO (hS := .inr hS0) (h := ?_)
      intro K' hK
      go_simp
      refine (srcOutputC_c b a c xs K _ (HD.out.src.below ((Below.refl _ _).drew)) (by omega)).mono ?_
      rintro e x1 ⟨t, ⟨hoc, ht1, ht2⟩, rfl, hs1, hd1⟩
      have HOC := Lib.hid hoc
      clear hoc
      have hc1 : Ch (· = b) wr x1 := (Ch.refl.drew).trans (Ch.of_mid (M := (· = b)) hd1 (fun k h1 h2 _ => by omega)) (fun _ h => .inl h)
      have HD1 := Lib.hid (HD.out.ch hc1 hs1)
      have HC1 := Lib.hid hc1
      have hzx1 := hc1.size
      have hSx1 : x1.cell? ⟨X, 0, none⟩ = some (.int .i64 (s.w : Int)) ∧ x1.cell? ⟨X, 1, none⟩ = some (.int .i64 (s.h : Int)) ∧ x1.cell? ⟨X, 2, none⟩ = some (.int .i64 (s.x : Int)) ∧ x1.cell? ⟨X, 3, none⟩ = some (.int .i64 (s.y : Int)) ∧ x1.cell? ⟨X, 4, none⟩ = some (.int .i64 (s.look : Int)) ∧ x1.cell? ⟨X, 5, none⟩ = some (.int .i64 (s.top : Int)) ∧ x1.cell? ⟨X, 6, none⟩ = some (.int .i64 (s.bot : Int)) ∧ x1.cell? ⟨X, 7, none⟩ = some (.int .i64 (s.sx : Int)) ∧ x1.cell? ⟨X, 8, none⟩ = some (.int .i64 (s.sy : Int)) ∧ x1.cell? ⟨X, 9, none⟩ = some (.string s.title) ∧ x1.cell? ⟨X, 10, none⟩ = some (.slice ac s.cells.length cc) ∧ x1.cell? ⟨X, 11, none⟩ = some (.slice ah s.hist.length dh) ∧ x1.cell? ⟨Y, 0, none⟩ = some (.int .i64 p.state) ∧ x1.cell? ⟨Y, 1, none⟩ = some (.slice ap p.args.length cp) ∧ x1.cell? ⟨Y, 2, none⟩ = some (.bool p.priv) ∧ x1.cell? ⟨Y, 3, none⟩ = some (.string p.text) ∧ x1.cell? ⟨Y, 4, none⟩ = some (.string p.utf) := ⟨HD1.out.x0, HD1.out.x1, HD1.out.x2, HD1.out.x3, HD1.out.x4, HD1.out.x5, HD1.out.x6, HD1.out.x7, HD1.out.x8, HD1.out.x9, HD1.out.x10, HD1.out.x11, HD1.out.y0, HD1.out.y1, HD1.out.y2, HD1.out.y3, HD1.out.y4⟩
      clear hs1 hd1 hc1
      refine oN hK (hS := .inr hSx1) (h := ?_)
      clear hK K'
      refine oO (hS := .inr hSx1) (h := ?_)
      intro K' hK
      go_simp
      refine (l04Feed_c s ac cc ah dh p ap cp t _ HD1.out.sc.rd HD1.out.ok HD1.out.pv (FreshIn.sl (enc := intE) (fun _ => rfl) HD1.out.ar) (by omega)).mono ?_
      rintro e x2 ⟨ac2, cc2, ah2, dh2, ap2, cp2, rfl, hsc2, har2, hdj2, hb2⟩
      obtain ⟨s2, hs2⟩ : ∃ z, actsS s (prun p t.data.toList).2 = z := ⟨_, rfl⟩
      obtain ⟨p2, hp2⟩ : ∃ z, (prun p t.data.toList).1 = z := ⟨_, rfl⟩
      have hok2 : ScrOK s2 := by
        rw [← hs2]
        exact HD1.out.ok.acts (fun A hA => prun_ac t.data.toList HD1.out.pv A hA)
      have hpv2 : PvOK p2 := by rw [← hp2]; exact prun_ok _ HD1.out.pv
      have hgd2 : p2 = pz ∧ s2.look &&& 48 = 0 := by
        rw [← hs2, ← hp2, HD1.out.gd.1]
        exact ⟨(outC_run HOC.out).1, actsS_good HD1.out.ok HD1.out.gd.2 (fun A hA => prun_ac t.data.toList PvOK.z A hA) (outC_run HOC.out).2⟩
      have HGD2 := Lib.hid hgd2
      clear hgd2
      rw [hs2] at hsc2
      rw [hp2] at har2
      rw [hs2, hp2]
      have HSC2 := Lib.hid hsc2
      have HAR2 := Lib.hid har2
      have HB2 := Lib.hid hb2
      have HOK2 := Lib.hid hok2
      have HPV2 := Lib.hid hpv2
      have hzx2 := hb2.size
      have HD2 := Lib.hid (HD1.out.ch (w' := x2) (Ch.of_below hb2) (HD1.out.src.below hb2))
      have hSx2 : x2.cell? ⟨X, 0, none⟩ = some (.int .i64 (s.w : Int)) ∧ x2.cell? ⟨X, 1, none⟩ = some (.int .i64 (s.h : Int)) ∧ x2.cell? ⟨X, 2, none⟩ = some (.int .i64 (s.x : Int)) ∧ x2.cell? ⟨X, 3, none⟩ = some (.int .i64 (s.y : Int)) ∧ x2.cell? ⟨X, 4, none⟩ = some (.int .i64 (s.look : Int)) ∧ x2.cell? ⟨X, 5, none⟩ = some (.int .i64 (s.top : Int)) ∧ x2.cell? ⟨X, 6, none⟩ = some (.int .i64 (s.bot : Int)) ∧ x2.cell? ⟨X, 7, none⟩ = some (.int .i64 (s.sx : Int)) ∧ x2.cell? ⟨X, 8, none⟩ = some (.int .i64 (s.sy : Int)) ∧ x2.cell? ⟨X, 9, none⟩ = some (.string s.title) ∧ x2.cell? ⟨X, 10, none⟩ = some (.slice ac s.cells.length cc) ∧ x2.cell? ⟨X, 11, none⟩ = some (.slice ah s.hist.length dh) ∧ x2.cell? ⟨Y, 0, none⟩ = some (.int .i64 p.state) ∧ x2.cell? ⟨Y, 1, none⟩ = some (.slice ap p.args.length cp) ∧ x2.cell? ⟨Y, 2, none⟩ = some (.bool p.priv) ∧ x2.cell? ⟨Y, 3, none⟩ = some (.string p.text) ∧ x2.cell? ⟨Y, 4, none⟩ = some (.string p.utf) := ⟨HD2.out.x0, HD2.out.x1, HD2.out.x2, HD2.out.x3, HD2.out.x4, HD2.out.x5, HD2.out.x6, HD2.out.x7, HD2.out.x8, HD2.out.x9, HD2.out.x10, HD2.out.x11, HD2.out.y0, HD2.out.y1, HD2.out.y2, HD2.out.y3, HD2.out.y4⟩
      clear hs2 hp2 hok2 hpv2 hsc2 har2 hdj2 hb2
      unfold scrV
      refine oN hK (hS := .inr hSx2) (h := ?_)
      clear hK K'
      iterate 3 refine oW (h := ?_)
      have e_0 := HD2.out.x0
      have e_1 := HD2.out.x1
      have e_2 := HD2.out.x2
      have e_3 := HD2.out.x3
      have e_4 := HD2.out.x4
      have e_5 := HD2.out.x5
      have e_6 := HD2.out.x6
      have e_7 := HD2.out.x7
      have e_8 := HD2.out.x8
      have e_9 := HD2.out.x9
      have e_10 := HD2.out.x10
      have e_11 := HD2.out.x11
      have e_f := HD2.out.xf
      have e_l := HD2.out.xl.2
      refine oO (hS := .inl rfl) (h := ?_)
      intro K' hK
      go_simp
      obtain ⟨x3, hx3⟩ : ∃ x, ((((((((((((x2.setCell ⟨X, 0, none⟩ (.int .i64 (s2.w : Int))).setCell ⟨X, 1, none⟩ (.int .i64 (s2.h : Int))).setCell ⟨X, 2, none⟩ (.int .i64 (s2.x : Int))).setCell ⟨X, 3, none⟩ (.int .i64 (s2.y : Int))).setCell ⟨X, 4, none⟩ (.int .i64 (s2.look : Int))).setCell ⟨X, 5, none⟩ (.int .i64 (s2.top : Int))).setCell ⟨X, 6, none⟩ (.int .i64 (s2.bot : Int))).setCell ⟨X, 7, none⟩ (.int .i64 (s2.sx : Int))).setCell ⟨X, 8, none⟩ (.int .i64 (s2.sy : Int))).setCell ⟨X, 9, none⟩ (.string s2.title)).setCell ⟨X, 10, none⟩ (.slice ac2 s2.cells.length cc2)).setCell ⟨X, 11, none⟩ (.slice ah2 s2.hist.length dh2)) = x := ⟨_, rfl⟩
      have HC3 : Hid (Ch (· = X) x2 x3) := Lib.hid (by rw [← hx3]; exact (((((((((((Ch.set1' _ _ 0 _).trans (Ch.set1' _ _ 1 _) (fun _ h => .inl h)).trans (Ch.set1' _ _ 2 _) (fun _ h => .inl h)).trans (Ch.set1' _ _ 3 _) (fun _ h => .inl h)).trans (Ch.set1' _ _ 4 _) (fun _ h => .inl h)).trans (Ch.set1' _ _ 5 _) (fun _ h => .inl h)).trans (Ch.set1' _ _ 6 _) (fun _ h => .inl h)).trans (Ch.set1' _ _ 7 _) (fun _ h => .inl h)).trans (Ch.set1' _ _ 8 _) (fun _ h => .inl h)).trans (Ch.set1' _ _ 9 _) (fun _ h => .inl h)).trans (Ch.set1' _ _ 10 _) (fun _ h => .inl h)).trans (Ch.set1' _ _ 11 _) (fun _ h => .inl h))
      have hzx3 := HC3.out.size
      have hnYX : ¬ Y = X := fun e => HD.out.xy e.symm
      have hnXY : ¬ X = Y := HD.out.xy
      have t_0 : x3.cell? ⟨X, 0, none⟩ = some (.int .i64 (s2.w : Int)) := by rw [← hx3]; simp [go_sem, e_0, e_1, e_2, e_3, e_4, e_5, e_6, e_7, e_8, e_9, e_10, e_11, e_l]
      have t_1 : x3.cell? ⟨X, 1, none⟩ = some (.int .i64 (s2.h : Int)) := by rw [← hx3]; simp [go_sem, e_0, e_1, e_2, e_3, e_4, e_5, e_6, e_7, e_8, e_9, e_10, e_11, e_l]
      have t_2 : x3.cell? ⟨X, 2, none⟩ = some (.int .i64 (s2.x : Int)) := by rw [← hx3]; simp [go_sem, e_0, e_1, e_2, e_3, e_4, e_5, e_6, e_7, e_8, e_9, e_10, e_11, e_l]
      have t_3 : x3.cell? ⟨X, 3, none⟩ = some (.int .i64 (s2.y : Int)) := by rw [← hx3]; simp [go_sem, e_0, e_1, e_2, e_3, e_4, e_5, e_6, e_7, e_8, e_9, e_10, e_11, e_l]
      have t_4 : x3.cell? ⟨X, 4, none⟩ = some (.int .i64 (s2.look : Int)) := by rw [← hx3]; simp [go_sem, e_0, e_1, e_2, e_3, e_4, e_5, e_6, e_7, e_8, e_9, e_10, e_11, e_l]
      have t_5 : x3.cell? ⟨X, 5, none⟩ = some (.int .i64 (s2.top : Int)) := by rw [← hx3]; simp [go_sem, e_0, e_1, e_2, e_3, e_4, e_5, e_6, e_7, e_8, e_9, e_10, e_11, e_l]
      have t_6 : x3.cell? ⟨X, 6, none⟩ = some (.int .i64 (s2.bot : Int)) := by rw [← hx3]; simp [go_sem, e_0, e_1, e_2, e_3, e_4, e_5, e_6, e_7, e_8, e_9, e_10, e_11, e_l]
      have t_7 : x3.cell? ⟨X, 7, none⟩ = some (.int .i64 (s2.sx : Int)) := by rw [← hx3]; simp [go_sem, e_0, e_1, e_2, e_3, e_4, e_5, e_6, e_7, e_8, e_9, e_10, e_11, e_l]
      have t_8 : x3.cell? ⟨X, 8, none⟩ = some (.int .i64 (s2.sy : Int)) := by rw [← hx3]; simp [go_sem, e_0, e_1, e_2, e_3, e_4, e_5, e_6, e_7, e_8, e_9, e_10, e_11, e_l]
      have t_9 : x3.cell? ⟨X, 9, none⟩ = some (.string s2.title) := by rw [← hx3]; simp [go_sem, e_0, e_1, e_2, e_3, e_4, e_5, e_6, e_7, e_8, e_9, e_10, e_11, e_l]
      have t_10 : x3.cell? ⟨X, 10, none⟩ = some (.slice ac2 s2.cells.length cc2) := by rw [← hx3]; simp [go_sem, e_0, e_1, e_2, e_3, e_4, e_5, e_6, e_7, e_8, e_9, e_10, e_11, e_l]
      have t_11 : x3.cell? ⟨X, 11, none⟩ = some (.slice ah2 s2.hist.length dh2) := by rw [← hx3]; simp [go_sem, e_0, e_1, e_2, e_3, e_4, e_5, e_6, e_7, e_8, e_9, e_10, e_11, e_l]
      have x3_fX : ∀ o, x3.frozen? ⟨X, o, none⟩ = false := fun o => by rw [← hx3]; simp only [World.frozen?_setCell]; exact HD2.out.xf o
      rw [hx3]
      clear hx3 e_0 e_1 e_2 e_3 e_4 e_5 e_6 e_7 e_8 e_9 e_10 e_11 e_f e_l
      have e_0 := (HC3.out.cell (p := ⟨Y, 0, none⟩) HD2.out.yl.2 hnYX).trans HD2.out.y0
      have e_1 := (HC3.out.cell (p := ⟨Y, 1, none⟩) HD2.out.yl.2 hnYX).trans HD2.out.y1
      have e_2 := (HC3.out.cell (p := ⟨Y, 2, none⟩) HD2.out.yl.2 hnYX).trans HD2.out.y2
      have e_3 := (HC3.out.cell (p := ⟨Y, 3, none⟩) HD2.out.yl.2 hnYX).trans HD2.out.y3
      have e_4 := (HC3.out.cell (p := ⟨Y, 4, none⟩) HD2.out.yl.2 hnYX).trans HD2.out.y4
      have e_f : ∀ o, x3.frozen? ⟨Y, o, none⟩ = false := fun o => (HC3.out.frozen (p := ⟨Y, o, none⟩) HD2.out.yl.2 hnYX).trans (HD2.out.yf o)
      have e_l : Y < x3.heap.size := Nat.lt_of_lt_of_le HD2.out.yl.2 hzx3
      refine oN hK (hS := .inl rfl) (h := ?_)
      clear hK K'
      refine oO (hS := .inl rfl) (h := ?_)
      intro K' hK
      go_simp
      obtain ⟨x4, hx4⟩ : ∃ x, (((((x3.setCell ⟨Y, 0, none⟩ (.int .i64 p2.state)).setCell ⟨Y, 1, none⟩ (.slice ap2 p2.args.length cp2)).setCell ⟨Y, 2, none⟩ (.bool p2.priv)).setCell ⟨Y, 3, none⟩ (.string p2.text)).setCell ⟨Y, 4, none⟩ (.string p2.utf)) = x := ⟨_, rfl⟩
      have HC4 : Hid (Ch (· = Y) x3 x4) := Lib.hid (by rw [← hx4]; exact ((((Ch.set1' _ _ 0 _).trans (Ch.set1' _ _ 1 _) (fun _ h => .inl h)).trans (Ch.set1' _ _ 2 _) (fun _ h => .inl h)).trans (Ch.set1' _ _ 3 _) (fun _ h => .inl h)).trans (Ch.set1' _ _ 4 _) (fun _ h => .inl h))
      have u_0 : x4.cell? ⟨Y, 0, none⟩ = some (.int .i64 p2.state) := by rw [← hx4]; simp [go_sem, e_0, e_1, e_2, e_3, e_4, e_l]
      have u_1 : x4.cell? ⟨Y, 1, none⟩ = some (.slice ap2 p2.args.length cp2) := by rw [← hx4]; simp [go_sem, e_0, e_1, e_2, e_3, e_4, e_l]
      have u_2 : x4.cell? ⟨Y, 2, none⟩ = some (.bool p2.priv) := by rw [← hx4]; simp [go_sem, e_0, e_1, e_2, e_3, e_4, e_l]
      have u_3 : x4.cell? ⟨Y, 3, none⟩ = some (.string p2.text) := by rw [← hx4]; simp [go_sem, e_0, e_1, e_2, e_3, e_4, e_l]
      have u_4 : x4.cell? ⟨Y, 4, none⟩ = some (.string p2.utf) := by rw [← hx4]; simp [go_sem, e_0, e_1, e_2, e_3, e_4, e_l]
      have x4_fX : ∀ o, x4.frozen? ⟨X, o, none⟩ = false := fun o => by rw [← hx4]; simp only [World.frozen?_setCell]; exact x3_fX o
      have x4_fY : ∀ o, x4.frozen? ⟨Y, o, none⟩ = false := fun o => by rw [← hx4]; simp only [World.frozen?_setCell]; exact e_f o
      rw [hx4]
      clear hx4 e_0 e_1 e_2 e_3 e_4 e_f e_l
      have hzx4 := HC4.out.size
      refine oN hK (hS := .inl rfl) (h := ?_)
      clear hK K'
      refine oD ?_
      have HC34 : Hid (Ch (fun k => k = X ∨ k = Y) x2 x4) := Lib.hid ((HC3.out.mono (fun i h => .inl (.inl h))).trans HC4.out (fun i h => .inl (.inr h)))
      have HXY : Hid (x2.heap.size ≤ x4.heap.size ∧ X < x1.heap.size ∧ Y < x1.heap.size ∧ lo + 1 ≤ X ∧ lo + 1 ≤ Y ∧ wr.heap.size ≤ x1.heap.size) := Lib.hid ⟨HC34.out.size, HD1.out.xl.2, HD1.out.yl.2, HD.out.xl.1, HD.out.yl.1, hzx1⟩
      have HDN : Hid (DrS b a c xs (K + 9) (lo + 1) X Y s2 ac2 cc2 ah2 dh2 p2 ap2 cp2 x4) := Lib.hid (by
        have hq := HXY.out
        have f1 := FreshIn.blks HSC2.out.row
        have f2 := HSC2.out.win.blk
        have f3 := FreshIn.blks HAR2.out
        have hlx : lo + 1 ≤ x1.heap.size := by omega
        have hn : ∀ k, k ∈ blkOf ac2 ∨ k ∈ blkOf ah2 ∨ k ∈ blkOf ap2 → k ≠ X ∧ k ≠ Y := fun k hk => by
          rcases hk with h | h | h
          · have := f1 k h; omega
          · have := f2 k h; omega
          · have := f3 k h; omega
        have hn' : ∀ k, k ∈ blkOf ac2 ∨ k ∈ blkOf ah2 ∨ k ∈ blkOf ap2 → ¬ (k = X ∨ k = Y) := fun k hk e => by have := hn k hk; omega
        exact ⟨(HSC2.out.low hlx).ch HC34.out (fun k hk => hn' k (.inl hk)) (fun k hk => hn' k (.inr (.inl hk))), HOK2.out, HPV2.out, HGD2.out, (HAR2.out.ch HC34.out (fun k hk => hn' k (.inr (.inr hk)))).mono hlx (Nat.le_refl _), HD2.out.src.ch HC34.out (by omega) (fun b' o he => (HFAR.out b' o he).imp id (fun h => by omega)), (HC4.out.cell (p := ⟨X, 0, none⟩) (by show X < _; omega) hnXY).trans t_0, (HC4.out.cell (p := ⟨X, 1, none⟩) (by show X < _; omega) hnXY).trans t_1, (HC4.out.cell (p := ⟨X, 2, none⟩) (by show X < _; omega) hnXY).trans t_2, (HC4.out.cell (p := ⟨X, 3, none⟩) (by show X < _; omega) hnXY).trans t_3, (HC4.out.cell (p := ⟨X, 4, none⟩) (by show X < _; omega) hnXY).trans t_4, (HC4.out.cell (p := ⟨X, 5, none⟩) (by show X < _; omega) hnXY).trans t_5, (HC4.out.cell (p := ⟨X, 6, none⟩) (by show X < _; omega) hnXY).trans t_6, (HC4.out.cell (p := ⟨X, 7, none⟩) (by show X < _; omega) hnXY).trans t_7, (HC4.out.cell (p := ⟨X, 8, none⟩) (by show X < _; omega) hnXY).trans t_8, (HC4.out.cell (p := ⟨X, 9, none⟩) (by show X < _; omega) hnXY).trans t_9, (HC4.out.cell (p := ⟨X, 10, none⟩) (by show X < _; omega) hnXY).trans t_10, (HC4.out.cell (p := ⟨X, 11, none⟩) (by show X < _; omega) hnXY).trans t_11, u_0, u_1, u_2, u_3, u_4, x4_fX, x4_fY, ⟨hq.2.2.2.1, by omega⟩, ⟨hq.2.2.2.2.1, by omega⟩, HD.out.xy, by omega, hn⟩)
      have HZN : Hid ((∀ o, x4.cell? ⟨lo, o, none⟩ = W0.cell? ⟨lo, o, none⟩) ∧ (∀ o, x4.frozen? ⟨lo, o, none⟩ = W0.frozen? ⟨lo, o, none⟩) ∧ Ch (fun k => k = b ∨ lo ≤ k) w x4 ∧ lo < x4.heap.size) := Lib.hid (by
        have hq := HXY.out
        have hce : Ch (fun k => k = b ∨ k = X ∨ k = Y) wr x4 := ((HC1.out.mono (M := fun k => k = b ∨ k = X ∨ k = Y) (fun i h => .inl (.inl h))).trans (N := fun _ => False) (Ch.of_below HB2.out) (fun _ h => h.elim)).trans HC34.out (fun i h => .inl (.inr h))
        have hnl : ¬ (lo = b ∨ lo = X ∨ lo = Y) := by omega
        exact ⟨fun o => (hce.cell (p := ⟨lo, o, none⟩) hlr hnl).trans (HZC.out o), fun o => (hce.frozen (p := ⟨lo, o, none⟩) hlr hnl).trans (HZF.out o), HCH.out.trans hce (fun i hi => .inl (by omega)), by omega⟩)
      go_wp2_with fail
      go_roundw
      case rel => exact ⟨j - 1, by omega, by go_num, Lib.hid ⟨K + 9, s2, ac2, cc2, ah2, dh2, p2, ap2, cp2, by omega, HDN.out, HZN.out.1, HZN.out.2.1, HZN.out.2.2.1, HZN.out.2.2.2⟩⟩
      case measure => simp [intOf]; omega
    · obtain rfl : j = 0 := by omega
      have x_0 : wr.cell? ⟨X, 0, none⟩ = some (.int .i64 (s.w : Int)) := HD.out.x0
      have x_1 : wr.cell? ⟨X, 1, none⟩ = some (.int .i64 (s.h : Int)) := HD.out.x1
      have x_2 : wr.cell? ⟨X, 2, none⟩ = some (.int .i64 (s.x : Int)) := HD.out.x2
      have x_3 : wr.cell? ⟨X, 3, none⟩ = some (.int .i64 (s.y : Int)) := HD.out.x3
      have x_4 : wr.cell? ⟨X, 4, none⟩ = some (.int .i64 (s.look : Int)) := HD.out.x4
      have x_5 : wr.cell? ⟨X, 5, none⟩ = some (.int .i64 (s.top : Int)) := HD.out.x5
      have x_6 : wr.cell? ⟨X, 6, none⟩ = some (.int .i64 (s.bot : Int)) := HD.out.x6
      have x_7 : wr.cell? ⟨X, 7, none⟩ = some (.int .i64 (s.sx : Int)) := HD.out.x7
      have x_8 : wr.cell? ⟨X, 8, none⟩ = some (.int .i64 (s.sy : Int)) := HD.out.x8
      have x_9 : wr.cell? ⟨X, 9, none⟩ = some (.string s.title) := HD.out.x9
      have x_10 : wr.cell? ⟨X, 10, none⟩ = some (.slice ac s.cells.length cc) := HD.out.x10
      have x_11 : wr.cell? ⟨X, 11, none⟩ = some (.slice ah s.hist.length dh) := HD.out.x11
      have z_0 : wr.cell? ⟨lo, 0, none⟩ = some (.int .i64 0) := (HZC.out 0).trans HZ0.out.1
      have z_1 : wr.cell? ⟨lo, 1, none⟩ = some (.int .i64 0) := (HZC.out 1).trans HZ0.out.2.1
      have z_2 : wr.cell? ⟨lo, 2, none⟩ = some (.int .i64 0) := (HZC.out 2).trans HZ0.out.2.2.1
      have z_3 : wr.cell? ⟨lo, 3, none⟩ = some (.int .i64 0) := (HZC.out 3).trans HZ0.out.2.2.2.1
      have z_4 : wr.cell? ⟨lo, 4, none⟩ = some (.int .i64 0) := (HZC.out 4).trans HZ0.out.2.2.2.2.1
      have z_5 : wr.cell? ⟨lo, 5, none⟩ = some (.int .i64 0) := (HZC.out 5).trans HZ0.out.2.2.2.2.2.1
      have z_6 : wr.cell? ⟨lo, 6, none⟩ = some (.int .i64 0) := (HZC.out 6).trans HZ0.out.2.2.2.2.2.2.1
      have z_7 : wr.cell? ⟨lo, 7, none⟩ = some (.int .i64 0) := (HZC.out 7).trans HZ0.out.2.2.2.2.2.2.2.1
      have z_8 : wr.cell? ⟨lo, 8, none⟩ = some (.int .i64 0) := (HZC.out 8).trans HZ0.out.2.2.2.2.2.2.2.2.1
      have z_9 : wr.cell? ⟨lo, 9, none⟩ = some (.string ⟨#[]⟩) := (HZC.out 9).trans HZ0.out.2.2.2.2.2.2.2.2.2.1
      have z_10 : wr.cell? ⟨lo, 10, none⟩ = some (.slice none 0 0) := (HZC.out 10).trans HZ0.out.2.2.2.2.2.2.2.2.2.2.1
      have z_11 : wr.cell? ⟨lo, 11, none⟩ = some (.slice none 0 0) := (HZC.out 11).trans HZ0.out.2.2.2.2.2.2.2.2.2.2.2.1
      have z_f : ∀ o, wr.frozen? ⟨lo, o, none⟩ = false := fun o => (HZF.out o).trans (HZ0.out.2.2.2.2.2.2.2.2.2.2.2.2 o)
      have nn : ¬ X = lo := by omega
      have nm : ¬ lo = X := by omega
      have hXr := HD.out.xl.2
      go_wp2_with fail
      refine bodyPost_ret (v := scrV s ac cc ah dh) (by simp [results, Tryz.results23, scrV, go_sem, x_0, x_1, x_2, x_3, x_4, x_5, x_6, x_7, x_8, x_9, x_10, x_11, z_0, z_1, z_2, z_3, z_4, z_5, z_6, z_7, z_8, z_9, z_10, z_11, hlr, hXr, nn, nm]) rfl ?_
      have hfin : ∀ wz, Ch (· = lo) wr wz → ScrF w.heap.size s ac cc ah dh wz ∧ Below b w wz := fun wz hc => by
        rw [HLO.out]
        have f1 := FreshIn.blks HD.out.sc.row
        have f2 := HD.out.sc.win.blk
        refine ⟨(HD.out.sc.low (Nat.le_succ lo)).ch hc (fun k hk e => ?_) (fun k hk e => ?_), ?_⟩
        · have := (f1 k hk).1; omega
        · have := (f2 k hk).1; omega
        · exact (HCH.out.below (by rw [HLO.out]; omega) (fun k h => by omega)).trans (hc.below (by omega) (fun k h => by omega))
      refine ⟨s, ⟨HD.out.ok, HD.out.gd.2⟩, (hfin _ ?_).2, ac, cc, ah, dh, rfl, (hfin _ ?_).1⟩
      all_goals repeat (first | (with_reducible exact Ch.refl) | (with_reducible refine Ch.setB ?_ _ _))
theorem screenOfG_c (a : Option Addr) (c : Nat) (xs : List UInt8) (w : World) (ha : Sl byteE 1 w a xs) (hl : xs.length ≤ 1048576) :
    Calls Tryz.prog 6 #[.slice a xs.length c] w fun e w' => ∃ s, (ScrOK s ∧ s.look &&& 48 = 0) ∧ Below w.heap.size w w' ∧ ∃ ac cc ah dh, e = .returned (scrV s ac cc ah dh) ∧ ScrF w.heap.size s ac cc ah dh w' := by
  obtain ⟨W0, hW0⟩ : ∃ x, w.alloc (.cells #[.int .i64 0, .int .i64 0, .int .i64 0, .int .i64 0, .int .i64 0, .int .i64 0, .int .i64 0, .int .i64 0, .int .i64 0, .string ⟨#[]⟩, .slice none 0 0, .slice none 0 0] 26) = x := ⟨_, rfl⟩
  have HB0 : Hid (Below w.heap.size w W0) := Lib.hid (by rw [← hW0]; exact (Below.refl _ _).alloc (Nat.le_refl _) _)
  have hz0 : w.heap.size < W0.heap.size := by rw [← hW0]; simp
  have z_0 : W0.cell? ⟨w.heap.size, 0, none⟩ = some (.int .i64 0) := by rw [← hW0]; simp [go_sem]
  have z_1 : W0.cell? ⟨w.heap.size, 1, none⟩ = some (.int .i64 0) := by rw [← hW0]; simp [go_sem]
  have z_2 : W0.cell? ⟨w.heap.size, 2, none⟩ = some (.int .i64 0) := by rw [← hW0]; simp [go_sem]
  have z_3 : W0.cell? ⟨w.heap.size, 3, none⟩ = some (.int .i64 0) := by rw [← hW0]; simp [go_sem]
  have z_4 : W0.cell? ⟨w.heap.size, 4, none⟩ = some (.int .i64 0) := by rw [← hW0]; simp [go_sem]
  have z_5 : W0.cell? ⟨w.heap.size, 5, none⟩ = some (.int .i64 0) := by rw [← hW0]; simp [go_sem]
  have z_6 : W0.cell? ⟨w.heap.size, 6, none⟩ = some (.int .i64 0) := by rw [← hW0]; simp [go_sem]
  have z_7 : W0.cell? ⟨w.heap.size, 7, none⟩ = some (.int .i64 0) := by rw [← hW0]; simp [go_sem]
  have z_8 : W0.cell? ⟨w.heap.size, 8, none⟩ = some (.int .i64 0) := by rw [← hW0]; simp [go_sem]
  have z_9 : W0.cell? ⟨w.heap.size, 9, none⟩ = some (.string ⟨#[]⟩) := by rw [← hW0]; simp [go_sem]
  have z_10 : W0.cell? ⟨w.heap.size, 10, none⟩ = some (.slice none 0 0) := by rw [← hW0]; simp [go_sem]
  have z_11 : W0.cell? ⟨w.heap.size, 11, none⟩ = some (.slice none 0 0) := by rw [← hW0]; simp [go_sem]
  have z_f : ∀ o, W0.frozen? ⟨w.heap.size, o, none⟩ = false := fun o => by rw [← hW0]; simp [go_sem]
  have HC := Lib.hid (l00Source_c a c xs W0 (ha.keep HB0.out) (Nat.le_trans hl (by decide)))
  clear ha
  go_enter Tryz.func6, Tryz.ntmps6
  go_upto_region 1 with fail
  clear hW0
  go_wp2_with fail
  refine HC.out.mono ?_
  rintro e w1 ⟨rfl, hs1, hb1⟩
  have HB1 := Lib.hid hb1
  have HN := Lib.hid (srcScreen_c W0.heap.size a c xs w1 hs1)
  have hz1 := hb1.size
  clear hs1 hb1
  go_wp2_with fail
  refine HN.out.mono ?_
  rintro e w2 ⟨s, hok, hb2, ac, cc, ah, dh, rfl, hsc⟩
  have HOK := Lib.hid hok
  have HB2 := Lib.hid hb2
  have HSC := Lib.hid hsc
  have hz2 := hb2.size
  have HB12 : Hid (Below W0.heap.size W0 w2) := Lib.hid (HB1.out.trans hb2)
  unfold scrV
  have x_0 := kC HB12.out hz0 z_0
  have x_1 := kC HB12.out hz0 z_1
  have x_2 := kC HB12.out hz0 z_2
  have x_3 := kC HB12.out hz0 z_3
  have x_4 := kC HB12.out hz0 z_4
  have x_5 := kC HB12.out hz0 z_5
  have x_6 := kC HB12.out hz0 z_6
  have x_7 := kC HB12.out hz0 z_7
  have x_8 := kC HB12.out hz0 z_8
  have x_9 := kC HB12.out hz0 z_9
  have x_10 := kC HB12.out hz0 z_10
  have x_11 := kC HB12.out hz0 z_11
  have x_f := fun o => kF HB12.out hz0 (z_f o)
  have x_l : w.heap.size < w2.heap.size := by have := HB12.out.size; omega
  clear hok hb2 hsc z_0 z_1 z_2 z_3 z_4 z_5 z_6 z_7 z_8 z_9 z_10 z_11 z_f
  go_wp2_with fail
  refine bodyPost_ret (v := scrV s ac cc ah dh) (by simp [results, Tryz.results6, scrV, go_sem, x_0, x_1, x_2, x_3, x_4, x_5, x_6, x_7, x_8, x_9, x_10, x_11, x_l]) rfl ?_
  have hfin : ∀ wz, Ch (fun k => k = w.heap.size) w2 wz → ScrF w.heap.size s ac cc ah dh wz ∧ Below w.heap.size w wz := fun wz hc => by
    have f1 := FreshIn.blks HSC.out.row
    have f2 := HSC.out.win.blk
    refine ⟨(HSC.out.low (by omega)).ch hc (fun k hk e => ?_) (fun k hk e => ?_), ?_⟩
    · have := (f1 k hk).1; omega
    · have := (f2 k hk).1; omega
    · exact (HB0.out.trans (HB12.out.mono (by omega))).trans (hc.below (by omega) (fun k h => by omega))
  refine ⟨s, HOK.out, (hfin _ ?_).2, ac, cc, ah, dh, rfl, (hfin _ ?_).1⟩
  all_goals repeat (first | (with_reducible exact Ch.refl) | (with_reducible refine Ch.setB ?_ _ _))
end
section
open Go.RowKit
theorem ScrF.cap {lo : Nat} {s : Scr} {ac : Option Addr} {cc : Nat} {ah : Option Addr} {dh : Nat} {w : World} (h : ScrF lo s ac cc ah dh w) : s.cells.length ≤ cc := hcapE h.row rfl
theorem implScreenOK_t (s : Scr) (HO : ScrOK s) (ac : Option Addr) (cc : Nat) (ah : Option Addr) (dh : Nat) (w : World) (h : ScrS s ac ah w) :
    Calls Tryz.prog 11 #[scrV s ac cc ah dh] w fun e w' => e = .returned (.bool true) ∧ Below w.heap.size w w' := by
  have HI : Hid (∀ W, ScrS s ac ah W → Calls Tryz.prog 24 #[.agg #[.int .i64 (s.w : Int), .int .i64 (s.h : Int), .int .i64 (s.x : Int), .int .i64 (s.y : Int), .int .i64 (s.look : Int), .int .i64 (s.top : Int), .int .i64 (s.bot : Int), .int .i64 (s.sx : Int), .int .i64 (s.sy : Int), .string s.title, .slice ac s.cells.length cc, .slice ah s.hist.length dh]] W fun e w' => e = .returned (.bool true) ∧ Below W.heap.size W w') := Lib.hid (fun W hW => isScr_c s HO ac cc ah dh W hW)
  have HR := Lib.hid h
  unfold scrV
  clear h HO
  go_enter Tryz.func11, Tryz.ntmps11
  go_wp2_with fail
  refine (HI.out _ (HR.out.alloc _)).mono ?_
  rintro e w1 ⟨rfl, hb1⟩
  go_wp2_with fail
  go_ret
  exact ⟨rfl, ((Below.refl _ _).alloc (Nat.le_refl _) _).trans (hb1.mono (by simp))⟩
end
section
open Go.RowKit
def SzS (s t : Scr) : Prop := t.w = s.w ∧ t.h = s.h
theorem SzS.refl (s : Scr) : SzS s s := ⟨rfl, rfl⟩
theorem downS_sz (s : Scr) : SzS s (downS s) := ⟨(downS_same s).1, (downS_same s).2.1⟩
theorem upS_sz (s : Scr) : SzS s (upS s) := by unfold upS; split <;> exact ⟨rfl, rfl⟩
theorem printS_sz (s : Scr) (n : Int) : SzS s (printS s n) := by
  have h : SzS s (wrapS s) := by
    unfold wrapS
    split
    · exact downS_sz { s with x := 0 }
    · exact SzS.refl s
  exact ⟨h.1, h.2⟩
theorem ctlS_sz (s : Scr) (n : Int) : SzS s (ctlS s n) := by
  unfold ctlS
  repeat' split
  all_goals first | exact SzS.refl s | exact downS_sz s | exact ⟨rfl, rfl⟩
theorem escS_sz (s : Scr) (n : Int) : SzS s (escS s n) := by
  unfold escS
  repeat' split
  all_goals first | exact SzS.refl s | exact downS_sz s | exact downS_sz { s with x := 0 } | exact upS_sz s | exact ⟨rfl, rfl⟩
theorem csiS_sz (s : Scr) (c : Int) (xs : List Int) : SzS s (csiS s c xs) := by
  have hU : ∀ k a b n, SzS s (scU k a b n s) := fun k a b n => ⟨(scU_same k a b s n).1, (scU_same k a b s n).2.1⟩
  have hD : ∀ a b n, SzS s (scD a b n s) := fun a b n => ⟨(scD_same a b s n).1, (scD_same a b s n).2.1⟩
  have hE : ∀ n f t, SzS s (eraS s n f t) := fun n f t => by
    unfold eraS
    split
    · exact ⟨rfl, rfl⟩
    split
    · exact ⟨rfl, rfl⟩
    split <;> exact ⟨rfl, rfl⟩
  unfold csiS
  refine ite_ok (P := SzS s) (fun _ => ⟨rfl, rfl⟩) (fun _ => ?_)
  refine ite_ok (P := SzS s) (fun _ => ⟨rfl, rfl⟩) (fun _ => ?_)
  refine ite_ok (P := SzS s) (fun _ => ⟨rfl, rfl⟩) (fun _ => ?_)
  refine ite_ok (P := SzS s) (fun _ => ⟨rfl, rfl⟩) (fun _ => ?_)
  refine ite_ok (P := SzS s) (fun _ => ⟨rfl, rfl⟩) (fun _ => ?_)
  refine ite_ok (P := SzS s) (fun _ => hE _ _ _) (fun _ => ?_)
  refine ite_ok (P := SzS s) (fun _ => hE _ _ _) (fun _ => ?_)
  refine ite_ok (P := SzS s) (fun _ => ite_ok (P := SzS s) (fun _ => hD _ _ _) (fun _ => SzS.refl s)) (fun _ => ?_)
  refine ite_ok (P := SzS s) (fun _ => ite_ok (P := SzS s) (fun _ => hU _ _ _ _) (fun _ => SzS.refl s)) (fun _ => ?_)
  refine ite_ok (P := SzS s) (fun _ => hU _ _ _ _) (fun _ => ?_)
  refine ite_ok (P := SzS s) (fun _ => hD _ _ _) (fun _ => ?_)
  refine ite_ok (P := SzS s) (fun _ => ⟨rfl, rfl⟩) (fun _ => ?_)
  exact ite_ok (P := SzS s) (fun _ => ite_ok (P := SzS s) (fun _ => ⟨rfl, rfl⟩) (fun _ => SzS.refl s)) (fun _ => SzS.refl s)
theorem actS_sz (s : Scr) (a : AV) : SzS s (actS s a) := by
  unfold actS
  refine ite_ok (P := SzS s) (fun _ => printS_sz s _) (fun _ => ?_)
  refine ite_ok (P := SzS s) (fun _ => ctlS_sz s _) (fun _ => ?_)
  refine ite_ok (P := SzS s) (fun _ => escS_sz s _) (fun _ => ?_)
  refine ite_ok (P := SzS s) (fun _ => ite_ok (P := SzS s) (fun _ => SzS.refl s) (fun _ => csiS_sz s _ _)) (fun _ => ?_)
  exact ite_ok (P := SzS s) (fun _ => ⟨rfl, rfl⟩) (fun _ => SzS.refl s)
theorem ActR.blk {w w' : World} {aa : Option Addr} {ca : Nat} {A : AV} (h : FreshIn intE 3 1 w.heap.size w'.heap.size (.slice aa A.args.length ca) A.args w') : ∀ k ∈ blkOf aa, k < w'.heap.size := fun k hk => (FreshIn.blks h k hk).2
theorem lawScreen_c (a b : Option Addr) (ca cb : Nat) (xs ys : List UInt8) (w : World) (ha : Sl byteE 1 w a xs) (hb : Sl byteE 1 w b ys) (la : xs.length ≤ 9223372036854775807) (lb : ys.length ≤ 9223372036854775807) :
    Calls Tryz.prog 4 #[.slice a xs.length ca, .slice b ys.length cb] w fun e w' => e = .returned (.bool true) ∧ Below w.heap.size w w' := by
  by_cases hx : 1048576 < xs.length
  · have hx' : (1048576 : Int) < (xs.length : Int) := by omega
    go_enter Tryz.func4, Tryz.ntmps4
    go_wp2_with fail
    go_ret
    exact ⟨rfl, Below.refl _ _⟩
  have hx' : (xs.length : Int) ≤ 1048576 := by omega
  by_cases hy : 1048576 < ys.length
  · have hy' : (1048576 : Int) < (ys.length : Int) := by omega
    go_enter Tryz.func4, Tryz.ntmps4
    go_wp2_with fail
    go_ret
    exact ⟨rfl, Below.refl _ _⟩
  have hy' : (ys.length : Int) ≤ 1048576 := by omega
  have lx : xs.length ≤ 1048576 := by omega
  have ly : ys.length ≤ 1048576 := by omega
  clear hx hy
  obtain ⟨iB, hB, hB0, hB1, hB2⟩ := info_parts Tryz.infoByte
  have hB := hB
  have HB := Lib.hid hb
  have HSO := Lib.hid (screenOfG_c a ca xs w ha lx)
  clear ha hb
  go_enter Tryz.func4, Tryz.ntmps4
  go_wp2_with fail
  refine HSO.out.mono ?_
  rintro e w1 ⟨s, hok, hb1, ac, cc, ah, dh, rfl, hF⟩
  have HOK := Lib.hid hok
  have HF := Lib.hid hF
  unfold scrV
  go_upto_region 4 with fail
  obtain ⟨x1, hx1⟩ : ∃ x, w1.alloc (.cells #[.int .i64 (s.w : Int), .int .i64 (s.h : Int), .int .i64 (s.x : Int), .int .i64 (s.y : Int), .int .i64 (s.look : Int), .int .i64 (s.top : Int), .int .i64 (s.bot : Int), .int .i64 (s.sx : Int), .int .i64 (s.sy : Int), .string s.title, .slice ac s.cells.length cc, .slice ah s.hist.length dh] 26) = x := ⟨_, rfl⟩
  obtain ⟨B, hBB⟩ : ∃ n, w1.heap.size = n := ⟨_, rfl⟩
  have HX1 : Hid (Bx x1 B [.int .i64 (s.w : Int), .int .i64 (s.h : Int), .int .i64 (s.x : Int), .int .i64 (s.y : Int), .int .i64 (s.look : Int), .int .i64 (s.top : Int), .int .i64 (s.bot : Int), .int .i64 (s.sx : Int), .int .i64 (s.sy : Int), .string s.title, .slice ac s.cells.length cc, .slice ah s.hist.length dh] ∧ ScrS s ac ah x1 ∧ (∀ j, j ∈ blkOf ac ∨ j ∈ blkOf ah → j ≠ B ∧ j < x1.heap.size) ∧ Below w.heap.size w x1 ∧ w.heap.size ≤ B) := Lib.hid (by
    have hbx : Below w1.heap.size w1 x1 := by rw [← hx1]; exact (Below.refl _ _).alloc (Nat.le_refl _) _
    have hz : x1.heap.size = B + 1 := by rw [← hx1, ← hBB]; simp
    refine ⟨by rw [← hx1, ← hBB]; exact Bx.new _ _ _, hF.rd.below hbx, fun j hj => ?_, hb1.trans (hbx.mono hb1.size), by rw [← hBB]; exact hb1.size⟩
    have h1 : j < w1.heap.size := by
      rcases hj with h | h
      · exact (FreshIn.blks hF.row j h).2
      · exact (hF.win.blk j h).2
    omega)
  rw [hx1, hBB]
  clear hx1 hBB hok hF hb1
  go_wp2_with fail
  go_loopw [6] (fun iv wr => ∃ k : Nat, k ≤ 6 ∧ iv = .int .i64 k ∧ Hid (∃ s ac cc ah dh, (ScrOK s ∧ s.look &&& 48 = 0) ∧ Bx wr B [.int .i64 (s.w : Int), .int .i64 (s.h : Int), .int .i64 (s.x : Int), .int .i64 (s.y : Int), .int .i64 (s.look : Int), .int .i64 (s.top : Int), .int .i64 (s.bot : Int), .int .i64 (s.sx : Int), .int .i64 (s.sy : Int), .string s.title, .slice ac s.cells.length cc, .slice ah s.hist.length dh] ∧ ScrS s ac ah wr ∧ (∀ j, j ∈ blkOf ac ∨ j ∈ blkOf ah → j ≠ B ∧ j < wr.heap.size) ∧ Below w.heap.size w wr)) (fun iv _ => 6 - (intOf iv).toNat)
  case atStart => exact ⟨0, by omega, rfl, Lib.hid ⟨s, ac, cc, ah, dh, HOK.out, HX1.out.1, HX1.out.2.1, HX1.out.2.2.1, HX1.out.2.2.2.1⟩⟩
  case round =>
    obtain ⟨k, hk, rfl, HR⟩ := hrel
    by_cases hlt : k < 6
    · have hlt' : (k : Int) < 6 := by omega
      obtain ⟨s1, a1, c1, b1, d1, hok1, hbx1, hs1, hn1, hb1⟩ := HR.out
      obtain ⟨x, rfl⟩ : ∃ x : UInt8, k = x.toNat := ⟨UInt8.ofNat k, by simp [UInt8.toNat_ofNat']; omega⟩
      have HO1 := Lib.hid hok1
      have HX := Lib.hid hbx1
      have HS := Lib.hid hs1
      have HN := Lib.hid hn1
      have HB1 := Lib.hid hb1
      clear hok1 hbx1 hs1 hn1 hb1 HR
      have hwu : IntKind.u8.wrap (x.toNat : Int) = (x.toNat : Int) := by have := x.toNat_lt; rw [IntKind.wrap_u8]; omega
      have HFR : Hid (FreshIn byteE 5 1 wr.heap.size (wr.heap.size + 1) (.slice (some ⟨wr.heap.size, 0, none⟩) 1 1) [x] (wr.alloc (.cells #[.int .u8 (x.toNat : Int)] 5))) := Lib.hid (FreshIn.of_owns (cs := [.int .u8 (x.toNat : Int)]) ⟨rfl, .inr ⟨wr.heap.size, 1, _, rfl, Nat.le_refl _, heap_alloc_new wr _, Nat.le_refl _, by unfold maxLen; omega, rfl, by simp⟩⟩ rfl (by simp [byteE]) (by simp))
      have HSRC : Hid (Src Tryz.prog 1 22 (.slice b ys.length cb) ys.length (ys.flatMap byteE) (wr.alloc (.cells #[.int .u8 (x.toNat : Int)] 5))) := Lib.hid (Src.ofSl (enc := byteE) Tryz.underlying22 (fun _ => rfl) byteOne ((HB.out.keep HB1.out).alloc _) cb)
      go_wp2_with (at_builtin; refine wpList_append_fresh rfl (.tmp 28) (.tmp 29) 22 22 rfl wr.heap.size (wr.heap.size + 1) 5 iB (.int .u8 0) 1 1 Tryz.underlying22 hB hB0 hB1 hB2 rfl (by decide) (.slice (some ⟨wr.heap.size, 0, none⟩) 1 1) [x] rfl HFR.out (.slice b ys.length cb) ys rfl HSRC.out (by simp; omega) (by simp) ?_)
      intro a2 c2 w2 us hus hf2 hm2
      have hul : us.length ≤ 2097152 := by rw [hus.out]; simp; omega
      have hb2 : Below wr.heap.size wr w2 := ((Below.refl _ _).alloc (Nat.le_refl _) _).trans (hm2.below (by simp) (by simp))
      go_wp2_with fail
      refine (actionOf_c a2 c2 us w2 (hf2.sl (fun _ => rfl)) hul).mono ?_
      rintro e w3 ⟨⟨A, aa, caa, ⟨hao, hag⟩, rfl, haf⟩, hb3⟩
      have HAO := Lib.hid hao
      have HAG := Lib.hid hag
      have HAF := Lib.hid haf
      have HB13 : Hid (Below wr.heap.size wr w3) := Lib.hid (hb2.trans (hb3.mono hb2.size))
      clear hus hf2 hm2 hb2 hb3 hao hag haf hul HFR HSRC hwu
      obtain ⟨t, ht⟩ : ∃ t, actS s1 A = t := ⟨_, rfl⟩
      have HTI : Hid (actI s1 A = t) := Lib.hid ((actI_same HO1.out.1 HO1.out.2 HAG.out).trans ht)
      have HTS := Lib.hid ht
      have HTO : Hid (ScrOK t ∧ t.look &&& 48 = 0 ∧ SzS s1 t) := Lib.hid (by rw [← ht]; exact ⟨HO1.out.1.act HAO.out, actS_good HO1.out.1 HO1.out.2 HAG.out, actS_sz _ _⟩)
      clear ht
      go_upto_region 8 with fail
      obtain ⟨x3, hx3⟩ : ∃ x, w3.alloc (.cells #[.int .i64 A.kind, .int .i64 A.n, .bool A.priv, .slice aa A.args.length caa, .string A.text] 38) = x := ⟨_, rfl⟩
      obtain ⟨BA, hBA⟩ : ∃ n, w3.heap.size = n := ⟨_, rfl⟩
      have HXA : Hid (Bx x3 BA [.int .i64 A.kind, .int .i64 A.n, .bool A.priv, .slice aa A.args.length caa, .string A.text]) := Lib.hid (by rw [← hx3, ← hBA]; exact Bx.new _ _ _)
      have HB3 : Hid (Below wr.heap.size wr x3) := Lib.hid (by rw [← hx3]; exact HB13.out.alloc HB13.out.size _)
      have HX3 := Lib.hid (HX.out.below HB3.out)
      have HBA : Hid (wr.heap.size ≤ BA) := Lib.hid (by rw [← hBA]; exact HB13.out.size)
      have hb33 : Below w3.heap.size w3 x3 := by rw [← hx3]; exact (Below.refl _ _).alloc (Nat.le_refl _) _
      have HAA : Hid (Sl intE 1 x3 aa A.args ∧ ∀ k ∈ blkOf aa, k < x3.heap.size) := Lib.hid ⟨(FreshIn.sl (enc := intE) (fun _ => rfl) HAF.out).keep hb33, fun k hk => Nat.lt_of_lt_of_le (FreshIn.blks HAF.out k hk).2 hb33.size⟩
      have HS3 := Lib.hid (HS.out.below HB3.out)
      have HIC : Hid (∀ W, Below x3.heap.size x3 W → Calls Tryz.prog 15 #[.agg #[.int .i64 (s1.w : Int), .int .i64 (s1.h : Int), .int .i64 (s1.x : Int), .int .i64 (s1.y : Int), .int .i64 (s1.look : Int), .int .i64 (s1.top : Int), .int .i64 (s1.bot : Int), .int .i64 (s1.sx : Int), .int .i64 (s1.sy : Int), .string s1.title, .slice a1 s1.cells.length c1, .slice b1 s1.hist.length d1], .agg #[.int .i64 A.kind, .int .i64 A.n, .bool A.priv, .slice aa A.args.length caa, .string A.text]] W (ScrM t W)) := Lib.hid (fun W h => by rw [← HTI.out]; exact implApplyAction_c s1 HO1.out.1 a1 c1 b1 d1 A aa caa W (HS3.out.below h) HAO.out (HAA.out.1.keep h) (fun k hk => Nat.lt_of_lt_of_le (HAA.out.2 k hk) h.size))
      have HSC : Hid (∀ W, Below x3.heap.size x3 W → Calls Tryz.prog 16 #[.agg #[.int .i64 (s1.w : Int), .int .i64 (s1.h : Int), .int .i64 (s1.x : Int), .int .i64 (s1.y : Int), .int .i64 (s1.look : Int), .int .i64 (s1.top : Int), .int .i64 (s1.bot : Int), .int .i64 (s1.sx : Int), .int .i64 (s1.sy : Int), .string s1.title, .slice a1 s1.cells.length c1, .slice b1 s1.hist.length d1], .agg #[.int .i64 A.kind, .int .i64 A.n, .bool A.priv, .slice aa A.args.length caa, .string A.text]] W (ScrM t W)) := Lib.hid (fun W h => by rw [← HTS.out]; exact specApplyAction_c s1 HO1.out.1 a1 c1 b1 d1 A aa caa W (HS3.out.below h) HAO.out (HAA.out.1.keep h) (fun k hk => Nat.lt_of_lt_of_le (HAA.out.2 k hk) h.size))
      rw [hx3, hBA]
      clear hx3 hBA hb33
      have k_0 := HX3.out.c 0
      have k_1 := HX3.out.c 1
      have k_2 := HX3.out.c 2
      have k_3 := HX3.out.c 3
      have k_4 := HX3.out.c 4
      have k_5 := HX3.out.c 5
      have k_6 := HX3.out.c 6
      have k_7 := HX3.out.c 7
      have k_8 := HX3.out.c 8
      have k_9 := HX3.out.c 9
      have k_10 := HX3.out.c 10
      have k_11 := HX3.out.c 11
      have k_l := HX3.out.lt
      have p_0 := HXA.out.c 0
      have p_1 := HXA.out.c 1
      have p_2 := HXA.out.c 2
      have p_3 := HXA.out.c 3
      have p_4 := HXA.out.c 4
      have p_l := HXA.out.lt
      go_wp2_with fail
      refine (HIC.out _ (Below.refl _ _)).mono ?_
      rintro e w4 ⟨a4, c4, b4, d4, rfl, hF4, hb4⟩
      unfold scrV
      go_upto_region 9 with fail
      obtain ⟨x4, hx4⟩ : ∃ x, w4.alloc (.cells #[.int .i64 (t.w : Int), .int .i64 (t.h : Int), .int .i64 (t.x : Int), .int .i64 (t.y : Int), .int .i64 (t.look : Int), .int .i64 (t.top : Int), .int .i64 (t.bot : Int), .int .i64 (t.sx : Int), .int .i64 (t.sy : Int), .string t.title, .slice a4 t.cells.length c4, .slice b4 t.hist.length d4] 26) = x := ⟨_, rfl⟩
      obtain ⟨B4, hB4⟩ : ∃ n, w4.heap.size = n := ⟨_, rfl⟩
      have HXQ : Hid (Bx x4 B4 [.int .i64 (t.w : Int), .int .i64 (t.h : Int), .int .i64 (t.x : Int), .int .i64 (t.y : Int), .int .i64 (t.look : Int), .int .i64 (t.top : Int), .int .i64 (t.bot : Int), .int .i64 (t.sx : Int), .int .i64 (t.sy : Int), .string t.title, .slice a4 t.cells.length c4, .slice b4 t.hist.length d4]) := Lib.hid (by rw [← hx4, ← hB4]; exact Bx.new _ _ _)
      have hb44 : Below w4.heap.size w4 x4 := by rw [← hx4]; exact (Below.refl _ _).alloc (Nat.le_refl _) _
      have HB34 : Hid (Below x3.heap.size x3 x4) := Lib.hid (hb4.trans (hb44.mono hb4.size))
      have HF4 : Hid (ScrF x3.heap.size t a4 c4 b4 d4 x4 ∧ ∀ j, j ∈ blkOf a4 ∨ j ∈ blkOf b4 → x3.heap.size ≤ j ∧ j < B4) := Lib.hid ⟨hF4.below hb44, fun j hj => by
        rcases hj with h | h
        · have := FreshIn.blks hF4.row j h; omega
        · have := hF4.win.blk j h; omega⟩
      have HX4 := Lib.hid (HX3.out.below HB34.out)
      have HXA4 := Lib.hid (HXA.out.below HB34.out)
      rw [hx4, hB4]
      clear hx4 hB4 hb44 hb4 hF4 k_0 k_1 k_2 k_3 k_4 k_5 k_6 k_7 k_8 k_9 k_10 k_11 k_l p_0 p_1 p_2 p_3 p_4 p_l
      have k_0 := HX4.out.c 0
      have k_1 := HX4.out.c 1
      have k_2 := HX4.out.c 2
      have k_3 := HX4.out.c 3
      have k_4 := HX4.out.c 4
      have k_5 := HX4.out.c 5
      have k_6 := HX4.out.c 6
      have k_7 := HX4.out.c 7
      have k_8 := HX4.out.c 8
      have k_9 := HX4.out.c 9
      have k_10 := HX4.out.c 10
      have k_11 := HX4.out.c 11
      have k_l := HX4.out.lt
      have p_0 := HXA4.out.c 0
      have p_1 := HXA4.out.c 1
      have p_2 := HXA4.out.c 2
      have p_3 := HXA4.out.c 3
      have p_4 := HXA4.out.c 4
      have p_l := HXA4.out.lt
      go_wp2_with fail
      refine (HSC.out _ HB34.out).mono ?_
      rintro e w5 ⟨a5, c5, b5, d5, rfl, hF5, hb5⟩
      unfold scrV
      go_upto_region 10 with fail
      obtain ⟨x5, hx5⟩ : ∃ x, w5.alloc (.cells #[.int .i64 (t.w : Int), .int .i64 (t.h : Int), .int .i64 (t.x : Int), .int .i64 (t.y : Int), .int .i64 (t.look : Int), .int .i64 (t.top : Int), .int .i64 (t.bot : Int), .int .i64 (t.sx : Int), .int .i64 (t.sy : Int), .string t.title, .slice a5 t.cells.length c5, .slice b5 t.hist.length d5] 26) = x := ⟨_, rfl⟩
      obtain ⟨B5, hB5⟩ : ∃ n, w5.heap.size = n := ⟨_, rfl⟩
      have HXZ : Hid (Bx x5 B5 [.int .i64 (t.w : Int), .int .i64 (t.h : Int), .int .i64 (t.x : Int), .int .i64 (t.y : Int), .int .i64 (t.look : Int), .int .i64 (t.top : Int), .int .i64 (t.bot : Int), .int .i64 (t.sx : Int), .int .i64 (t.sy : Int), .string t.title, .slice a5 t.cells.length c5, .slice b5 t.hist.length d5]) := Lib.hid (by rw [← hx5, ← hB5]; exact Bx.new _ _ _)
      have hb55 : Below w5.heap.size w5 x5 := by rw [← hx5]; exact (Below.refl _ _).alloc (Nat.le_refl _) _
      have HB45 : Hid (Below x4.heap.size x4 x5) := Lib.hid (hb5.trans (hb55.mono hb5.size))
      have HS5 : Hid (ScrS t a5 b5 x5) := Lib.hid (hF5.rd.below hb55)
      have HX5 := Lib.hid (HX4.out.below HB45.out)
      have HXQ5 := Lib.hid (HXQ.out.below HB45.out)
      have HS45 := Lib.hid (HF4.out.1.rd.below HB45.out)
      rw [hx5, hB5]
      clear hx5 hB5 hb55 hb5 hF5 k_0 k_1 k_2 k_3 k_4 k_5 k_6 k_7 k_8 k_9 k_10 k_11 k_l p_0 p_1 p_2 p_3 p_4 p_l
      have q_0 := HXQ5.out.c 0
      have q_1 := HXQ5.out.c 1
      have q_2 := HXQ5.out.c 2
      have q_3 := HXQ5.out.c 3
      have q_4 := HXQ5.out.c 4
      have q_5 := HXQ5.out.c 5
      have q_6 := HXQ5.out.c 6
      have q_7 := HXQ5.out.c 7
      have q_8 := HXQ5.out.c 8
      have q_9 := HXQ5.out.c 9
      have q_10 := HXQ5.out.c 10
      have q_11 := HXQ5.out.c 11
      have q_l := HXQ5.out.lt
      have HIO : Hid (∀ W, Below x5.heap.size x5 W → Calls Tryz.prog 11 #[.agg #[.int .i64 (t.w : Int), .int .i64 (t.h : Int), .int .i64 (t.x : Int), .int .i64 (t.y : Int), .int .i64 (t.look : Int), .int .i64 (t.top : Int), .int .i64 (t.bot : Int), .int .i64 (t.sx : Int), .int .i64 (t.sy : Int), .string t.title, .slice a4 t.cells.length c4, .slice b4 t.hist.length d4]] W fun e w' => e = .returned (.bool true) ∧ Below W.heap.size W w') := Lib.hid (fun W h => implScreenOK_t t HTO.out.1 a4 c4 b4 d4 W (HS45.out.below h))
      have HSA : Hid (∀ W, Below x5.heap.size x5 W → Calls Tryz.prog 10 #[.agg #[.int .i64 (t.w : Int), .int .i64 (t.h : Int), .int .i64 (t.x : Int), .int .i64 (t.y : Int), .int .i64 (t.look : Int), .int .i64 (t.top : Int), .int .i64 (t.bot : Int), .int .i64 (t.sx : Int), .int .i64 (t.sy : Int), .string t.title, .slice a4 t.cells.length c4, .slice b4 t.hist.length d4], .agg #[.int .i64 (t.w : Int), .int .i64 (t.h : Int), .int .i64 (t.x : Int), .int .i64 (t.y : Int), .int .i64 (t.look : Int), .int .i64 (t.top : Int), .int .i64 (t.bot : Int), .int .i64 (t.sx : Int), .int .i64 (t.sy : Int), .string t.title, .slice a5 t.cells.length c5, .slice b5 t.hist.length d5]] W fun e w' => e = .returned (.bool true) ∧ Below W.heap.size W w') := Lib.hid (fun W h => sameScreens_c t t HTO.out.1 HTO.out.1 a4 c4 b4 d4 a5 c5 b5 d5 W (HS45.out.below h) (HS5.out.below h) rfl)
      go_wp2_with fail
      refine (HIO.out _ (Below.refl _ _)).mono ?_
      rintro e w6 ⟨rfl, hb6⟩
      have HB6 := Lib.hid hb6
      have HXQ6 := Lib.hid (HXQ5.out.below hb6)
      have HXZ6 := Lib.hid (HXZ.out.below hb6)
      clear hb6 q_0 q_1 q_2 q_3 q_4 q_5 q_6 q_7 q_8 q_9 q_10 q_11 q_l
      have q_0 := HXQ6.out.c 0
      have q_1 := HXQ6.out.c 1
      have q_2 := HXQ6.out.c 2
      have q_3 := HXQ6.out.c 3
      have q_4 := HXQ6.out.c 4
      have q_5 := HXQ6.out.c 5
      have q_6 := HXQ6.out.c 6
      have q_7 := HXQ6.out.c 7
      have q_8 := HXQ6.out.c 8
      have q_9 := HXQ6.out.c 9
      have q_10 := HXQ6.out.c 10
      have q_11 := HXQ6.out.c 11
      have q_l := HXQ6.out.lt
      have z_0 := HXZ6.out.c 0
      have z_1 := HXZ6.out.c 1
      have z_2 := HXZ6.out.c 2
      have z_3 := HXZ6.out.c 3
      have z_4 := HXZ6.out.c 4
      have z_5 := HXZ6.out.c 5
      have z_6 := HXZ6.out.c 6
      have z_7 := HXZ6.out.c 7
      have z_8 := HXZ6.out.c 8
      have z_9 := HXZ6.out.c 9
      have z_10 := HXZ6.out.c 10
      have z_11 := HXZ6.out.c 11
      have z_l := HXZ6.out.lt
      go_wp2_with fail
      refine (HSA.out _ HB6.out).mono ?_
      rintro e w7 ⟨rfl, hb7⟩
      have HB7 : Hid (Below x5.heap.size x5 w7) := Lib.hid (HB6.out.trans (hb7.mono HB6.out.size))
      have HXQ7 := Lib.hid (HXQ6.out.below hb7)
      have HX7 := Lib.hid (HX5.out.below HB7.out)
      clear hb7 q_0 q_1 q_2 q_3 q_4 q_5 q_6 q_7 q_8 q_9 q_10 q_11 q_l z_0 z_1 z_2 z_3 z_4 z_5 z_6 z_7 z_8 z_9 z_10 z_11 z_l
      have q_0 := HXQ7.out.c 0
      have q_1 := HXQ7.out.c 1
      have q_2 := HXQ7.out.c 2
      have q_3 := HXQ7.out.c 3
      have q_4 := HXQ7.out.c 4
      have q_5 := HXQ7.out.c 5
      have q_6 := HXQ7.out.c 6
      have q_7 := HXQ7.out.c 7
      have q_8 := HXQ7.out.c 8
      have q_9 := HXQ7.out.c 9
      have q_10 := HXQ7.out.c 10
      have q_11 := HXQ7.out.c 11
      have q_l := HXQ7.out.lt
      have k_0 := HX7.out.c 0
      have k_1 := HX7.out.c 1
      have k_2 := HX7.out.c 2
      have k_3 := HX7.out.c 3
      have k_4 := HX7.out.c 4
      have k_5 := HX7.out.c 5
      have k_6 := HX7.out.c 6
      have k_7 := HX7.out.c 7
      have k_8 := HX7.out.c 8
      have k_9 := HX7.out.c 9
      have k_10 := HX7.out.c 10
      have k_11 := HX7.out.c 11
      have k_l := HX7.out.lt
      have k_f := HX7.out.fz
      have g1 : ((t.w : Int) != (s1.w : Int)) = false := by rw [HTO.out.2.2.1]; simp
      have g2 : ((t.h : Int) != (s1.h : Int)) = false := by rw [HTO.out.2.2.2]; simp
      have g3 : ¬ (6 : Int) < (t.hist.length : Int) := by have := HTO.out.1.hn; omega
      have g4 : (t.hist.length : Int) ≤ 6 := by have := HTO.out.1.hn; omega
      have HB9 : Hid (Below w.heap.size w w7) := Lib.hid (Below.thn (Below.thn (Below.thn (Below.thn HB1.out HB3.out) HB34.out) HB45.out) HB7.out)
      have HZ9 : Hid (B < x3.heap.size ∧ B4 ≤ w7.heap.size ∧ w.heap.size ≤ B) := Lib.hid ⟨HX3.out.lt, by have := HXQ7.out.lt; omega, HX1.out.2.2.2.2⟩
      have hfin : ∀ wz, Bx wz B [.int .i64 (t.w : Int), .int .i64 (t.h : Int), .int .i64 (t.x : Int), .int .i64 (t.y : Int), .int .i64 (t.look : Int), .int .i64 (t.top : Int), .int .i64 (t.bot : Int), .int .i64 (t.sx : Int), .int .i64 (t.sy : Int), .string t.title, .slice a4 t.cells.length c4, .slice b4 t.hist.length d4] → Ch (· = B) w7 wz → ∃ s ac cc ah dh, (ScrOK s ∧ s.look &&& 48 = 0) ∧ Bx wz B [.int .i64 (s.w : Int), .int .i64 (s.h : Int), .int .i64 (s.x : Int), .int .i64 (s.y : Int), .int .i64 (s.look : Int), .int .i64 (s.top : Int), .int .i64 (s.bot : Int), .int .i64 (s.sx : Int), .int .i64 (s.sy : Int), .string s.title, .slice ac s.cells.length cc, .slice ah s.hist.length dh] ∧ ScrS s ac ah wz ∧ (∀ j, j ∈ blkOf ac ∨ j ∈ blkOf ah → j ≠ B ∧ j < wz.heap.size) ∧ Below w.heap.size w wz := fun wz hb hc => by
        have h0 := HZ9.out
        have hz := hc.size
        have h1 : ScrF x3.heap.size t a4 c4 b4 d4 w7 := (HF4.out.1.below HB45.out).below HB7.out
        have h2 : ScrF x3.heap.size t a4 c4 b4 d4 wz := h1.ch hc (fun k hk e => by have := HF4.out.2 k (.inl hk); omega) (fun k hk e => by have := HF4.out.2 k (.inr hk); omega)
        exact ⟨t, a4, c4, b4, d4, ⟨HTO.out.1, HTO.out.2.1⟩, hb, h2.rd, fun j hj => by have := HF4.out.2 j hj; omega, HB9.out.trans (hc.below (by have := HB9.out.size; omega) (fun k h => by omega))⟩
      go_wp2_with fail
      go_roundw
      case rel =>
        refine ⟨x.toNat + 1, by omega, by go_num, Lib.hid (hfin _ ?_ ?_)⟩
        · exact (((((((((((((HX7.out.set 0 _).set 1 _).set 2 _).set 3 _).set 4 _).set 5 _).set 6 _).set 7 _).set 8 _).set 9 _).set 10 _).set 11 _)).eqv rfl
        · repeat (first | (with_reducible exact Ch.refl) | (with_reducible refine Ch.setB ?_ _ _))
      case measure => simp [intOf]; omega
    · obtain rfl : k = 6 := by omega
      go_wp2_with fail
      go_ret
      obtain ⟨_, _, _, _, _, _, _, _, _, hb⟩ := HR.out
      exact ⟨rfl, hb⟩
end
section
open Go.ChangeShapes Go.WideShapes Go.ChangeAt Go.RowKit
theorem Tryz.own : ownKnob Tryz.prog.godebug = none := by kernel_rfl
theorem Tryz.laidOut : laidOutB Tryz.prog = true := by kernel_rfl
theorem trodAll_below {H : Type} {enc : TypeId × Value → H} {P : Program} (hl : laidOutB P = true) {W W' : World} (hb : Below W.heap.size W W') :
    ∀ {ts : List TypeId} {vs : List Value} {ds : List (DataW H)} {ps : List MemPlace}, (ts.all fun t => P.readableRec t && decide (t < P.types.size)) = true → (∀ x ∈ ps, x.block < W.heap.size) →
      DataW.TrodAll enc P W 0 (fun _ => true) true ts vs ds ps → DataW.TrodAll enc P W' 0 (fun b => decide (b < W.heap.size)) true ts vs ds ps
  | [], vs, ds, ps, _, _, h => by
    obtain ⟨rfl, rfl, rfl⟩ := trodAll_nil h
    exact trodAll_mk0
  | t :: ts, vs, ds, ps, hr, hlt, h => by
    obtain ⟨v, vs', d, ds', p, q, rfl, rfl, rfl, h1, h2⟩ := trodAll_cons h
    simp only [List.all_cons, Bool.and_eq_true, decide_eq_true_eq] at hr
    exact trodAll_cons_mk (Below.trod hl hr.1.1 hr.1.2 h1 hb (fun x hx => hlt x (List.mem_append_left _ hx)))
      (trodAll_below hl hb hr.2 (fun x hx => hlt x (List.mem_append_right _ hx)) h2)
theorem law_calls {H : Type} {enc : TypeId × Value → H} {F : Nat} {fn : Func} {s : ChangeSpec} {W : World} {args : Array Value} {ds gs : List (DataW H)} {before : List MemPlace}
    (hvars : s.vars = []) (hrt : fn.resultTypes = #[4])
    (hread : (fn.params.toList.all fun t => Tryz.prog.readableRec t && decide (t < Tryz.prog.types.size)) = true)
    (hW : DataW.Whole enc Tryz.checked.prog fn.params.toList s.vars false W args.toList ds gs before)
    (hsp : s.fn H (ds ++ gs) = { results := [.lit (.bool true)], args := ds })
    (hc : Calls Tryz.prog F args W fun e W' => e = .returned (.bool true) ∧ Below W.heap.size W W') :
    Calls Tryz.checked.prog F args W fun e W' => ∃ v, e = .returned v ∧ s.post enc Tryz.checked.prog fn false true false false W args v W' := by
  refine Calls.mono (P := Tryz.prog) hc fun e W' ⟨he, hb⟩ => ?_
  subst he
  have hlt : ∀ x ∈ before, x.block < W.heap.size := fun x hx => hW.lt x hx
  have hW' := hW
  obtain ⟨p, q, hA, hV, rfl, _, _⟩ := hW
  rw [hvars] at hV
  obtain ⟨rfl, rfl⟩ := trodVars_none hV
  refine ⟨_, rfl, _, _, _, [], p, [], hW', ?_, ?_, ?_, hb.frame _, fun h => by cases h⟩
  · rw [hsp, hrt]
    exact trodAll_mk1 (shut_bool Tryz.underlying4 _)
  · rw [hsp]
    exact trodAll_below Tryz.laidOut hb hread (fun x hx => hlt x (List.mem_append_left _ hx)) hA
  · rw [hsp, hvars]
    rfl
/-! slices -/
theorem open_slc {H : Type} {enc' : TypeId × Value → H} {α : Type} {enc : α → List Value} {sz : Nat} {Q : α → Prop} {W : World} {fuel : Nat} {t e : TypeId} {cs : List Value} {x : DataW H × List MemPlace}
    (ht : Tryz.prog.underlying t = some (.slice e)) (hc : Tryz.prog.cellsOf e = sz) (hsz : 0 < sz)
    (hel : ∀ (n : Nat) (cs : List Value) (x : DataW H × List MemPlace), DataW.trod enc' Tryz.prog W 0 (fun _ => true) true n e cs = some x → ∃ y : α, cs = enc y ∧ Q y)
    (hf : DataW.trod enc' Tryz.prog W 0 (fun _ => true) true fuel t cs = some x) :
    ∃ (a : Option Addr) (cap : Nat) (xs : List α), cs = [.slice a xs.length cap] ∧ xs.length ≤ 9223372036854775807 ∧ (∀ x ∈ xs, Q x) ∧ Sl enc sz W a xs := by
  rcases Deep.open_slice ht hf with ⟨hcs, _⟩ | ⟨a, len, cap, m, n, D, Pl, hcs, _, hl, hm, hmm, _, hx⟩
  · subst hcs
    exact ⟨none, 0, [], rfl, by simp, by simp, .inl rfl⟩
  · subst hcs
    simp only [if_true] at hmm
    subst hmm
    have each : ∀ i, i < len → ∃ y : α, W.cells? 0 (a.add (i * sz)) sz = some (enc y) ∧ Q y := by
      intro i hi
      obtain ⟨cs', h1, h2⟩ := hx i (by omega)
      obtain ⟨y, rfl, hq⟩ := hel n cs' _ h2
      exact ⟨y, by rw [← hc]; exact h1, hq⟩
    by_cases h0 : len = 0
    · subst h0
      exact ⟨_, _, [], rfl, by simp, by simp, .inl rfl⟩
    · obtain ⟨y0, _⟩ := each 0 (by omega)
      obtain ⟨f, hf'⟩ := @Deep.choose_lt α ⟨y0⟩ len (fun i y => W.cells? 0 (a.add (i * sz)) sz = some (enc y) ∧ Q y) each
      have cellAt : ∀ i, i < len → ∀ j, j < sz → W.cell? ((a.add (i * sz)).add j) = (enc (f i))[j]? := by
        intro i hi j hj
        obtain ⟨_, hlen, hcell⟩ := World.cells?_some (hf' i hi).1
        exact hcell j hj
      have hc00 := cellAt 0 (by omega) 0 hsz
      have hlen0 : (enc (f 0)).length = sz := (World.cells?_some (hf' 0 (by omega)).1).2.1
      rw [List.getElem?_eq_getElem (by omega)] at hc00
      simp only [Nat.zero_mul] at hc00
      have hadd0 : (a.add 0).add 0 = a := by simp [Addr.add]
      rw [hadd0] at hc00
      obtain ⟨b, off, spot⟩ := a
      have hspot : spot = none := by simpa using World.cell?_spot hc00
      subst hspot
      have hb := World.block_lt_of_cell? W _ hc00
      refine ⟨some ⟨b, off, none⟩, m, (List.range len).map f, by simp, by simp; unfold maxLen at hm; omega, ?_, .inr ⟨b, off, rfl, hb, ?_⟩⟩
      · intro x hx'
        obtain ⟨i, hi, rfl⟩ := List.mem_map.1 hx'
        exact (hf' i (List.mem_range.1 hi)).2
      · intro i hi j hj
        have hi' : i < len := by simpa using hi
        have := cellAt i hi' j hj
        rw [Deep.add_add] at this
        have hadd : (⟨b, off, none⟩ : Addr).add (i * sz + j) = ⟨b, off + i * sz + j, none⟩ := by
          unfold Addr.add; split <;> simp_all [Nat.add_assoc]
        rw [hadd] at this
        rw [this]
        simp
theorem open_sl {H : Type} {enc' : TypeId × Value → H} {α : Type} {enc : α → List Value} {sz : Nat} {Q : α → Prop} {W : World} {base : Nat} {t e : TypeId} {v : Value} {d : DataW H} {p : List MemPlace}
    (ht : Tryz.prog.underlying t = some (.slice e)) (hc : Tryz.prog.cellsOf e = sz) (hsz : 0 < sz)
    (hel : ∀ (n : Nat) (cs : List Value) (x : DataW H × List MemPlace), DataW.trod enc' Tryz.prog W 0 (fun _ => true) true n e cs = some x → ∃ y : α, cs = enc y ∧ Q y)
    (hv : Value.okWide Tryz.prog W .any base t v) (h : DataW.Trod enc' Tryz.prog W 0 (fun _ => true) true t v d p) :
    ∃ (a : Option Addr) (cap : Nat) (xs : List α), v = .slice a xs.length cap ∧ xs.length ≤ 9223372036854775807 ∧ (∀ x ∈ xs, Q x) ∧ Sl enc sz W a xs := by
  obtain ⟨a0, len, cap, rfl⟩ := okWide_slice ht hv
  obtain ⟨fuel, hf⟩ := h
  obtain ⟨a, c, xs, hcs, h1, h2, h3⟩ := open_slc (enc := enc) ht hc hsz hel hf
  simp [Value.cells] at hcs
  obtain ⟨rfl, rfl, rfl⟩ := hcs
  exact ⟨_, _, xs, rfl, h1, h2, h3⟩
/-! entries, states -/
/-! stores -/
section
open Go.Joins
end
end
section
open Go.ChangeShapes Go.WideShapes Go.ChangeAt Go.RowKit
theorem open_byteSl {H : Type} {enc' : TypeId × Value → H} {W : World} {base : Nat} {v : Value} {d : DataW H} {p : List MemPlace} (hv : Value.okWide Tryz.prog W .any base 22 v)
    (h : DataW.Trod enc' Tryz.prog W 0 (fun _ => true) true 22 v d p) : ∃ (a : Option Addr) (cap : Nat) (xs : List UInt8), v = .slice a xs.length cap ∧ xs.length ≤ 9223372036854775807 ∧ (∀ s ∈ xs, (fun _ : UInt8 => True) s) ∧ Sl byteE 1 W a xs :=
  open_sl Tryz.underlying22 (by kernel_rfl) (by decide) (fun n cs x hx => by
    obtain ⟨s, rfl, _, hs⟩ := DataW.trod_int Tryz.underlying5 hx
    have h0 : 0 ≤ s ∧ s < 256 := by
      simp [Lit.wf, IntKind.min, IntKind.max, IntKind.bits, IntKind.signed] at hs
      omega
    exact ⟨UInt8.ofNat s.toNat, by simp [byteE]; omega, trivial⟩) hv h
end
section
open Go.ChangeShapes Go.WideShapes Go.ChangeAt Go.RowKit
theorem fnScreen_lifted (os : Os) (started : os.Started) (H : Type) (enc : TypeId × Value → H) :
    ReturnsInHanded {} Tryz.checked os 4 .any (fun w args => (Rows.fnScreenSpec.pre enc Tryz.prog Tryz.f4 [] false w args ∧ laidMetH Tryz.prog Rows.fnScreenRow.laid w) ∧ sizedMet enc Tryz.prog Tryz.f4 (OpenSpec.ofChange Rows.fnScreenSpec) false w args)
      (Rows.fnScreenSpec.post enc Tryz.prog Tryz.f4 false true false false) := by
  refine returnsInHanded_of_change_and (C := Tryz.checked) (X := fun w _ => laidMetH Tryz.prog Rows.fnScreenRow.laid w) (fun _ _ _ hh h => h.of_heap hh) Tryz.own started (by kernel_rfl) Tryz.func4
    (ChangeSpec.witness_shaped (enc := enc) (C := Tryz.checked) (os := os) (X := fun w _ => laidMetH Tryz.prog Rows.fnScreenRow.laid w) false (World.laidAll Tryz.prog os Rows.fnScreenRow.laid) #[.slice none 0 0, .slice none 0 0] 8 (World.laidAll_os _ _ _)
      (World.shaped_of_ZipB (by kernel_rfl) (by kernel_rfl)) (by kernel_rfl) (by kernel_rfl) (by kernel_rfl)
      (by rw [MakeChecks.laidMetH_plain _ _ _ (by kernel_rfl)]; exact laidMet_laidAll _ (by kernel_rfl) (by kernel_rfl))) ?_
  intro W base args ds gs before hval0 hW hc _ hL0 _
  have hval : ∀ (j : Nat) t v, Tryz.f4.params[j]? = some t → args[j]? = some v → Value.okWide Tryz.prog W .any base t v := hval0
  have hW' := hW
  obtain ⟨p, q, hA0, hV, rfl, _, _⟩ := hW
  have hA : DataW.TrodAll enc Tryz.prog W 0 (fun _ => true) true Tryz.f4.params.toList args.toList ds p := hA0
  rw [Tryz.params4] at hA hval
  rw [MakeChecks.laidMetH_plain _ _ _ (by kernel_rfl)] at hL0
  have hL : laidMet Tryz.prog Rows.fnScreenRow.laid W := hL0
  obtain ⟨v0, v1, d0, d1, p0, p1, rfl, rfl, rfl, h0, h1⟩ := trodAll_two hA
  obtain ⟨rfl, rfl⟩ := trodVars_none hV
  obtain ⟨a, ca, xs, rfl, la, _, ha⟩ := open_byteSl (hval 0 22 v0 rfl rfl) h0
  obtain ⟨b, cb, ys, rfl, lb, _, hb⟩ := open_byteSl (hval 1 22 v1 rfl rfl) h1
  skip
  exact law_calls rfl rfl (by kernel_rfl) hW' rfl (lawScreen_c a b ca cb xs ys W ha hb la lb)
theorem fnScreen_said : Rows.FnScreenSaid :=
  OpenClaim.holds_of_wide 4 Tryz.f4 rfl rfl rfl rfl rfl rfl rfl ⟨rfl, rfl, rfl, rfl, rfl⟩ rfl rfl rfl rfl rfl (by kernel_rfl) Tryz.func4 (by kernel_rfl)
    (of_decide_eq_true (by kernel_rfl)) (by unfold Func.isWrapper; first | (rw [if_pos (by decide +kernel)]; kernel_rfl) | (rw [if_neg (by decide +kernel)]; exact ⟨rfl, rfl⟩))
    (fun os started H enc _ => fnScreen_lifted os started H enc)
theorem fnScreen_holds : Rows.FnScreenCardSaid :=
  Claim7.holds_tied_plain_at .later [] [.data, .pinned] true (true, "ffbd75a9134906c58089c102deb558f93b5b8d6148756965b8f25dfd65a36cee") false fnScreen_said (fun _ h => by cases h) (by kernel_rfl) (fun _ h => by cases h) fnScreen_row_tie rfl ⟨rfl, rfl⟩ (by kernel_rfl) rfl
    (fun f fn hf hfn => by
      obtain rfl : f = 4 := Option.some.inj ((show Tryz.prog.funcNamed "loop.example/g00308/laws.FnScreen" = some 4 by kernel_rfl).symm.trans hf) |>.symm
      obtain rfl : fn = Tryz.f4 := (Option.some.inj (Tryz.func4.symm.trans hfn)).symm
      exact ⟨by kernel_rfl, fun j t ht => by
        rw [Tryz.params4] at ht
        have hm : t ∈ [22, 22] := by simpa using Array.mem_of_getElem? ht
        have hall : ([22, 22].all fun u => !Tryz.prog.wantsStandIn u) = true := by kernel_rfl
        exact (show Tryz.prog.wantsStandIn t = false by simpa using List.all_eq_true.1 hall t hm)⟩)
    (by kernel_rfl)
end
end Go.Proofs.YtjmpgeffkdjpdaaGreatDoor
