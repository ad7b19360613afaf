/- Contracts of the functions that the claim reaches. No conditions but sizes. -/
import Derived.Test.YtjmpgeffkdjpdaaGreatDoorPTma
import Derived.Lib.LazyBuf
namespace Go.Proofs.YtjmpgeffkdjpdaaGreatDoor
set_option linter.unusedVariables false
set_option linter.unusedSimpArgs false
set_option maxRecDepth 100000
set_option maxHeartbeats 16000000
open Go.RowKit
section
section
variable {p : PV} {b : UInt8}
theorem us1 (h : mayF p.utf.data.toList b.toNat = false) : ustep p b = ((gstep b).1, pr 65533 :: (gstep b).2) := by unfold ustep; rw [if_pos h]
theorem us2 (h : mayF p.utf.data.toList b.toNat = true) (h2 : p.utf.size + 1 < uL (p.utf.data.toList.headD 0).toNat) : ustep p b = ({ p with utf := p.utf ++ ⟨#[b]⟩ }, []) := by unfold ustep; rw [if_neg (by rw [h]; simp), if_pos h2]
theorem us3 (h : mayF p.utf.data.toList b.toNat = true) (h2 : ¬ p.utf.size + 1 < uL (p.utf.data.toList.headD 0).toNat) : ustep p b = (pz, [pr (rnV (p.utf.data.toList ++ [b]))]) := by unfold ustep; rw [if_neg (by rw [h]; simp), if_neg h2]
end
theorem PR.after {B lo : Nat} {R : PV × List AV} {ap al a1 : Option Addr} {L us : List aA} {x : aA} {w w2 w' : World} {e : Ending} (h : PR B lo R none us a1 w2 e w') (hx : x.aa = none) (hus : us = L ++ [x]) (hc : Ch (fun k => k = B ∨ k ∈ bO al) w w2) (hka : ∀ k ∈ bO a1, k ∈ bO al ∨ w.heap.size ≤ k) :
 PR B lo (R.1, x.A :: R.2) ap L al w e w' := by
 obtain ⟨ap', cp', L', al', cl', h1, h2, h3, h4, h5⟩ := h
 have hbx : Zb8 x = [] := by unfold Zb8; rw [hx]; rfl
 refine ⟨ap', cp', L', al', cl', h1, h2, by rw [h3, hus]; simp, ?_, fun k hk1 => ?_⟩
 ·refine (hc.mono (M := fun k => k = B ∨ k ∈ bO ap ∨ k ∈ bO al) (fun i hi => .inl (by rcases hi with h | h; exact .inl h; exact .inr (.inr h)))).trans h4 (fun i hi => ?_)
  rcases hi with h6 | h6 | h6
  ·exact .inl (.inl h6)
  ·simp [bO] at h6
  ·rcases hka i h6 with h7 | h7
   ·exact .inl (.inr (.inr h7))
   ·exact .inr h7
 ·rcases h5 k hk1 with h6 | h6
  ·simp only [bO, List.nil_append, roB, List.mem_append, hus, List.flatMap_append, List.flatMap_cons, List.flatMap_nil, List.append_nil, hbx] at h6
   rcases h6 with h6 | h6
   ·rcases hka k h6 with h7 | h7
    ·exact .inl (by simp only [List.mem_append, roB]; exact .inr (.inl h7))
    ·exact .inr h7
   ·exact .inl (by simp only [List.mem_append, roB]; exact .inr (.inr h6))
  ·have := hc.size
   exact .inr (by omega)
theorem Zv3 (s : ByteArray) : (Lib.decodeGo s).1 ≤ 2097151 := by
 unfold Lib.decodeGo
 split
 ·decide
 ·rw [Lib.decode_at]
  have h0 := (s.get! 0).toNat_lt
  unfold Lib.decodeN
  (repeat' split) <;> simp <;> omega
theorem Yi0 (g : Nat) (w : World) (b : UInt8) (n : Nat) (hc : w.cell? ⟨g, 0, none⟩ = some (.int .u8 n)) (hn : b.toNat = n) : (convert 22 9 (.slice (some ⟨g, 0, none⟩) 1 1)).run Tryz.prog w = .ok (.string ⟨#[b]⟩) w := by
 refine run_convert_bytes_back w _ _ 5 ⟨g, 0, none⟩ 1 [b] Tryz.underlying22 Tryz.underlying5 Tryz.underlying9 (fun j hj => ?_)
 have h0 : j = 0 := by simpa using hj
 subst h0
 simp [Addr.add, hc, hn]
theorem inRune_c (B lo : Nat) (p : PV) (ap al : Option Addr) (cp cl : Nat) (L : List aA) (b : UInt8) (w : World) (h : PS B lo p ap cp L al cl w) (hL : L.length ≤ 1048575) (hlo : lo ≤ w.heap.size)
 (hs : p.state = 6) (hA : p.args = []) (hP : p.priv = false) (hT : p.text = e0) (hU : begB p.utf.data.toList = true) (hUT : UT w) (hB1 : B ≠ 0) (hB2 : B ≠ 1) :
 Calls Tryz.prog 89 #[.pointer (some ⟨B, 0, none⟩), .slice al L.length cl, .int .u8 b.toNat] w (PR B lo (ustep p b) ap L al w) := by
 obtain ⟨iA, hA, hA0, hA1, hA2⟩ := info_parts Tryz.infoAction
 rename_i hAA
 have HP := zz h
 have k_0 : w.cell? ⟨B, 0, none⟩ = some (.int .i64 6) := by rw [h.c0, hs]
 have k_1 : w.cell? ⟨B, 1, none⟩ = some (.slice ap 0 cp) := by rw [h.c1, hAA]; rfl
 have k_2 : w.cell? ⟨B, 2, none⟩ = some (.bool false) := by rw [h.c2, hP]
 have k_3 : w.cell? ⟨B, 3, none⟩ = some (.string ⟨#[]⟩) := by rw [h.c3, hT]
 have k_4 : w.cell? ⟨B, 4, none⟩ = some (.string p.utf) := h.c4
 have kf := h.fz
 have klt := h.lt
 have HUT := zz hUT
 have HB1 := zz hB1
 have HB2 := zz hB2
 have HBG := zz hU
 obtain ⟨hu1, hu2, hu3⟩ := Zd6.1 hU
 have hls : p.utf.data.toList.length = p.utf.size := rfl
 have hu4 : p.utf.size ≤ 3 := by
  have : ∀ n, uL n ≤ 4 := fun n => by unfold uL; (repeat' split) <;> omega
  have := this (p.utf.data.toList.headD 0).toNat
  omega
 have hup : 0 < p.utf.size := by omega
 have HHD := zz (headL hup)
 have HE : Hid (p.state = 6 ∧ p.args = [] ∧ p.priv = false ∧ p.text = e0) := zz ⟨hs, hAA, hP, hT⟩
 clear h hs hAA hP hT hU hUT hB1 hB2 hu1 hu2 hu3 hls
 obtain ⟨Gr, hG⟩ := eX (ustep p b)
 have HGG := zz hG
 rw [hG]
 clear hG
 obtain ⟨U, hU⟩ := eX (p.utf ++ (⟨#[b]⟩ : ByteArray))
 have HU := zz hU
 have HUL : Hid (U.data.toList = p.utf.data.toList ++ [b]) := zz (by rw [← hU]; simp)
 have hUs : U.size ≤ 4 := by rw [← hU, ByteArray.size_append]; show _ + 1 ≤ _; omega
 have HUS : Hid (U.size = p.utf.size + 1) := zz (by rw [← hU, ByteArray.size_append]; rfl)
 have hU0 : 0 < U.size := by rw [HUS.out]; omega
 have HU0 : Hid ((U[0]'hU0) = p.utf.data.toList.headD 0) := zz (by
  rw [← headL hU0, HUL.out]
  cases hc : p.utf.data.toList with
  | nil => have : p.utf.data.toList.length = p.utf.size := rfl; rw [hc] at this; simp at this; omega
  | cons a l => rfl)
 have hbig : ¬ 9223372036854775807 < p.utf.size + 1 := by omega
 have hcv := Yi0 w.heap.size (w.alloc (.cells #[.int .u8 b.toNat] 5)).drew b b.toNat (by simp [go_sem]) rfl
 go_enter Tryz.func89, Tryz.ntmps89
 go_upto_region 1 with fail
 refine Za4 (fun w' => w'.cell? ⟨B, 4, none⟩ = some (.string p.utf)) (fun i => false) (by kernel_rfl) k_4 ?_
 refine tW ?_ 0 rfl ?_ ?_; rotate_left
 ·intro w' hSw; go_simp; try rfl
 try simp only [Act.put,j1,j2,j3,j4,j5,j6]
 refine tW ?_ 1 rfl ?_ ?_; rotate_left
 ·intro w' hSw; go_simp; try rfl
 try simp only [Act.put,j1,j2,j3,j4,j5,j6]
 refine tW ?_ 2 rfl ?_ ?_; rotate_left
 ·intro w' hSw; go_simp; try rfl
 try simp only [Act.put,j1,j2,j3,j4,j5,j6]
 refine tL ?_ 3 rfl k_4 ?_ ?_; rotate_left
 ·intro w' hSw; go_simp; try rfl
 try simp only [Act.put,j1,j2,j3,j4,j5,j6]
 refine tW ?_ 4 rfl ?_ ?_; rotate_left
 ·intro w' hSw; go_simp; try rfl
 try simp only [Act.put,j1,j2,j3,j4,j5,j6]
 refine w1G (i := 5) (by kernel_rfl) rfl k_4 (fun K' hK => ?_)
 simp only [j1,j2,j3]
 go_simp
 have hS1 : (w.alloc (.cells #[.int .u8 b.toNat] 5)).cell? ⟨B, 4, none⟩ = some (.string p.utf) := (World.cell?_alloc_lt _ _ _ klt).trans k_4
 refine hK.out _ _ (Or.inr hS1) ?_
 clear hK K'
 try simp only [Act.put,j1,j2,j3,j4,j5,j6]
 refine w1G (i := 6) (by kernel_rfl) rfl hS1 (fun K' hK => ?_)
 simp only [j1,j2,j3]
 go_simp
 refine hK.out _ _ (Or.inr hS1) ?_
 clear hK K'
 try simp only [Act.put,j1,j2,j3,j4,j5,j6]
 refine tW ?_ 7 rfl ?_ ?_; rotate_left
 ·intro w' hSw; go_simp; try rfl
 try simp only [Act.put,j1,j2,j3,j4,j5,j6]
 refine tW ?_ 8 rfl ?_ ?_; rotate_left
 ·intro w' hSw; go_simp; try rfl
 try simp only [Act.put,j1,j2,j3,j4,j5,j6]
 refine wD (by kernel_rfl) ?_ _
 clear hcv hU hbig
 have hb1 : Below w.heap.size w (w.alloc (.cells #[.int .u8 b.toNat] 5)).drew := (bA).drew
 obtain ⟨x1, hx1⟩ : ∃ x, (w.alloc (.cells #[.int .u8 b.toNat] 5)).drew = x := ⟨_, rfl⟩
 rw [hx1] at hb1 ⊢
 have HBW := zz hb1
 have HP1 := zz (HP.out.keep hb1)
 have HUT1 := zz (HUT.out.keep hb1)
 have hz1 := hb1.size
 have q_0 := (hb1.cell (p := ⟨B, 0, none⟩) klt).trans k_0
 have q_1 := (hb1.cell (p := ⟨B, 1, none⟩) klt).trans k_1
 have q_2 := (hb1.cell (p := ⟨B, 2, none⟩) klt).trans k_2
 have q_3 := (hb1.cell (p := ⟨B, 3, none⟩) klt).trans k_3
 have q_4 := (hb1.cell (p := ⟨B, 4, none⟩) klt).trans k_4
 have qf := fun o => kF hb1 klt (kf o)
 have qlt : B < x1.heap.size := by omega
 clear hx1 hb1 hS1 k_0 k_1 k_2 k_3 k_4 kf
 obtain ⟨v, hv⟩ := eX (mayF p.utf.data.toList b.toNat)
 have HV := zz hv
 clear hv
 have ZC : Hid (Ch (fun k => k = B) x1 (((((x1.setCell ⟨B, 0, none⟩ (.int .i64 0)).setCell ⟨B, 1, none⟩ (.slice none 0 0)).setCell ⟨B, 2, none⟩ (.bool false)).setCell ⟨B, 3, none⟩ (.string ⟨#[]⟩)).setCell ⟨B, 4, none⟩ (.string ⟨#[]⟩))) := zz (by repeat (first | (with_reducible exact Ch.refl) | (with_reducible refine Ch.alloc ?_ _) | (with_reducible refine Ch.drew ?_) | (with_reducible refine Ch.setB ?_ _ _)))
 have ZP : Hid (PS B lo pz none 0 L al cl (((((x1.setCell ⟨B, 0, none⟩ (.int .i64 0)).setCell ⟨B, 1, none⟩ (.slice none 0 0)).setCell ⟨B, 2, none⟩ (.bool false)).setCell ⟨B, 3, none⟩ (.string ⟨#[]⟩)).setCell ⟨B, 4, none⟩ (.string ⟨#[]⟩))) := zz (by
  refine HP1.out.cells ZC.out ?_ ?_ ?_ ?_ ?_ ?_ (.inr ⟨rfl, rfl, rfl⟩)
  all_goals first | (intro o; simp [go_sem, qf]; done) | (simp [go_sem, q_0, q_1, q_2, q_3, q_4, pz]; done))
 cases v
 case false =>
  have HR : Hid (Gr = ((gstep b).1, pr 65533 :: (gstep b).2)) := zz (by rw [← HGG.out]; exact us1 HV.out)
  go_upto_region 4 with (go_at_call 124; refine (Zd5 _ _ _ (by omega)).mono ?_; rw [HV.out]; rintro e w' ⟨rfl, rfl⟩)
  obtain ⟨x3, hx3⟩ : ∃ x, (((((x1.setCell ⟨B, 0, none⟩ (.int .i64 0)).setCell ⟨B, 1, none⟩ (.slice none 0 0)).setCell ⟨B, 2, none⟩ (.bool false)).setCell ⟨B, 3, none⟩ (.string ⟨#[]⟩)).setCell ⟨B, 4, none⟩ (.string ⟨#[]⟩)) = x := ⟨_, rfl⟩
  rw [hx3] at ZC ZP ⊢
  clear hx3
  have hz3 := ZC.out.size
  have HSRC4 : Hid (Src Tryz.prog 5 48 (.slice (some ⟨x3.heap.size, 0, none⟩) 1 1) [(⟨⟨1, 65533, false, [], e0⟩, none, 0⟩ : aA)].length ([(⟨⟨1, 65533, false, [], e0⟩, none, 0⟩ : aA)].flatMap actE) (x3.alloc (.cells #[.int .i64 1, .int .i64 65533, .bool false, .slice none 0 0, .string ⟨#[]⟩] 38))) := zz (Src.ofBox (enc := actE) Tryz.underlying48 (fun _ => rfl) Zd9 (⟨⟨1, 65533, false, [], e0⟩, none, 0⟩ : aA) _ _ (by first | rfl | simp [actE]) _ rfl)
  have HRO4 : Hid (ActO lo L al cl (x3.alloc (.cells #[.int .i64 1, .int .i64 65533, .bool false, .slice none 0 0, .string ⟨#[]⟩] 38))) := zz (ZP.out.ro.keep actL (bA))
  go_wp2_with (at_builtin; refine wA (.tmp 30) (.tmp 32) 48 48 lo 38 iA (.agg #[.int .i64 0, .int .i64 0, .bool false, .slice none 0 0, .string ⟨#[]⟩]) 5 64 Tryz.underlying48 hA hA0 hA1 hA2 rfl (by decide) al L.length cl L HRO4.out.row (.slice (some ⟨x3.heap.size, 0, none⟩) 1 1) [(⟨⟨1, 65533, false, [], e0⟩, none, 0⟩ : aA)] HSRC4.out (by simp; omega) (by simp; omega) rfl rfl rfl rfl ?_)
  intro a4 c4 w4 us4 hus hf hc hk
  have HUS4 := hus
  have HF4 := zz hf
  have HC4 : Hid (Ch (· ∈ bO al) x3 w4) := zz ((Ch.refl.alloc _).trans hc (fun i hi => .inl hi))
  have HK4 : Hid (∀ j ∈ bO a4, j ∈ bO al ∨ j = (x3.alloc (.cells #[.int .i64 1, .int .i64 65533, .bool false, .slice none 0 0, .string ⟨#[]⟩] 38)).heap.size) := zz (fun j hj => by simpa using hk j hj)
  have HCA4 := zz hc
  clear hus hf hc hk
  have HP4 := zz ((ZP.out.keep ((Below.refl _ _).alloc (Nat.le_refl _) (.cells #[.int .i64 1, .int .i64 65533, .bool false, .slice none 0 0, .string ⟨#[]⟩] 38))).push (x := ⟨⟨1, 65533, false, [], e0⟩, none, 0⟩) ⟨rfl, rfl, rfl⟩ HUS4.out HF4.out HCA4.out HK4.out)
  have hul : us4.length ≤ 1048576 := by rw [HUS4.out]; simp; omega
  have hz4 := HC4.out.size
  go_wp2_with fail
  refine (Zz5 B lo none a4 0 c4 us4 b _ HP4.out hul (by omega)).mono ?_
  rintro e w5 ⟨ap', cp', L', al', cl', rfl, g2, g3, g4, g5⟩
  have HG2 := zz g2
  have HG3 := zz g3
  have HG4 := zz g4
  have HG5 := zz g5
  clear g2 g3 g4 g5
  go_wp2_with fail
  go_ret
  rw [HR.out]
  refine PR.after (x := ⟨⟨1, 65533, false, [], e0⟩, none, 0⟩) (w2 := w4) ⟨ap', cp', L', al', cl', rfl, HG2.out, HG3.out, HG4.out, HG5.out⟩ rfl HUS4.out ?_ ?_
  ·exact ((Ch.of_below HBW.out).trans ZC.out (fun i hi => .inl (.inl hi))).trans HC4.out (fun i hi => .inl (.inr hi))
  ·intro k hk
   rcases HK4.out k hk with h1 | h1
   ·exact .inl h1
   ·right
    simp at h1
    omega
 obtain ⟨u, hu⟩ := eX (uL (U[0]'hU0).toNat)
 have HUU := zz hu
 have HUX : Hid (uL (p.utf.data.toList.headD 0).toNat = u) := zz (by rw [← hu, HU0.out])
 clear hu
 by_cases hlt : U.size < u
 case pos =>
  have HR : Hid (Gr = ({ p with utf := U }, [])) := zz (by rw [← HGG.out, us2 HV.out (by rw [HUX.out]; have := HUS.out; omega), HU.out])
  have glt : (U.size : Int) < (u : Int) := by omega
  go_wp2_with (first | (go_at_call 124; refine (Zd5 _ _ _ (by omega)).mono ?_; rw [HV.out]; rintro e w' ⟨rfl, rfl⟩) | (go_at_call 123; refine (Zb3 _ _).mono ?_; rw [HUU.out]; rintro e w' ⟨rfl, rfl⟩))
  go_ret
  have hc : Ch (fun k => k = B) x1 (x1.setCell ⟨B, 4, none⟩ (.string U)) := Ch.set1 _ _ _ _
  have hE := HE.out
  refine (PR.cells (p' := { p with utf := U }) (ap' := ap) (cp' := cp) HP1.out hc (by rw [HR.out]) (by rw [HR.out]) (HP1.out.cells hc ?_ ?_ ?_ ?_ ?_ ?_ (.inl ⟨rfl, rfl, rfl⟩)) (.inl rfl)).base HBW.out
  all_goals first | (intro o; simp [go_sem, qf]; done) | (simp [go_sem, q_0, q_1, q_2, q_3, q_4, hE.1, hE.2.1, hE.2.2.1, hE.2.2.2]; done)
 have glt : (u : Int) ≤ (U.size : Int) := by omega
 obtain ⟨r, hr⟩ : ∃ r, (Lib.decodeGo U).1 = r := ⟨_, rfl⟩
 obtain ⟨d, hd⟩ : ∃ d, (Lib.decodeGo U).2 = d := ⟨_, rfl⟩
 have hrl : r ≤ 2097151 := by rw [← hr]; exact Zv3 U
 have HD : Hid (((Lib.decodeGo U).1 = r) ∧ ((Lib.decodeGo U).2 = d)) := zz ⟨hr, hd⟩
 have HR : Hid (Gr = (pz, [pr r])) := zz (by
  have h3 := us3 (p := p) HV.out (by rw [HUX.out]; have := HUS.out; omega)
  rw [← HGG.out, h3]
  have h4 := dec_rune HBG.out HV.out (by
   rw [HUX.out]
   have h5 := (Zd6.1 HBG.out).2.1
   rw [HUX.out] at h5
   have h6 : p.utf.data.toList.length = p.utf.size := rfl
   have := HUS.out
   omega)
  have h7 : (⟨(p.utf.data.toList ++ [b]).toArray⟩ : ByteArray) = U := by rw [← HUL.out]
  rw [h7, hr] at h4
  rw [h4])
 clear hr hd
 go_wp2_with (first | (go_at_call 124; refine (Zd5 _ _ _ (by omega)).mono ?_; rw [HV.out]; rintro e w' ⟨rfl, rfl⟩) | (go_at_call 123; refine (Zb3 _ _).mono ?_; rw [HUU.out]; rintro e w' ⟨rfl, rfl⟩))
 refine (Yd0 U _ (HUT1.out.ch ZC.out (fun h => HB1.out h.symm) (fun h => HB2.out h.symm))).mono ?_
 rw [HD.out.1, HD.out.2]
 rintro e x4 ⟨rfl, hb4⟩
 go_upto_region 10 with fail
 have HX4 : Hid (Below _ _ x4) := zz hb4
 have HP4 := zz (ZP.out.keep hb4)
 have HCZ := zz (ZC.out.below1 hb4)
 have hz4 := HCZ.out.size
 clear hb4 HX4
 have HSRC5 : Hid (Src Tryz.prog 5 48 (.slice (some ⟨x4.heap.size, 0, none⟩) 1 1) [(⟨⟨1, r, false, [], e0⟩, none, 0⟩ : aA)].length ([(⟨⟨1, r, false, [], e0⟩, none, 0⟩ : aA)].flatMap actE) (x4.alloc (.cells #[.int .i64 1, .int .i64 r, .bool false, .slice none 0 0, .string ⟨#[]⟩] 38))) := zz (Src.ofBox (enc := actE) Tryz.underlying48 (fun _ => rfl) Zd9 (⟨⟨1, r, false, [], e0⟩, none, 0⟩ : aA) _ _ (by first | rfl | simp [actE]) _ rfl)
 have HRO5 : Hid (ActO lo L al cl (x4.alloc (.cells #[.int .i64 1, .int .i64 r, .bool false, .slice none 0 0, .string ⟨#[]⟩] 38))) := zz (HP4.out.ro.keep actL (bA))
 go_wp2_with (at_builtin; refine wA (.tmp 56) (.tmp 60) 48 48 lo 38 iA (.agg #[.int .i64 0, .int .i64 0, .bool false, .slice none 0 0, .string ⟨#[]⟩]) 5 64 Tryz.underlying48 hA hA0 hA1 hA2 rfl (by decide) al L.length cl L HRO5.out.row (.slice (some ⟨x4.heap.size, 0, none⟩) 1 1) [(⟨⟨1, r, false, [], e0⟩, none, 0⟩ : aA)] HSRC5.out (by simp; omega) (by simp; omega) rfl rfl rfl rfl ?_)
 intro a5 c5 w5 us5 hus hf hc hk
 have HUS5 := hus
 have HF5 := zz hf
 have HC5 : Hid (Ch (· ∈ bO al) x4 w5) := zz ((Ch.refl.alloc _).trans hc (fun i hi => .inl hi))
 have HK5 : Hid (∀ j ∈ bO a5, j ∈ bO al ∨ j = (x4.alloc (.cells #[.int .i64 1, .int .i64 r, .bool false, .slice none 0 0, .string ⟨#[]⟩] 38)).heap.size) := zz (fun j hj => by simpa using hk j hj)
 have HCA5 := zz hc
 clear hus hf hc hk
 go_wp2_with fail
 go_ret
 exact (PR.push (p' := pz) (ap' := none) (cp' := 0) (w1 := x4.alloc (.cells #[.int .i64 1, .int .i64 r, .bool false, .slice none 0 0, .string ⟨#[]⟩] 38)) HP1.out (x := ⟨⟨1, r, false, [], e0⟩, none, 0⟩) rfl HUS5.out HK5.out (by simp; omega) ((HCZ.out.mono (M := fun k => k = B ∨ k ∈ bO al) (fun i hi => .inl (.inl hi))).trans HC5.out (fun i hi => .inl (.inr hi))) (by rw [HR.out]) (by rw [HR.out]; try rfl) ((HP4.out.keep ((Below.refl _ _).alloc (Nat.le_refl _) (.cells #[.int .i64 1, .int .i64 r, .bool false, .slice none 0 0, .string ⟨#[]⟩] 38))).push ⟨rfl, rfl, rfl⟩ HUS5.out HF5.out HCA5.out HK5.out) (.inr rfl)).base HBW.out
end
section
theorem esc_eq (n : Nat) : escI (n : Int) = esc n := by
 unfold escI esc
 rw [Bool.eq_iff_iff]
 simp only [Bool.or_eq_true, beq_iff_eq]
 omega
section
variable {b : UInt8} {n : Nat}
theorem es1 (hn : b.toNat = n) (h : n = 91) : estep b = (⟨2, [-1], false, e0, e0⟩, []) := by subst hn; unfold estep; rw [if_pos h]
theorem es2 (hn : b.toNat = n) (h : n = 93) : estep b = (pst 4, []) := by subst hn; unfold estep; rw [if_neg (by omega), if_pos h]
theorem es3 (hn : b.toNat = n) (h : n = 27) : estep b = (pst 1, []) := by subst hn; unfold estep; rw [if_neg (by omega), if_neg (by omega), if_pos h]
theorem es4 (hn : b.toNat = n) (h1 : ¬ n = 91) (h2 : ¬ n = 93) (h3 : ¬ n = 27) (h4 : esc n = true) : estep b = (pz, [⟨3, n, false, [], e0⟩]) := by subst hn; unfold estep; rw [if_neg h1, if_neg h2, if_neg h3, if_pos h4]
theorem es5 (hn : b.toNat = n) (h1 : ¬ n = 91) (h2 : ¬ n = 93) (h3 : ¬ n = 27) (h4 : esc n = false) : estep b = (pz, []) := by subst hn; unfold estep; rw [if_neg h1, if_neg h2, if_neg h3, if_neg (by rw [h4]; simp)]
end
theorem Zq9 (lo : Nat) (w : World) (g : Nat) (v : Int) (hg : g = w.heap.size) (h : lo ≤ w.heap.size) : Fr iE 3 1 lo (w.alloc (.cells #[.int .i64 v] 3)).heap.size (.slice (some ⟨g, 0, none⟩) 1 1) [v] (w.alloc (.cells #[.int .i64 v] 3)) := by
 subst hg
 exact (F_.of_own (World.ownsRow_lit (base := lo) w #[.int .i64 v] 1 h (by decide) rfl) rfl rfl).here
theorem PS.cellsNew {B lo g : Nat} {p p' : PV} {ap al : Option Addr} {cp cp' cl : Nat} {L : List aA} {w w' : World} (h : PS B lo p ap cp L al cl w) (hc : Ch (fun k => k = B) w w') (hg : w.heap.size ≤ g) (ha : Fr iE 3 1 lo w'.heap.size (.slice (some ⟨g, 0, none⟩) p'.args.length cp') p'.args w')
 (c0 : w'.cell? ⟨B, 0, none⟩ = some (.int .i64 p'.state)) (c1 : w'.cell? ⟨B, 1, none⟩ = some (.slice (some ⟨g, 0, none⟩) p'.args.length cp')) (c2 : w'.cell? ⟨B, 2, none⟩ = some (.bool p'.priv))
 (c3 : w'.cell? ⟨B, 3, none⟩ = some (.string p'.text)) (c4 : w'.cell? ⟨B, 4, none⟩ = some (.string p'.utf)) (fz : ∀ o, w'.frozen? ⟨B, o, none⟩ = false) : PS B lo p' (some ⟨g, 0, none⟩) cp' L al cl w' := by
 have hne : ∀ k ∈ acB al L, ¬ k = B := fun k hk e => h.nB (by rw [List.mem_append]; exact .inr (e ▸ hk))
 have hlt := h.lt
 refine ⟨c0, c1, c2, c3, c4, fz, Nat.lt_of_lt_of_le hlt hc.size, ha, h.ro.ch actL hc hne, fun hB => ?_, fun k hk1 hk2 => ?_⟩
 ·rcases List.mem_append.1 hB with h1 | h1
  ·simp [bO] at h1; omega
  ·exact hne B h1 rfl
 ·simp [bO] at hk1
  have := (h.ro.bd actL k hk2).2
  omega
theorem Zn6 (B lo : Nat) (ap al : Option Addr) (cp cl : Nat) (L : List aA) (b : UInt8) (w : World) (h : PS B lo (pst 1) ap cp L al cl w) (hL : L.length ≤ 1048576) (hlo : lo ≤ w.heap.size) :
 Calls Tryz.prog 48 #[.pointer (some ⟨B, 0, none⟩), .slice al L.length cl, .int .u8 b.toNat] w (PR B lo (estep b) ap L al w) := by
 obtain ⟨iA, hA, hA0, hA1, hA2⟩ := info_parts Tryz.infoAction
 have HP := zz h
 have k_0 : w.cell? ⟨B, 0, none⟩ = some (.int .i64 1) := h.c0
 have k_1 : w.cell? ⟨B, 1, none⟩ = some (.slice ap 0 cp) := h.c1
 have k_2 : w.cell? ⟨B, 2, none⟩ = some (.bool false) := h.c2
 have k_3 : w.cell? ⟨B, 3, none⟩ = some (.string ⟨#[]⟩) := h.c3
 have k_4 : w.cell? ⟨B, 4, none⟩ = some (.string ⟨#[]⟩) := h.c4
 have kf := h.fz
 have klt := h.lt
 have h256 : b.toNat < 256 := b.toNat_lt
 clear h
 obtain ⟨Gr, hG⟩ := eX (estep b)
 have HGG := zz hG
 rw [hG]
 clear hG
 obtain ⟨n, hn⟩ := eX (b.toNat)
 rw [hn] at h256 ⊢
 have HN := zz hn
 clear hn
 by_cases h91 : n = 91
 case pos =>
  have HR : Hid (Gr = (⟨2, [-1], false, e0, e0⟩, [])) := zz (by rw [← HGG.out]; exact es1 HN.out h91)
  have g91 : ((n : Int) == 91) = true := by subst h91; rfl
  clear h91
  have ZC : Hid (Ch (fun k => k = B) w (((((w.setCell ⟨B, 0, none⟩ (.int .i64 0)).setCell ⟨B, 1, none⟩ (.slice none 0 0)).setCell ⟨B, 2, none⟩ (.bool false)).setCell ⟨B, 3, none⟩ (.string ⟨#[]⟩)).setCell ⟨B, 4, none⟩ (.string ⟨#[]⟩))) := zz (by repeat (first | (with_reducible exact Ch.refl) | (with_reducible refine Ch.alloc ?_ _) | (with_reducible refine Ch.drew ?_) | (with_reducible refine Ch.setB ?_ _ _)))
  have ZP : Hid (PS B lo pz none 0 L al cl (((((w.setCell ⟨B, 0, none⟩ (.int .i64 0)).setCell ⟨B, 1, none⟩ (.slice none 0 0)).setCell ⟨B, 2, none⟩ (.bool false)).setCell ⟨B, 3, none⟩ (.string ⟨#[]⟩)).setCell ⟨B, 4, none⟩ (.string ⟨#[]⟩))) := zz (by
   refine HP.out.cells ZC.out ?_ ?_ ?_ ?_ ?_ ?_ (.inr ⟨rfl, rfl, rfl⟩)
   all_goals first | (intro o; simp [go_sem, kf, klt]; done) | (simp [go_sem, k_0, k_1, k_2, k_3, k_4, klt, pz]; done))
  go_enter Tryz.func48, Tryz.ntmps48
  go_upto_region 9 with fail
  obtain ⟨x3, hx3⟩ : ∃ x, (((((w.setCell ⟨B, 0, none⟩ (.int .i64 0)).setCell ⟨B, 1, none⟩ (.slice none 0 0)).setCell ⟨B, 2, none⟩ (.bool false)).setCell ⟨B, 3, none⟩ (.string ⟨#[]⟩)).setCell ⟨B, 4, none⟩ (.string ⟨#[]⟩)) = x := ⟨_, rfl⟩
  rw [hx3] at ZC ZP ⊢
  have hz3 : w.heap.size ≤ x3.heap.size := ZC.out.size
  have hz4 : x3.heap.size = w.heap.size := by rw [← hx3]; simp [World.setCell]
  have HZ4 := zz hz4
  clear hx3 hz4
  have y_0 : x3.cell? ⟨B, 0, none⟩ = some (.int .i64 0) := ZP.out.c0
  have y_1 : x3.cell? ⟨B, 1, none⟩ = some (.slice none 0 0) := ZP.out.c1
  have y_2 : x3.cell? ⟨B, 2, none⟩ = some (.bool false) := ZP.out.c2
  have y_3 : x3.cell? ⟨B, 3, none⟩ = some (.string ⟨#[]⟩) := ZP.out.c3
  have y_4 : x3.cell? ⟨B, 4, none⟩ = some (.string ⟨#[]⟩) := ZP.out.c4
  have yf := ZP.out.fz
  have ylt := ZP.out.lt
  go_wp2_with fail
  go_ret
  refine PR.arg (p' := ⟨2, [-1], false, e0, e0⟩) (ap' := some ⟨x3.heap.size, 0, none⟩) (cp' := 1) HP.out (by rw [HR.out]) (by rw [HR.out]) (ZP.out.cellsNew ?hc (Nat.le_refl _) (Zq9 _ _ _ _ (by simp [World.setCell]) (by simp [World.setCell]; omega)) ?_ ?_ ?_ ?_ ?_ ?_) (ZC.out.mono (M := fun k => k = B ∨ k ∈ bO ap) (fun i hi => .inl (.inl hi)) |>.trans (N := fun k => k = B) ?hc (fun i hi => .inl (.inl hi))) (fun k hk => .inr (by simp [bO] at hk; omega))
  case hc => repeat (first | (with_reducible exact Ch.refl) | (with_reducible refine Ch.alloc ?_ _) | (with_reducible refine Ch.drew ?_) | (with_reducible refine Ch.setB ?_ _ _))
  all_goals first | (intro o; simp [go_sem, yf, ylt]; done) | (simp [go_sem, y_0, y_1, y_2, y_3, y_4, ylt]; done)
 have g91 : ((n : Int) == 91) = false := beq_eq_false_iff_ne.2 (by omega)
 by_cases h93 : n = 93
 case pos =>
  have HR : Hid (Gr = (pst 4, [])) := zz (by rw [← HGG.out]; exact es2 HN.out h93)
  have g93 : ((n : Int) == 93) = true := by subst h93; rfl
  clear h93
  go_enter Tryz.func48, Tryz.ntmps48
  go_wp2_with fail
  go_ret
  refine PR.cells (p' := pst 4) (ap' := none) (cp' := 0) HP.out ?hc (by rw [HR.out]) (by rw [HR.out]) (HP.out.cells ?hc ?_ ?_ ?_ ?_ ?_ ?_ (.inr ⟨rfl, rfl, rfl⟩)) (.inr rfl)
  case hc => repeat (first | (with_reducible exact Ch.refl) | (with_reducible refine Ch.alloc ?_ _) | (with_reducible refine Ch.drew ?_) | (with_reducible refine Ch.setB ?_ _ _))
  all_goals first | (intro o; simp [go_sem, kf, klt]; done) | (simp [go_sem, k_0, k_1, k_2, k_3, k_4, klt, pst]; done)
 have g93 : ((n : Int) == 93) = false := beq_eq_false_iff_ne.2 (by omega)
 by_cases h27 : n = 27
 case pos =>
  have HR : Hid (Gr = (pst 1, [])) := zz (by rw [← HGG.out]; exact es3 HN.out h27)
  have g27 : ((n : Int) == 27) = true := by subst h27; rfl
  clear h27
  go_enter Tryz.func48, Tryz.ntmps48
  go_wp2_with fail
  go_ret
  refine PR.cells (p' := pst 1) (ap' := none) (cp' := 0) HP.out ?hc (by rw [HR.out]) (by rw [HR.out]) (HP.out.cells ?hc ?_ ?_ ?_ ?_ ?_ ?_ (.inr ⟨rfl, rfl, rfl⟩)) (.inr rfl)
  case hc => repeat (first | (with_reducible exact Ch.refl) | (with_reducible refine Ch.alloc ?_ _) | (with_reducible refine Ch.drew ?_) | (with_reducible refine Ch.setB ?_ _ _))
  all_goals first | (intro o; simp [go_sem, kf, klt]; done) | (simp [go_sem, k_0, k_1, k_2, k_3, k_4, klt, pst]; done)
 have g27 : ((n : Int) == 27) = false := beq_eq_false_iff_ne.2 (by omega)
 obtain ⟨c, hc⟩ := eX (esc n)
 have HES : Hid (escI (n : Int) = c) := zz (by rw [esc_eq]; exact hc)
 have HCC := zz hc
 clear hc
 cases c
 case false =>
  have HR : Hid (Gr = (pz, [])) := zz (by rw [← HGG.out]; exact es5 HN.out h91 h93 h27 HCC.out)
  go_enter Tryz.func48, Tryz.ntmps48
  go_wp2_with (go_at_call 71; refine (Zh9 _ _).mono ?_; rw [HES.out]; rintro e w' ⟨rfl, rfl⟩)
  go_ret
  refine PR.cells (p' := pz) (ap' := none) (cp' := 0) HP.out ?hc (by rw [HR.out]) (by rw [HR.out]) (HP.out.cells ?hc ?_ ?_ ?_ ?_ ?_ ?_ (.inr ⟨rfl, rfl, rfl⟩)) (.inr rfl)
  case hc => repeat (first | (with_reducible exact Ch.refl) | (with_reducible refine Ch.alloc ?_ _) | (with_reducible refine Ch.drew ?_) | (with_reducible refine Ch.setB ?_ _ _))
  all_goals first | (intro o; simp [go_sem, kf, klt]; done) | (simp [go_sem, k_0, k_1, k_2, k_3, k_4, klt, pz]; done)
 have HR : Hid (Gr = (pz, [⟨3, n, false, [], e0⟩])) := zz (by rw [← HGG.out]; exact es4 HN.out h91 h93 h27 HCC.out)
 have ZC : Hid (Ch (fun k => k = B) w (((((w.setCell ⟨B, 0, none⟩ (.int .i64 0)).setCell ⟨B, 1, none⟩ (.slice none 0 0)).setCell ⟨B, 2, none⟩ (.bool false)).setCell ⟨B, 3, none⟩ (.string ⟨#[]⟩)).setCell ⟨B, 4, none⟩ (.string ⟨#[]⟩))) := zz (by repeat (first | (with_reducible exact Ch.refl) | (with_reducible refine Ch.alloc ?_ _) | (with_reducible refine Ch.drew ?_) | (with_reducible refine Ch.setB ?_ _ _)))
 have ZP : Hid (PS B lo pz none 0 L al cl (((((w.setCell ⟨B, 0, none⟩ (.int .i64 0)).setCell ⟨B, 1, none⟩ (.slice none 0 0)).setCell ⟨B, 2, none⟩ (.bool false)).setCell ⟨B, 3, none⟩ (.string ⟨#[]⟩)).setCell ⟨B, 4, none⟩ (.string ⟨#[]⟩))) := zz (by
  refine HP.out.cells ZC.out ?_ ?_ ?_ ?_ ?_ ?_ (.inr ⟨rfl, rfl, rfl⟩)
  all_goals first | (intro o; simp [go_sem, kf, klt]; done) | (simp [go_sem, k_0, k_1, k_2, k_3, k_4, klt, pz]; done))
 go_enter Tryz.func48, Tryz.ntmps48
 go_upto_region 15 with (go_at_call 71; refine (Zh9 _ _).mono ?_; rw [HES.out]; rintro e w' ⟨rfl, rfl⟩)
 obtain ⟨x3, hx3⟩ : ∃ x, (((((w.setCell ⟨B, 0, none⟩ (.int .i64 0)).setCell ⟨B, 1, none⟩ (.slice none 0 0)).setCell ⟨B, 2, none⟩ (.bool false)).setCell ⟨B, 3, none⟩ (.string ⟨#[]⟩)).setCell ⟨B, 4, none⟩ (.string ⟨#[]⟩)) = x := ⟨_, rfl⟩
 rw [hx3] at ZC ZP ⊢
 clear hx3
 have hz3 := ZC.out.size
 have HSRC5 : Hid (Src Tryz.prog 5 48 (.slice (some ⟨x3.heap.size, 0, none⟩) 1 1) [(⟨⟨3, n, false, [], e0⟩, none, 0⟩ : aA)].length ([(⟨⟨3, n, false, [], e0⟩, none, 0⟩ : aA)].flatMap actE) (x3.alloc (.cells #[.int .i64 3, .int .i64 n, .bool false, .slice none 0 0, .string ⟨#[]⟩] 38))) := zz (Src.ofBox (enc := actE) Tryz.underlying48 (fun _ => rfl) Zd9 (⟨⟨3, n, false, [], e0⟩, none, 0⟩ : aA) _ _ (by first | rfl | simp [actE]) _ rfl)
 have HRO5 : Hid (ActO lo L al cl (x3.alloc (.cells #[.int .i64 3, .int .i64 n, .bool false, .slice none 0 0, .string ⟨#[]⟩] 38))) := zz (ZP.out.ro.keep actL (bA))
 go_wp2_with (at_builtin; refine wA (.tmp 51) (.tmp 55) 48 48 lo 38 iA (.agg #[.int .i64 0, .int .i64 0, .bool false, .slice none 0 0, .string ⟨#[]⟩]) 5 64 Tryz.underlying48 hA hA0 hA1 hA2 rfl (by decide) al L.length cl L HRO5.out.row (.slice (some ⟨x3.heap.size, 0, none⟩) 1 1) [(⟨⟨3, n, false, [], e0⟩, none, 0⟩ : aA)] HSRC5.out (by simp; omega) (by simp; omega) rfl rfl rfl rfl ?_)
 intro a5 c5 w5 us5 hus hf hc hk
 have HUS5 := hus
 have HF5 := zz hf
 have HC5 : Hid (Ch (· ∈ bO al) x3 w5) := zz ((Ch.refl.alloc _).trans hc (fun i hi => .inl hi))
 have HK5 : Hid (∀ j ∈ bO a5, j ∈ bO al ∨ j = (x3.alloc (.cells #[.int .i64 3, .int .i64 n, .bool false, .slice none 0 0, .string ⟨#[]⟩] 38)).heap.size) := zz (fun j hj => by simpa using hk j hj)
 have HCA5 := zz hc
 clear hus hf hc hk
 go_wp2_with fail
 go_ret
 exact PR.push (p' := pz) (ap' := none) (cp' := 0) (w1 := x3.alloc (.cells #[.int .i64 3, .int .i64 n, .bool false, .slice none 0 0, .string ⟨#[]⟩] 38)) HP.out (x := ⟨⟨3, n, false, [], e0⟩, none, 0⟩) rfl HUS5.out HK5.out (by simp; omega) ((ZC.out.mono (M := fun k => k = B ∨ k ∈ bO al) (fun i hi => .inl (.inl hi))).trans HC5.out (fun i hi => .inl (.inr hi))) (by rw [HR.out]) (by rw [HR.out]; try rfl) ((ZP.out.keep ((Below.refl _ _).alloc (Nat.le_refl _) (.cells #[.int .i64 3, .int .i64 n, .bool false, .slice none 0 0, .string ⟨#[]⟩] 38))).push ⟨rfl, rfl, rfl⟩ HUS5.out HF5.out HCA5.out HK5.out) (.inr rfl)
end
section
theorem enc_low (n : Nat) (h : n < 128) : Utf8.encode (n : Int) = ⟨#[UInt8.ofNat n]⟩ := by
 unfold Utf8.encode
 have hv : Utf8.valid (n : Int) = true := by
  simp only [Utf8.valid, Bool.and_eq_true, Bool.or_eq_true, decide_eq_true_eq]
  omega
 rw [hv]
 simp [h]
section
variable {p : PV} {b : UInt8} {n : Nat}
theorem ss1 (hn : b.toNat = n) (h : n = 27) : sstep p b = (pst 1, []) := by subst hn; unfold sstep; rw [if_pos h]
theorem ss2 (hn : b.toNat = n) (h : 64 ≤ n ∧ n ≤ 126) : sstep p b = (pz, []) := by subst hn; unfold sstep; rw [if_neg (by omega), if_pos h]
theorem ss3 (hn : b.toNat = n) (h1 : ¬ n = 27) (h : ¬ (64 ≤ n ∧ n ≤ 126)) : sstep p b = (p, []) := by subst hn; unfold sstep; rw [if_neg h1, if_neg h]
theorem os1 (hn : b.toNat = n) (h : n = 7) : ostep p b = (pz, [⟨5, 0, false, [], p.text⟩]) := by subst hn; unfold ostep; rw [if_pos h]
theorem os2 (hn : b.toNat = n) (h : n = 27) : ostep p b = ({ p with state := 5 }, []) := by subst hn; unfold ostep; rw [if_neg (by omega), if_pos h]
theorem os3 (hn : b.toNat = n) (h : (32 ≤ n ∧ n ≤ 126) ∧ p.text.size < 40) : ostep p b = ({ p with text := p.text ++ ⟨#[b]⟩ }, []) := by subst hn; unfold ostep; rw [if_neg (by omega), if_neg (by omega), if_pos h]
theorem os4 (hn : b.toNat = n) (h1 : ¬ n = 7) (h2 : ¬ n = 27) (h : ¬ ((32 ≤ n ∧ n ≤ 126) ∧ p.text.size < 40)) : ostep p b = (p, []) := by subst hn; unfold ostep; rw [if_neg h1, if_neg h2, if_neg h]
theorem qs1 (hn : b.toNat = n) (h : n = 92) : qstep p b = (pz, [⟨5, 0, false, [], p.text⟩]) := by subst hn; unfold qstep; rw [if_pos h]
theorem qs2 (hn : b.toNat = n) (h : ¬ n = 92) : qstep p b = estep b := by subst hn; unfold qstep; rw [if_neg h]
end
theorem Zv4 (B lo : Nat) (p : PV) (ap al : Option Addr) (cp cl : Nat) (L : List aA) (b : UInt8) (w : World) (h : PS B lo p ap cp L al cl w) (hL : L.length ≤ 1048576) (hlo : lo ≤ w.heap.size)
 (hs : p.state = 3) (hA : p.args = []) (hP : p.priv = false) (hT : p.text = e0) (hU : p.utf = e0) :
 Calls Tryz.prog 48 #[.pointer (some ⟨B, 0, none⟩), .slice al L.length cl, .int .u8 b.toNat] w (PR B lo (sstep p b) ap L al w) := by
 obtain ⟨iA, hA, hA0, hA1, hA2⟩ := info_parts Tryz.infoAction
 rename_i hAA
 have HP := zz h
 have k_0 : w.cell? ⟨B, 0, none⟩ = some (.int .i64 3) := by rw [h.c0, hs]
 have k_1 : w.cell? ⟨B, 1, none⟩ = some (.slice ap 0 cp) := by rw [h.c1, hAA]; rfl
 have k_2 : w.cell? ⟨B, 2, none⟩ = some (.bool false) := by rw [h.c2, hP]
 have k_3 : w.cell? ⟨B, 3, none⟩ = some (.string p.text) := h.c3
 have k_4 : w.cell? ⟨B, 4, none⟩ = some (.string ⟨#[]⟩) := by rw [h.c4, hU]
 have kf := h.fz
 have klt := h.lt
 have h256 : b.toNat < 256 := b.toNat_lt
 have HE : Hid (p.state = 3 ∧ p.args = [] ∧ p.priv = false ∧ p.utf = e0) := zz ⟨hs, hAA, hP, hU⟩
 clear h hs hAA hP hU
 obtain ⟨Gr, hG⟩ := eX (sstep p b)
 have HGG := zz hG
 rw [hG]
 clear hG
 obtain ⟨n, hn⟩ := eX (b.toNat)
 rw [hn] at h256 ⊢
 have HN := zz hn
 clear hn
 have HT := zz hT
 clear hT
 by_cases h27 : n = 27
 case pos =>
  have HR : Hid (Gr = (pst 1, [])) := zz (by rw [← HGG.out]; exact ss1 HN.out h27)
  have g27 : ((n : Int) == 27) = true := by subst h27; rfl
  clear h27
  go_enter Tryz.func48, Tryz.ntmps48
  go_wp2_with fail
  go_ret
  have hE := HE.out
  have hT := HT.out
  have hc : Ch (fun k => k = B) w (w.setCell ⟨B, 0, none⟩ (.int .i64 1)) := Ch.set1 _ _ _ _
  refine PR.cells (p' := pst 1) (ap' := ap) (cp' := cp) HP.out hc (by rw [HR.out]) (by rw [HR.out]) (HP.out.cells hc ?_ ?_ ?_ ?_ ?_ ?_ (.inl ⟨rfl, rfl, by rw [hE.2.1]; rfl⟩)) (.inl rfl)
  all_goals first | (intro o; simp [go_sem, kf, klt]; done) | (simp [go_sem, k_0, k_1, k_2, k_3, k_4, klt, pst, hT]; done)
 have g27 : ((n : Int) == 27) = false := beq_eq_false_iff_ne.2 (by omega)
 by_cases h64 : 64 ≤ n ∧ n ≤ 126
 case pos =>
  have HR : Hid (Gr = (pz, [])) := zz (by rw [← HGG.out]; exact ss2 HN.out h64)
  have g1 : (64 : Int) ≤ (n : Int) := by omega
  have g2 : (n : Int) ≤ 126 := by omega
  go_enter Tryz.func48, Tryz.ntmps48
  go_wp2_with fail
  go_ret
  have hE := HE.out
  have hT := HT.out
  have hc : Ch (fun k => k = B) w (w.setCell ⟨B, 0, none⟩ (.int .i64 0)) := Ch.set1 _ _ _ _
  refine PR.cells (p' := pz) (ap' := ap) (cp' := cp) HP.out hc (by rw [HR.out]) (by rw [HR.out]) (HP.out.cells hc ?_ ?_ ?_ ?_ ?_ ?_ (.inl ⟨rfl, rfl, by rw [hE.2.1]; rfl⟩)) (.inl rfl)
  all_goals first | (intro o; simp [go_sem, kf, klt]; done) | (simp [go_sem, k_0, k_1, k_2, k_3, k_4, klt, pz, hT]; done)
 have HR : Hid (Gr = (p, [])) := zz (by rw [← HGG.out]; exact ss3 HN.out h27 h64)
 have g64 : ¬ ((64 : Int) ≤ (n : Int) ∧ (n : Int) ≤ 126) := by omega
 go_enter Tryz.func48, Tryz.ntmps48
 go_wp2_with fail
 all_goals first
  | (exfalso; omega)
  | (go_ret; exact PR.cells (p' := p) (ap' := ap) (cp' := cp) HP.out Ch.refl (by rw [HR.out]) (by rw [HR.out]) HP.out (.inl rfl))
theorem Ya2 (B lo : Nat) (p : PV) (ap al : Option Addr) (cp cl : Nat) (L : List aA) (b : UInt8) (w : World) (h : PS B lo p ap cp L al cl w) (hL : L.length ≤ 1048576) (hlo : lo ≤ w.heap.size)
 (hs : p.state = 4) (hA : p.args = []) (hP : p.priv = false) (hU : p.utf = e0) (hZ : p.text.size ≤ 40) :
 Calls Tryz.prog 48 #[.pointer (some ⟨B, 0, none⟩), .slice al L.length cl, .int .u8 b.toNat] w (PR B lo (ostep p b) ap L al w) := by
 obtain ⟨iA, hA, hA0, hA1, hA2⟩ := info_parts Tryz.infoAction
 rename_i hAA
 have HP := zz h
 have k_0 : w.cell? ⟨B, 0, none⟩ = some (.int .i64 4) := by rw [h.c0, hs]
 have k_1 : w.cell? ⟨B, 1, none⟩ = some (.slice ap 0 cp) := by rw [h.c1, hAA]; rfl
 have k_2 : w.cell? ⟨B, 2, none⟩ = some (.bool false) := by rw [h.c2, hP]
 have k_3 : w.cell? ⟨B, 3, none⟩ = some (.string p.text) := h.c3
 have k_4 : w.cell? ⟨B, 4, none⟩ = some (.string ⟨#[]⟩) := by rw [h.c4, hU]
 have kf := h.fz
 have klt := h.lt
 have h256 : b.toNat < 256 := b.toNat_lt
 have HE : Hid (p.state = 4 ∧ p.args = [] ∧ p.priv = false ∧ p.utf = e0) := zz ⟨hs, hAA, hP, hU⟩
 clear h hs hAA hP hU
 obtain ⟨Gr, hG⟩ := eX (ostep p b)
 have HGG := zz hG
 rw [hG]
 clear hG
 obtain ⟨n, hn⟩ := eX (b.toNat)
 rw [hn] at h256 ⊢
 have HN := zz hn
 clear hn
 by_cases h7 : n = 7
 case pos =>
  have HR : Hid (Gr = (pz, [⟨5, 0, false, [], p.text⟩])) := zz (by rw [← HGG.out]; exact os1 HN.out h7)
  have g7 : ((n : Int) == 7) = true := by subst h7; rfl
  clear h7
  go_enter Tryz.func48, Tryz.ntmps48
  go_upto_region 25 with fail
  have HSRC1 : Hid (Src Tryz.prog 5 48 (.slice (some ⟨w.heap.size, 0, none⟩) 1 1) [(⟨⟨5, 0, false, [], p.text⟩, none, 0⟩ : aA)].length ([(⟨⟨5, 0, false, [], p.text⟩, none, 0⟩ : aA)].flatMap actE) (w.alloc (.cells #[.int .i64 5, .int .i64 0, .bool false, .slice none 0 0, .string p.text] 38))) := zz (Src.ofBox (enc := actE) Tryz.underlying48 (fun _ => rfl) Zd9 (⟨⟨5, 0, false, [], p.text⟩, none, 0⟩ : aA) _ _ (by first | rfl | simp [actE]) _ rfl)
  have HRO1 : Hid (ActO lo L al cl (w.alloc (.cells #[.int .i64 5, .int .i64 0, .bool false, .slice none 0 0, .string p.text] 38))) := zz (HP.out.ro.keep actL (bA))
  go_wp2_with (at_builtin; refine wA (.tmp 84) (.tmp 90) 48 48 lo 38 iA (.agg #[.int .i64 0, .int .i64 0, .bool false, .slice none 0 0, .string ⟨#[]⟩]) 5 64 Tryz.underlying48 hA hA0 hA1 hA2 rfl (by decide) al L.length cl L HRO1.out.row (.slice (some ⟨w.heap.size, 0, none⟩) 1 1) [(⟨⟨5, 0, false, [], p.text⟩, none, 0⟩ : aA)] HSRC1.out (by simp; omega) (by simp; omega) rfl rfl rfl rfl ?_)
  intro a1 c1 w1 us1 hus hf hc hk
  have HUS1 := hus
  have HF1 := zz hf
  have HC1 : Hid (Ch (· ∈ bO al) w w1) := zz ((Ch.refl.alloc _).trans hc (fun i hi => .inl hi))
  have HK1 : Hid (∀ j ∈ bO a1, j ∈ bO al ∨ j = (w.alloc (.cells #[.int .i64 5, .int .i64 0, .bool false, .slice none 0 0, .string p.text] 38)).heap.size) := zz (fun j hj => by simpa using hk j hj)
  have HCA1 := zz hc
  clear hus hf hc hk
  have HP4 := zz ((HP.out.keep ((Below.refl _ _).alloc (Nat.le_refl _) (.cells #[.int .i64 5, .int .i64 0, .bool false, .slice none 0 0, .string p.text] 38))).push (x := ⟨⟨5, 0, false, [], p.text⟩, none, 0⟩) ⟨rfl, rfl, rfl⟩ HUS1.out HF1.out HCA1.out HK1.out)
  have ZC : Hid (Ch (fun k => k = B) w1 (((((w1.setCell ⟨B, 0, none⟩ (.int .i64 0)).setCell ⟨B, 1, none⟩ (.slice none 0 0)).setCell ⟨B, 2, none⟩ (.bool false)).setCell ⟨B, 3, none⟩ (.string ⟨#[]⟩)).setCell ⟨B, 4, none⟩ (.string ⟨#[]⟩))) := zz (by repeat (first | (with_reducible exact Ch.refl) | (with_reducible refine Ch.alloc ?_ _) | (with_reducible refine Ch.drew ?_) | (with_reducible refine Ch.setB ?_ _ _)))
  have ZP : Hid (PS B lo pz none 0 us1 a1 c1 (((((w1.setCell ⟨B, 0, none⟩ (.int .i64 0)).setCell ⟨B, 1, none⟩ (.slice none 0 0)).setCell ⟨B, 2, none⟩ (.bool false)).setCell ⟨B, 3, none⟩ (.string ⟨#[]⟩)).setCell ⟨B, 4, none⟩ (.string ⟨#[]⟩))) := zz (by
   have h4 := HP4.out
   have e_0 := h4.c0
   have e_1 := h4.c1
   have e_2 := h4.c2
   have e_3 := h4.c3
   have e_4 := h4.c4
   have ef := h4.fz
   refine h4.cells ZC.out ?_ ?_ ?_ ?_ ?_ ?_ (.inr ⟨rfl, rfl, rfl⟩)
   all_goals first | (intro o; simp [go_sem, ef]; done) | (simp [go_sem, e_0, e_1, e_2, e_3, e_4, pz]; done))
  have j_0 : w1.cell? ⟨B, 0, none⟩ = some (.int .i64 p.state) := HP4.out.c0
  have j_1 := HP4.out.c1
  have j_2 := HP4.out.c2
  have j_3 := HP4.out.c3
  have j_4 := HP4.out.c4
  have jf := HP4.out.fz
  go_wp2_with fail
  go_ret
  exact PR.push (p' := pz) (ap' := none) (cp' := 0) (w1 := w.alloc (.cells #[.int .i64 5, .int .i64 0, .bool false, .slice none 0 0, .string p.text] 38)) HP.out (x := ⟨⟨5, 0, false, [], p.text⟩, none, 0⟩) rfl HUS1.out HK1.out (by simp) ((HC1.out.mono (M := fun k => k = B ∨ k ∈ bO al) (fun i hi => .inl (.inr hi))).trans ZC.out (fun i hi => .inl (.inl hi))) (by rw [HR.out]) (by rw [HR.out]; try rfl) ZP.out (.inr rfl)
 have g7 : ((n : Int) == 7) = false := beq_eq_false_iff_ne.2 (by omega)
 by_cases h27 : n = 27
 case pos =>
  have HR : Hid (Gr = ({ p with state := 5 }, [])) := zz (by rw [← HGG.out]; exact os2 HN.out h27)
  have g27 : ((n : Int) == 27) = true := by subst h27; rfl
  clear h27
  go_enter Tryz.func48, Tryz.ntmps48
  go_wp2_with fail
  go_ret
  have hE := HE.out
  have hc : Ch (fun k => k = B) w (w.setCell ⟨B, 0, none⟩ (.int .i64 5)) := Ch.set1 _ _ _ _
  refine PR.cells (p' := { p with state := 5 }) (ap' := ap) (cp' := cp) HP.out hc (by rw [HR.out]) (by rw [HR.out]) (HP.out.cells hc ?_ ?_ ?_ ?_ ?_ ?_ (.inl ⟨rfl, rfl, rfl⟩)) (.inl rfl)
  all_goals first | (intro o; simp [go_sem, kf, klt]; done) | (simp [go_sem, k_0, k_1, k_2, k_3, k_4, klt, hE.1, hE.2.1, hE.2.2.1, hE.2.2.2]; done)
 have g27 : ((n : Int) == 27) = false := beq_eq_false_iff_ne.2 (by omega)
 by_cases h3 : (32 ≤ n ∧ n ≤ 126) ∧ p.text.size < 40
 case pos =>
  have HR : Hid (Gr = ({ p with text := p.text ++ ⟨#[b]⟩ }, [])) := zz (by rw [← HGG.out]; exact os3 HN.out h3)
  obtain ⟨⟨h31, h32⟩, h40⟩ := h3
  have g31 : (32 : Int) ≤ (n : Int) := by omega
  have g32 : (n : Int) ≤ 126 := by omega
  have g40 : (p.text.size : Int) < 40 := by omega
  have hbig : ¬ 9223372036854775807 < p.text.size + 1 := by omega
  go_enter Tryz.func48, Tryz.ntmps48
  go_upto_region 30 with fail
  have hcv : (convert 21 9 (.int .i32 n)).run Tryz.prog w = .ok (.string ⟨#[b]⟩) w := by
   rw [run_convert_int_string w 21 9 .i32 n (by rw [Tryz.underlying21]; rfl) Tryz.underlying9]
   rw [enc_low n (by omega), ← HN.out]
   simp
  have hw2 : IntKind.i32.wrap (n : Int) = n := IntWalk.i32_in _ ⟨by omega, by omega⟩
  go_wp2_with fail
  go_ret
  clear hcv hw2 hbig
  have hE := HE.out
  have hc : Ch (fun k => k = B) w (w.setCell ⟨B, 3, none⟩ (.string (p.text ++ ⟨#[b]⟩))) := Ch.set1 _ _ _ _
  refine PR.cells (p' := { p with text := p.text ++ ⟨#[b]⟩ }) (ap' := ap) (cp' := cp) HP.out hc (by rw [HR.out]) (by rw [HR.out]) (HP.out.cells hc ?_ ?_ ?_ ?_ ?_ ?_ (.inl ⟨rfl, rfl, rfl⟩)) (.inl rfl)
  all_goals first | (intro o; simp [go_sem, kf, klt]; done) | (simp [go_sem, k_0, k_1, k_2, k_3, k_4, klt, hE.1, hE.2.1, hE.2.2.1, hE.2.2.2]; done)
 have HR : Hid (Gr = (p, [])) := zz (by rw [← HGG.out]; exact os4 HN.out h7 h27 h3)
 have g3 : ¬ (((32 : Int) ≤ (n : Int) ∧ (n : Int) ≤ 126) ∧ (p.text.size : Int) < 40) := by omega
 go_enter Tryz.func48, Tryz.ntmps48
 go_wp2_with fail
 all_goals first
  | (exfalso; omega)
  | (go_ret; exact PR.cells (p' := p) (ap' := ap) (cp' := cp) HP.out Ch.refl (by rw [HR.out]) (by rw [HR.out]) HP.out (.inl rfl))
end
section
theorem PR.baseB {B lo : Nat} {R : PV × List AV} {ap al : Option Addr} {L : List aA} {w w1 w' : World} {e : Ending} (h : PR B lo R none L al w1 e w') (hc : Ch (fun k => k = B) w w1) : PR B lo R ap L al w e w' := by
 obtain ⟨ap', cp', L', al', cl', h1, h2, h3, h4, h5⟩ := h
 refine ⟨ap', cp', L', al', cl', h1, h2, h3, (hc.mono (M := fun k => k = B ∨ k ∈ bO ap ∨ k ∈ bO al) (fun i hi => .inl (.inl hi))).trans h4 (fun i hi => .inl ?_), fun k hk => ?_⟩
 ·rcases hi with hi | hi | hi
  ·exact .inl hi
  ·simp [bO] at hi
  ·exact .inr (.inr hi)
 ·have := hc.size
  rcases h5 k hk with h6 | h6
  ·rw [List.mem_append] at h6 ⊢
   rcases h6 with h6 | h6
   ·simp [bO] at h6
   ·exact .inl (.inr h6)
  ·exact .inr (by omega)
theorem Zp9 (B lo : Nat) (p : PV) (ap al : Option Addr) (cp cl : Nat) (L : List aA) (b : UInt8) (w : World) (h : PS B lo p ap cp L al cl w) (hL : L.length ≤ 1048576) (hlo : lo ≤ w.heap.size)
 (hs : p.state = 5) (hA : p.args = []) (hP : p.priv = false) (hU : p.utf = e0) (_hZ : p.text.size ≤ 40) :
 Calls Tryz.prog 48 #[.pointer (some ⟨B, 0, none⟩), .slice al L.length cl, .int .u8 b.toNat] w (PR B lo (qstep p b) ap L al w) := by
 obtain ⟨iA, hA, hA0, hA1, hA2⟩ := info_parts Tryz.infoAction
 rename_i hAA
 have HP := zz h
 have k_0 : w.cell? ⟨B, 0, none⟩ = some (.int .i64 5) := by rw [h.c0, hs]
 have k_1 : w.cell? ⟨B, 1, none⟩ = some (.slice ap 0 cp) := by rw [h.c1, hAA]; rfl
 have k_2 : w.cell? ⟨B, 2, none⟩ = some (.bool false) := by rw [h.c2, hP]
 have k_3 : w.cell? ⟨B, 3, none⟩ = some (.string p.text) := h.c3
 have k_4 : w.cell? ⟨B, 4, none⟩ = some (.string ⟨#[]⟩) := by rw [h.c4, hU]
 have kf := h.fz
 have klt := h.lt
 have h256 : b.toNat < 256 := b.toNat_lt
 have HE : Hid (p.state = 5 ∧ p.args = [] ∧ p.priv = false ∧ p.utf = e0) := zz ⟨hs, hAA, hP, hU⟩
 clear h hs hAA hP hU
 obtain ⟨Gr, hG⟩ := eX (qstep p b)
 have HGG := zz hG
 rw [hG]
 clear hG
 obtain ⟨n, hn⟩ := eX (b.toNat)
 rw [hn] at h256 ⊢
 have HN := zz hn
 clear hn
 by_cases h92 : n = 92
 case pos =>
  have HR : Hid (Gr = (pz, [⟨5, 0, false, [], p.text⟩])) := zz (by rw [← HGG.out]; exact qs1 HN.out h92)
  have g92 : ((n : Int) == 92) = true := by subst h92; rfl
  clear h92
  go_enter Tryz.func48, Tryz.ntmps48
  go_upto_region 35 with fail
  have HSRC1 : Hid (Src Tryz.prog 5 48 (.slice (some ⟨w.heap.size, 0, none⟩) 1 1) [(⟨⟨5, 0, false, [], p.text⟩, none, 0⟩ : aA)].length ([(⟨⟨5, 0, false, [], p.text⟩, none, 0⟩ : aA)].flatMap actE) (w.alloc (.cells #[.int .i64 5, .int .i64 0, .bool false, .slice none 0 0, .string p.text] 38))) := zz (Src.ofBox (enc := actE) Tryz.underlying48 (fun _ => rfl) Zd9 (⟨⟨5, 0, false, [], p.text⟩, none, 0⟩ : aA) _ _ (by first | rfl | simp [actE]) _ rfl)
  have HRO1 : Hid (ActO lo L al cl (w.alloc (.cells #[.int .i64 5, .int .i64 0, .bool false, .slice none 0 0, .string p.text] 38))) := zz (HP.out.ro.keep actL (bA))
  go_wp2_with (at_builtin; refine wA (.tmp 137) (.tmp 143) 48 48 lo 38 iA (.agg #[.int .i64 0, .int .i64 0, .bool false, .slice none 0 0, .string ⟨#[]⟩]) 5 64 Tryz.underlying48 hA hA0 hA1 hA2 rfl (by decide) al L.length cl L HRO1.out.row (.slice (some ⟨w.heap.size, 0, none⟩) 1 1) [(⟨⟨5, 0, false, [], p.text⟩, none, 0⟩ : aA)] HSRC1.out (by simp; omega) (by simp; omega) rfl rfl rfl rfl ?_)
  intro a1 c1 w1 us1 hus hf hc hk
  have HUS1 := hus
  have HF1 := zz hf
  have HC1 : Hid (Ch (· ∈ bO al) w w1) := zz ((Ch.refl.alloc _).trans hc (fun i hi => .inl hi))
  have HK1 : Hid (∀ j ∈ bO a1, j ∈ bO al ∨ j = (w.alloc (.cells #[.int .i64 5, .int .i64 0, .bool false, .slice none 0 0, .string p.text] 38)).heap.size) := zz (fun j hj => by simpa using hk j hj)
  have HCA1 := zz hc
  clear hus hf hc hk
  have HP4 := zz ((HP.out.keep ((Below.refl _ _).alloc (Nat.le_refl _) (.cells #[.int .i64 5, .int .i64 0, .bool false, .slice none 0 0, .string p.text] 38))).push (x := ⟨⟨5, 0, false, [], p.text⟩, none, 0⟩) ⟨rfl, rfl, rfl⟩ HUS1.out HF1.out HCA1.out HK1.out)
  have ZC : Hid (Ch (fun k => k = B) w1 (((((w1.setCell ⟨B, 0, none⟩ (.int .i64 0)).setCell ⟨B, 1, none⟩ (.slice none 0 0)).setCell ⟨B, 2, none⟩ (.bool false)).setCell ⟨B, 3, none⟩ (.string ⟨#[]⟩)).setCell ⟨B, 4, none⟩ (.string ⟨#[]⟩))) := zz (by repeat (first | (with_reducible exact Ch.refl) | (with_reducible refine Ch.alloc ?_ _) | (with_reducible refine Ch.drew ?_) | (with_reducible refine Ch.setB ?_ _ _)))
  have ZP : Hid (PS B lo pz none 0 us1 a1 c1 (((((w1.setCell ⟨B, 0, none⟩ (.int .i64 0)).setCell ⟨B, 1, none⟩ (.slice none 0 0)).setCell ⟨B, 2, none⟩ (.bool false)).setCell ⟨B, 3, none⟩ (.string ⟨#[]⟩)).setCell ⟨B, 4, none⟩ (.string ⟨#[]⟩))) := zz (by
   have h4 := HP4.out
   have e_0 := h4.c0
   have e_1 := h4.c1
   have e_2 := h4.c2
   have e_3 := h4.c3
   have e_4 := h4.c4
   have ef := h4.fz
   refine h4.cells ZC.out ?_ ?_ ?_ ?_ ?_ ?_ (.inr ⟨rfl, rfl, rfl⟩)
   all_goals first | (intro o; simp [go_sem, ef]; done) | (simp [go_sem, e_0, e_1, e_2, e_3, e_4, pz]; done))
  have j_0 : w1.cell? ⟨B, 0, none⟩ = some (.int .i64 p.state) := HP4.out.c0
  have j_1 := HP4.out.c1
  have j_2 := HP4.out.c2
  have j_3 := HP4.out.c3
  have j_4 := HP4.out.c4
  have jf := HP4.out.fz
  go_wp2_with fail
  go_ret
  exact PR.push (p' := pz) (ap' := none) (cp' := 0) (w1 := w.alloc (.cells #[.int .i64 5, .int .i64 0, .bool false, .slice none 0 0, .string p.text] 38)) HP.out (x := ⟨⟨5, 0, false, [], p.text⟩, none, 0⟩) rfl HUS1.out HK1.out (by simp) ((HC1.out.mono (M := fun k => k = B ∨ k ∈ bO al) (fun i hi => .inl (.inr hi))).trans ZC.out (fun i hi => .inl (.inl hi))) (by rw [HR.out]) (by rw [HR.out]; try rfl) ZP.out (.inr rfl)
 have g92 : ((n : Int) == 92) = false := beq_eq_false_iff_ne.2 (by omega)
 have ZC : Hid (Ch (fun k => k = B) w (((((w.setCell ⟨B, 0, none⟩ (.int .i64 1)).setCell ⟨B, 1, none⟩ (.slice none 0 0)).setCell ⟨B, 2, none⟩ (.bool false)).setCell ⟨B, 3, none⟩ (.string ⟨#[]⟩)).setCell ⟨B, 4, none⟩ (.string ⟨#[]⟩))) := zz (by repeat (first | (with_reducible exact Ch.refl) | (with_reducible refine Ch.alloc ?_ _) | (with_reducible refine Ch.drew ?_) | (with_reducible refine Ch.setB ?_ _ _)))
 have ZP : Hid (PS B lo (pst 1) none 0 L al cl (((((w.setCell ⟨B, 0, none⟩ (.int .i64 1)).setCell ⟨B, 1, none⟩ (.slice none 0 0)).setCell ⟨B, 2, none⟩ (.bool false)).setCell ⟨B, 3, none⟩ (.string ⟨#[]⟩)).setCell ⟨B, 4, none⟩ (.string ⟨#[]⟩))) := zz (by
  refine HP.out.cells ZC.out ?_ ?_ ?_ ?_ ?_ ?_ (.inr ⟨rfl, rfl, rfl⟩)
  all_goals first | (intro o; simp [go_sem, kf, klt]; done) | (simp [go_sem, k_0, k_1, k_2, k_3, k_4, klt, pst]; done))
 have hz9 := ZC.out.size
 have HCA : Hid (Calls Tryz.prog 48 #[.pointer (some ⟨B, 0, none⟩), .slice al L.length cl, .int .u8 n] (((((w.setCell ⟨B, 0, none⟩ (.int .i64 1)).setCell ⟨B, 1, none⟩ (.slice none 0 0)).setCell ⟨B, 2, none⟩ (.bool false)).setCell ⟨B, 3, none⟩ (.string ⟨#[]⟩)).setCell ⟨B, 4, none⟩ (.string ⟨#[]⟩)) (PR B lo Gr ap L al w)) := zz (by
  have h1 := (Zn6 B lo none al 0 cl L b _ ZP.out hL (by omega)).mono (R' := PR B lo (estep b) ap L al w) (fun e w' h => PR.baseB h ZC.out)
  rw [HN.out] at h1
  rw [← HGG.out, qs2 HN.out h92]
  exact h1)
 clear h92 hz9
 go_enter Tryz.func48, Tryz.ntmps48
 go_wp2_with fail
 refine HCA.out.mono ?_
 rintro e w5 ⟨ap', cp', L', al', cl', rfl, g2, g3, g4, g5⟩
 have HG2 := zz g2
 have HG3 := zz g3
 have HG4 := zz g4
 have HG5 := zz g5
 clear g2 g3 g4 g5
 go_wp2_with fail
 go_ret
 exact ⟨ap', cp', L', al', cl', rfl, HG2.out, HG3.out, HG4.out, HG5.out⟩
theorem parseG_c (B lo : Nat) (p : PV) (ap al : Option Addr) (cp cl : Nat) (L : List aA) (b : UInt8) (w : World) (h : PS B lo p ap cp L al cl w) (hL : L.length ≤ 1048576) (hlo : lo ≤ w.heap.size)
 (hs : p.state = 0) (hz : p = pz) :
 Calls Tryz.prog 48 #[.pointer (some ⟨B, 0, none⟩), .slice al L.length cl, .int .u8 b.toNat] w (PR B lo (gstep b) ap L al w) := by
 have HCA := zz ((by rw [hz] at h; exact Zz5 B lo ap al cp cl L b w h hL hlo : Calls Tryz.prog 88 #[.pointer (some ⟨B, 0, none⟩), .slice al L.length cl, .int .u8 b.toNat] w (PR B lo (gstep b) ap L al w)))
 have k_0 : w.cell? ⟨B, 0, none⟩ = some (.int .i64 0) := by rw [h.c0, hs]
 have kf := h.fz
 have klt := h.lt
 skip
 clear h hs hz
 go_enter Tryz.func48, Tryz.ntmps48
 go_wp2_with fail
 refine HCA.out.mono ?_
 rintro e w5 ⟨ap', cp', L', al', cl', rfl, g2, g3, g4, g5⟩
 have HG2 := zz g2
 have HG3 := zz g3
 have HG4 := zz g4
 have HG5 := zz g5
 clear g2 g3 g4 g5
 go_wp2_with fail
 go_ret
 exact ⟨ap', cp', L', al', cl', rfl, HG2.out, HG3.out, HG4.out, HG5.out⟩
theorem parseC_c (B lo : Nat) (p : PV) (ap al : Option Addr) (cp cl : Nat) (L : List aA) (b : UInt8) (w : World) (h : PS B lo p ap cp L al cl w) (hL : L.length ≤ 1048576) (hlo : lo ≤ w.heap.size)
 (hs : p.state = 2) (hA : argsB p.args = true) (hT : p.text = e0) (hU : p.utf = e0) :
 Calls Tryz.prog 48 #[.pointer (some ⟨B, 0, none⟩), .slice al L.length cl, .int .u8 b.toNat] w (PR B lo (cstep p b) ap L al w) := by
 have HCA := zz (csi_c B lo p ap al cp cl L b w h hL hlo hs hA hT hU)
 have k_0 : w.cell? ⟨B, 0, none⟩ = some (.int .i64 2) := by rw [h.c0, hs]
 have kf := h.fz
 have klt := h.lt
 skip
 clear h hs hA hT hU
 go_enter Tryz.func48, Tryz.ntmps48
 go_wp2_with fail
 refine HCA.out.mono ?_
 rintro e w5 ⟨ap', cp', L', al', cl', rfl, g2, g3, g4, g5⟩
 have HG2 := zz g2
 have HG3 := zz g3
 have HG4 := zz g4
 have HG5 := zz g5
 clear g2 g3 g4 g5
 go_wp2_with fail
 go_ret
 exact ⟨ap', cp', L', al', cl', rfl, HG2.out, HG3.out, HG4.out, HG5.out⟩
theorem parseU_c (B lo : Nat) (p : PV) (ap al : Option Addr) (cp cl : Nat) (L : List aA) (b : UInt8) (w : World) (h : PS B lo p ap cp L al cl w) (hL : L.length ≤ 1048575) (hlo : lo ≤ w.heap.size)
 (hs : p.state = 6) (hA : p.args = []) (hP : p.priv = false) (hT : p.text = e0) (hU : begB p.utf.data.toList = true) (hUT : UT w) (hB1 : B ≠ 0) (hB2 : B ≠ 1) :
 Calls Tryz.prog 48 #[.pointer (some ⟨B, 0, none⟩), .slice al L.length cl, .int .u8 b.toNat] w (PR B lo (ustep p b) ap L al w) := by
 have HCA := zz (inRune_c B lo p ap al cp cl L b w h hL hlo hs hA hP hT hU hUT hB1 hB2)
 have k_0 : w.cell? ⟨B, 0, none⟩ = some (.int .i64 6) := by rw [h.c0, hs]
 have kf := h.fz
 have klt := h.lt
 skip
 clear h hs hA hP hT hU hUT hB1 hB2
 go_enter Tryz.func48, Tryz.ntmps48
 go_wp2_with fail
 refine HCA.out.mono ?_
 rintro e w5 ⟨ap', cp', L', al', cl', rfl, g2, g3, g4, g5⟩
 have HG2 := zz g2
 have HG3 := zz g3
 have HG4 := zz g4
 have HG5 := zz g5
 clear g2 g3 g4 g5
 go_wp2_with fail
 go_ret
 exact ⟨ap', cp', L', al', cl', rfl, HG2.out, HG3.out, HG4.out, HG5.out⟩
theorem Zx5 {s : ByteArray} (h : titB s = true) : s.size ≤ 40 := by
 rw [Zw1, Bool.and_eq_true, decide_eq_true_eq] at h
 exact h.1
theorem Yi1 (B lo : Nat) (p : PV) (ap al : Option Addr) (cp cl : Nat) (L : List aA) (b : UInt8) (w : World) (h : PS B lo p ap cp L al cl w) (hL : L.length ≤ 1048575) (hlo : lo ≤ w.heap.size)
 (ok : PvOK p) (hUT : UT w) (hB1 : B ≠ 0) (hB2 : B ≠ 1) :
 Calls Tryz.prog 48 #[.pointer (some ⟨B, 0, none⟩), .slice al L.length cl, .int .u8 b.toNat] w (PR B lo (pstep p b) ap L al w) := by
 obtain ⟨k1, k2, k3, k4, k5, k6, k7⟩ := ok
 have hL' : L.length ≤ 1048576 := by omega
 unfold pstep
 by_cases s0 : p.state = 0
 ·rw [if_pos s0]
  refine parseG_c B lo p ap al cp cl L b w h hL' hlo s0 ?_
  have a1 := k3 (by omega)
  have a2 := k5 (by omega) (by omega)
  have a3 := k7 (by omega)
  obtain ⟨s, a, v, t, u⟩ := p
  simp only at s0 a1 a2 a3
  obtain ⟨a1, a4⟩ := a1
  subst s0 a1 a2 a3 a4
  rfl
 rw [if_neg s0]
 by_cases s1 : p.state = 1
 ·rw [if_pos s1]
  have hz : p = pst 1 := by
   have a1 := k3 (by omega)
   have a2 := k5 (by omega) (by omega)
   have a3 := k7 (by omega)
   obtain ⟨s, a, v, t, u⟩ := p
   simp only at s1 a1 a2 a3
   obtain ⟨a1, a4⟩ := a1
   subst s1 a1 a2 a3 a4
   rfl
  rw [hz] at h
  exact Zn6 B lo ap al cp cl L b w h hL' hlo
 rw [if_neg s1]
 by_cases s2 : p.state = 2
 ·rw [if_pos s2]
  exact parseC_c B lo p ap al cp cl L b w h hL' hlo s2 (k2 s2) (k5 (by omega) (by omega)) (k7 (by omega))
 rw [if_neg s2]
 by_cases s3 : p.state = 3
 ·rw [if_pos s3]
  exact Zv4 B lo p ap al cp cl L b w h hL' hlo s3 (k3 (by omega)).1 (k3 (by omega)).2 (k5 (by omega) (by omega)) (k7 (by omega))
 rw [if_neg s3]
 by_cases s4 : p.state = 4
 ·rw [if_pos s4]
  exact Ya2 B lo p ap al cp cl L b w h hL' hlo s4 (k3 (by omega)).1 (k3 (by omega)).2 (k7 (by omega)) (Zx5 (k4 (by omega)))
 rw [if_neg s4]
 by_cases s5 : p.state = 5
 ·rw [if_pos s5]
  exact Zp9 B lo p ap al cp cl L b w h hL' hlo s5 (k3 (by omega)).1 (k3 (by omega)).2 (k7 (by omega)) (Zx5 (k4 (by omega)))
 rw [if_neg s5]
 exact parseU_c B lo p ap al cp cl L b w h hL hlo (by omega) (k3 (by omega)).1 (k3 (by omega)).2 (k5 (by omega) (by omega)) (k6 (by omega)) hUT hB1 hB2
end
section
theorem Zi9 : ∀ (x : Int), ∀ u ∈ iE x, u.oneCell' = true := fun x u hu => by simp [iE] at hu; subst hu; rfl
theorem Zk3 (w : World) (B : Nat) (hB : B ≤ w.heap.size) : F_ iE 3 1 B (.slice (some ⟨w.heap.size, 0, none⟩) 0 0) [] (w.alloc (.cells #[] 3)) :=
 F_.of_own (World.ownsRow_made (base := B) w #[] 0 hB (by decide) rfl) rfl rfl
theorem cloneI_c (a : Option Addr) (ca : Nat) (xs : List Int) (w : World) (ha : Sl iE 1 w a xs) (la : xs.length ≤ 1048576) :
 Calls Tryz.prog 87 #[.slice a xs.length ca] w (Ze0 iE 3 1 w xs) := by
 obtain ⟨i0, hi, hz0, hz1, hz2⟩ := info_parts Tryz.infoInt
 cases a with
 | none =>
   obtain rfl : xs = [] := by
    rcases ha with h | ⟨b, o, h, _⟩
    ·exact h
    ·cases h
   clear ha
   have hnil : ∀ w, (binOp .eql 36 (.slice none 0 ca) (.slice none 0 0)).run Tryz.prog w = .ok (.bool true) w := fun w => Lib.run_eql_slice_nil w _ _ _ _ _ _ _ Tryz.underlying36
   go_enter Tryz.func87, Tryz.ntmps87
   go_wp2_with fail
   go_ret
   exact ⟨_, rfl, (Fr.nil _ _ _ _ 0 _).1, Below.refl _ _⟩
 | some p =>
   have HA := zz (ha.alloc (.cells #[] 3))
   have h0 := (Zk3 w w.heap.size (Nat.le_refl _)).here
   simp only [World.size_alloc] at h0
   have HF := zz h0
   clear h0
   have hnil : ∀ w, (binOp .eql 36 (.slice (some p) xs.length ca) (.slice none 0 0)).run Tryz.prog w = .ok (.bool false) w := fun w => Lib.run_eql_slice_nil w _ _ _ _ _ _ _ Tryz.underlying36
   go_enter Tryz.func87, Tryz.ntmps87
   go_wp2_with (first
    | (skip
       at_builtin
       refine wF rfl (.tmp 5) (.tmp 6) 36 36 rfl (w.heap.size) (w.heap.size + 1) 3 i0 (.int .i64 0) 1 8 Tryz.underlying36 hi hz0 hz1 hz2 rfl (by decide) (.slice (some ⟨w.heap.size, 0, none⟩) 0 0) ([]) rfl (HF.out) _ (xs) rfl (Src.ofSl (enc := iE) (sz := 1) (xs := xs) Tryz.underlying36 (fun _ => rfl) Zi9 HA.out ca) (by (try simp) <;> (try omega)) (by (try simp) <;> (try omega)) ?_
       intro a1 c1 w1 L1 hL1 hf1 hm1
       skip))
   go_ret
   obtain rfl : L1 = xs := by simpa using hL1.out
   exact ⟨_, rfl, hf1.1, ((Below.refl w.heap.size w).alloc (Nat.le_refl _) (.cells #[] 3)).trans (hm1.below (by omega) (by simp))⟩
def ParR (p : PV) (w : World) (e : Ending) (w' : World) : Prop :=
 ∃ a c, e = .returned (.agg #[.int .i64 p.state, .slice a p.args.length c, .bool p.priv, .string p.text, .string p.utf]) ∧ Fr iE 3 1 w.heap.size w'.heap.size (.slice a p.args.length c) p.args w' ∧ Below w.heap.size w w'
theorem Zh6 (ap : Option Addr) (cp : Nat) (p : PV) (w : World) (ha : Sl iE 1 w ap p.args) (hl : p.args.length ≤ 1048576) :
 Calls Tryz.prog 45 #[.agg #[.int .i64 p.state, .slice ap p.args.length cp, .bool p.priv, .string p.text, .string p.utf]] w (ParR p w) := by
 go_enter Tryz.func45, Tryz.ntmps45
 go_wp2_with fail
 refine (cloneI_c ap cp p.args _ ((ha.alloc _).alloc _) hl).mono ?_
 rintro e w1 ⟨v, rfl, hf, hb⟩
 obtain ⟨a1, c1, rfl, _, _⟩ := id hf
 have HF := zz hf.here
 have HB := zz hb
 have hz := hb.size
 simp only [World.size_alloc] at hz
 have hl1 : w.heap.size + 1 < w1.heap.size := by omega
 have hl0 : w.heap.size < w1.heap.size := by omega
 have q0_0 : w1.cell? ⟨w.heap.size, 0, none⟩ = some (.int .i64 p.state) := (hb.cell (p := ⟨w.heap.size, 0, none⟩) (by show w.heap.size < _; (try simp) <;> omega)).trans (by simp [go_sem])
 have f0_0 : w1.frozen? ⟨w.heap.size, 0, none⟩ = false := (hb.frozen (p := ⟨w.heap.size, 0, none⟩) (by show w.heap.size < _; (try simp) <;> omega)).trans (by simp [go_sem])
 have q0_1 : w1.cell? ⟨w.heap.size, 1, none⟩ = some (.slice ap p.args.length cp) := (hb.cell (p := ⟨w.heap.size, 1, none⟩) (by show w.heap.size < _; (try simp) <;> omega)).trans (by simp [go_sem])
 have f0_1 : w1.frozen? ⟨w.heap.size, 1, none⟩ = false := (hb.frozen (p := ⟨w.heap.size, 1, none⟩) (by show w.heap.size < _; (try simp) <;> omega)).trans (by simp [go_sem])
 have q0_2 : w1.cell? ⟨w.heap.size, 2, none⟩ = some (.bool p.priv) := (hb.cell (p := ⟨w.heap.size, 2, none⟩) (by show w.heap.size < _; (try simp) <;> omega)).trans (by simp [go_sem])
 have f0_2 : w1.frozen? ⟨w.heap.size, 2, none⟩ = false := (hb.frozen (p := ⟨w.heap.size, 2, none⟩) (by show w.heap.size < _; (try simp) <;> omega)).trans (by simp [go_sem])
 have q0_3 : w1.cell? ⟨w.heap.size, 3, none⟩ = some (.string p.text) := (hb.cell (p := ⟨w.heap.size, 3, none⟩) (by show w.heap.size < _; (try simp) <;> omega)).trans (by simp [go_sem])
 have f0_3 : w1.frozen? ⟨w.heap.size, 3, none⟩ = false := (hb.frozen (p := ⟨w.heap.size, 3, none⟩) (by show w.heap.size < _; (try simp) <;> omega)).trans (by simp [go_sem])
 have q0_4 : w1.cell? ⟨w.heap.size, 4, none⟩ = some (.string p.utf) := (hb.cell (p := ⟨w.heap.size, 4, none⟩) (by show w.heap.size < _; (try simp) <;> omega)).trans (by simp [go_sem])
 have f0_4 : w1.frozen? ⟨w.heap.size, 4, none⟩ = false := (hb.frozen (p := ⟨w.heap.size, 4, none⟩) (by show w.heap.size < _; (try simp) <;> omega)).trans (by simp [go_sem])
 have q1_0 : w1.cell? ⟨w.heap.size + 1, 0, none⟩ = some (.int .i64 0) := (hb.cell (p := ⟨w.heap.size + 1, 0, none⟩) (by show w.heap.size + 1 < _; (try simp) <;> omega)).trans (by simp [go_sem])
 have f1_0 : w1.frozen? ⟨w.heap.size + 1, 0, none⟩ = false := (hb.frozen (p := ⟨w.heap.size + 1, 0, none⟩) (by show w.heap.size + 1 < _; (try simp) <;> omega)).trans (by simp [go_sem])
 have q1_1 : w1.cell? ⟨w.heap.size + 1, 1, none⟩ = some (.slice none 0 0) := (hb.cell (p := ⟨w.heap.size + 1, 1, none⟩) (by show w.heap.size + 1 < _; (try simp) <;> omega)).trans (by simp [go_sem])
 have f1_1 : w1.frozen? ⟨w.heap.size + 1, 1, none⟩ = false := (hb.frozen (p := ⟨w.heap.size + 1, 1, none⟩) (by show w.heap.size + 1 < _; (try simp) <;> omega)).trans (by simp [go_sem])
 have q1_2 : w1.cell? ⟨w.heap.size + 1, 2, none⟩ = some (.bool false) := (hb.cell (p := ⟨w.heap.size + 1, 2, none⟩) (by show w.heap.size + 1 < _; (try simp) <;> omega)).trans (by simp [go_sem])
 have f1_2 : w1.frozen? ⟨w.heap.size + 1, 2, none⟩ = false := (hb.frozen (p := ⟨w.heap.size + 1, 2, none⟩) (by show w.heap.size + 1 < _; (try simp) <;> omega)).trans (by simp [go_sem])
 have q1_3 : w1.cell? ⟨w.heap.size + 1, 3, none⟩ = some (.string ⟨#[]⟩) := (hb.cell (p := ⟨w.heap.size + 1, 3, none⟩) (by show w.heap.size + 1 < _; (try simp) <;> omega)).trans (by simp [go_sem])
 have f1_3 : w1.frozen? ⟨w.heap.size + 1, 3, none⟩ = false := (hb.frozen (p := ⟨w.heap.size + 1, 3, none⟩) (by show w.heap.size + 1 < _; (try simp) <;> omega)).trans (by simp [go_sem])
 have q1_4 : w1.cell? ⟨w.heap.size + 1, 4, none⟩ = some (.string ⟨#[]⟩) := (hb.cell (p := ⟨w.heap.size + 1, 4, none⟩) (by show w.heap.size + 1 < _; (try simp) <;> omega)).trans (by simp [go_sem])
 have f1_4 : w1.frozen? ⟨w.heap.size + 1, 4, none⟩ = false := (hb.frozen (p := ⟨w.heap.size + 1, 4, none⟩) (by show w.heap.size + 1 < _; (try simp) <;> omega)).trans (by simp [go_sem])
 clear hf hb hz ha
 go_wp2_with fail
 refine bodyPost_ret (v := .agg #[.int .i64 p.state, .slice a1 p.args.length c1, .bool p.priv, .string p.text, .string p.utf]) (by simp [results, Tryz.results45, go_sem, q0_0, q0_1, q0_2, q0_3, q0_4, q1_0, q1_1, q1_2, q1_3, q1_4, hl0, hl1]) rfl ?_
 have hc : ∀ x1 y0 y1 y2 y3 y4, Ch (fun k => k = w.heap.size ∨ k = w.heap.size + 1) w1 ((((((w1.setCell ⟨w.heap.size, 1, none⟩ x1).setCell ⟨w.heap.size + 1, 0, none⟩ y0).setCell ⟨w.heap.size + 1, 1, none⟩ y1).setCell ⟨w.heap.size + 1, 2, none⟩ y2).setCell ⟨w.heap.size + 1, 3, none⟩ y3).setCell ⟨w.heap.size + 1, 4, none⟩ y4) := fun x1 y0 y1 y2 y3 y4 =>
  (((((Ch.refl.setCell (M := fun k => k = w.heap.size ∨ k = w.heap.size + 1) (p := ⟨w.heap.size, 1, none⟩) (.inl (.inl rfl)) x1).setCell (p := ⟨w.heap.size + 1, 0, none⟩) (.inl (.inr rfl)) y0).setCell (p := ⟨w.heap.size + 1, 1, none⟩) (.inl (.inr rfl)) y1).setCell (p := ⟨w.heap.size + 1, 2, none⟩) (.inl (.inr rfl)) y2).setCell (p := ⟨w.heap.size + 1, 3, none⟩) (.inl (.inr rfl)) y3).setCell (p := ⟨w.heap.size + 1, 4, none⟩) (.inl (.inr rfl)) y4
 have hF := HF.out
 have hB := HB.out
 have hcx := hc (.slice a1 p.args.length c1) (.int .i64 p.state) (.slice a1 p.args.length c1) (.bool p.priv) (.string p.text) (.string p.utf)
 refine ⟨a1, c1, rfl, ?_, ?_⟩
 ·have h1 := Fr.ch hF hcx (fun k hk h => by
   have := (Fr.blks hF k hk).1
   simp only [World.size_alloc] at this
   omega)
  exact h1.mono (by simp only [World.size_alloc]; omega) (Nat.le_refl _)
 ·exact (((Below.refl w.heap.size w).alloc (Nat.le_refl _) _).alloc (by simp) _ |>.trans (hB.mono (by simp only [World.size_alloc]; omega))).trans (hcx.below (by omega) (fun k h => by omega))
end
section
def Zg3 (p : PV) (l : List UInt8) : (PV × List AV) × Int :=
 if 65536 < l.length then ((pz, []), 2) else if pvB p = false then ((pz, []), 1) else (prun p l, 0)
def OutR (G : (PV × List AV) × Int) (w : World) (e : Ending) (w' : World) : Prop :=
 ∃ (ap : Option Addr) (cp : Nat) (al : Option Addr) (cl : Nat) (L : List aA), e = .returned (.tuple #[.agg #[.int .i64 G.1.1.state, .slice ap G.1.1.args.length cp, .bool G.1.1.priv, .string G.1.1.text, .string G.1.1.utf], .slice al L.length cl, .int .i64 G.2]) ∧ Fr iE 3 1 w.heap.size w'.heap.size (.slice ap G.1.1.args.length cp) G.1.1.args w' ∧ ActO w.heap.size L al cl w' ∧ (∀ k ∈ bO ap, k ∉ acB al L) ∧ L.map (·.A) = G.1.2 ∧ Below w.heap.size w w'
theorem OutR.zero {G : (PV × List AV) × Int} {c : Int} {w w' : World} (hG : G = ((pz, []), c)) (hb : Below w.heap.size w w') : OutR G w (.returned (.tuple #[.agg #[.int .i64 0, .slice none 0 0, .bool false, .string ⟨#[]⟩, .string ⟨#[]⟩], .slice none 0 0, .int .i64 c])) w' := by
 subst hG
 exact ⟨none, 0, none, 0, [], rfl, Fr.nil _ _ _ _ _ _, RO.nil, by simp [bO], rfl, hb⟩
theorem PS.box {B lo : Nat} {p : PV} {ap : Option Addr} {cp : Nat} {w : World} (hlt : B < w.heap.size) (ha : Fr iE 3 1 lo w.heap.size (.slice ap p.args.length cp) p.args w)
 (c0 : w.cell? ⟨B, 0, none⟩ = some (.int .i64 p.state)) (c1 : w.cell? ⟨B, 1, none⟩ = some (.slice ap p.args.length cp)) (c2 : w.cell? ⟨B, 2, none⟩ = some (.bool p.priv))
 (c3 : w.cell? ⟨B, 3, none⟩ = some (.string p.text)) (c4 : w.cell? ⟨B, 4, none⟩ = some (.string p.utf)) (fz : ∀ o, w.frozen? ⟨B, o, none⟩ = false) (hn : ∀ k ∈ bO ap, k ≠ B) : PS B lo p ap cp [] none 0 w :=
 ⟨c0, c1, c2, c3, c4, fz, hlt, ha, RO.nil, fun h => by
   rcases List.mem_append.1 h with h | h
   ·exact hn _ h rfl
   ·simp [acB, bO, roB] at h, fun k _ h => by simp [acB, bO, roB] at h⟩
theorem Zl7 (p : PV) (l : List UInt8) (b : UInt8) : prun p (l ++ [b]) = ((pstep (prun p l).1 b).1, (prun p l).2 ++ (pstep (prun p l).1 b).2) := by
 rw [Zd8]
 simp [prun]
theorem Zp1 (p : PV) (b : UInt8) : (pstep p b).2.length ≤ 2 := by
 have hg : (gstep b).2.length ≤ 1 := by unfold gstep; (repeat' split) <;> simp
 have he : (estep b).2.length ≤ 1 := by unfold estep; (repeat' split) <;> simp
 have hc : (cstep p b).2.length ≤ 1 := by unfold cstep; (repeat' split) <;> simp
 have hs : (sstep p b).2.length ≤ 1 := by unfold sstep; (repeat' split) <;> simp
 have ho : (ostep p b).2.length ≤ 1 := by unfold ostep; (repeat' split) <;> simp
 have hq : (qstep p b).2.length ≤ 1 := by unfold qstep; (repeat' split) <;> first | exact he | simp
 have hu : (ustep p b).2.length ≤ 2 := by unfold ustep; (repeat' split) <;> simp <;> omega
 unfold pstep
 (repeat' split) <;> omega
theorem Zv6 (l : List UInt8) (p : PV) : (prun p l).2.length ≤ 2 * l.length := by
 induction l generalizing p with
 | nil => simp [prun]
 | cons b l ih =>
   have h1 := Zp1 p b
   have h2 := ih (pstep p b).1
   simp only [prun, List.length_append, List.length_cons]
   omega
end
section
theorem Zj3 (ap : Option Addr) (cp : Nat) (p : PV) (a : Option Addr) (ca : Nat) (l : List UInt8) (w : World) (ha : Sl iE 1 w ap p.args) (hb : Sl yE 1 w a l) (hl : l.length ≤ 1048576) (hZ : PvSz p 1048576) (hUT : UT w) :
 Calls Tryz.prog 21 #[.agg #[.int .i64 p.state, .slice ap p.args.length cp, .bool p.priv, .string p.text, .string p.utf], .slice a l.length ca] w (OutR (Zg3 p l) w) := by
 by_cases h1 : 65536 < l.length
 case pos =>
  have HR : Hid (Zg3 p l = ((pz, []), 2)) := zz (by unfold Zg3; rw [if_pos h1])
  have HL : Hid (longP (l.length : Int) = true) := zz (by simp [longP]; omega)
  clear h1 ha hb hUT hZ
  obtain ⟨Gr, hG⟩ := eX (Zg3 p l)
  rw [hG] at HR ⊢
  clear hG
  go_enter Tryz.func21, Tryz.ntmps21
  go_wp2_with fail
  refine Calls.mono (Zl8 _ (l.length) _ _ ?_ ?_) ?_
  ·simp
  ·simp [go_sem]
  rw [HL.out]
  rintro e w1 ⟨rfl, rfl⟩
  go_wp2_with fail
  refine bodyPost_ret (v := .tuple #[.agg #[.int .i64 0, .slice none 0 0, .bool false, .string ⟨#[]⟩, .string ⟨#[]⟩], .slice none 0 0, .int .i64 2]) (by simp [results, Tryz.results21, go_sem]) rfl ?_
  refine OutR.zero HR.out ?_
  repeat (first | (with_reducible exact Below.refl _ _) | (with_reducible refine Below.setCell ?_ ?_ _; rotate_left; ((try simp) <;> (try omega))) | (with_reducible refine Below.alloc ?_ ?_ _; rotate_left; ((try simp) <;> (try omega))))
 have HL : Hid (longP (l.length : Int) = false) := zz (by simp [longP]; omega)
 have hl65 : l.length ≤ 65536 := by omega
 obtain ⟨Gr, hG⟩ := eX (Zg3 p l)
 have HGG := zz hG
 rw [hG]
 clear hG
 go_enter Tryz.func21, Tryz.ntmps21
 go_wp2_with fail
 refine Calls.mono (Zl8 _ (l.length) _ _ ?_ ?_) ?_
 ·simp
 ·simp [go_sem]
 rw [HL.out]
 rintro e w1 ⟨rfl, rfl⟩
 go_wp2_with fail
 refine (Zn5 ap cp p _ (((ha.alloc _).alloc _).alloc _) hZ).mono ?_
 rintro e w1 ⟨rfl, hb1⟩
 have HB1 := zz hb1
 have hz1 := hb1.size
 simp only [World.size_alloc] at hz1
 have hl1 : w.heap.size + 1 < w1.heap.size := by omega
 have hl0 : w.heap.size < w1.heap.size := by omega
 have qa0_0 : w1.cell? ⟨w.heap.size, 0, none⟩ = some (.int .i64 p.state) := (hb1.cell (p := ⟨w.heap.size, 0, none⟩) (by show w.heap.size < _; (try simp) <;> omega)).trans (by simp [go_sem])
 have qa0_1 : w1.cell? ⟨w.heap.size, 1, none⟩ = some (.slice ap p.args.length cp) := (hb1.cell (p := ⟨w.heap.size, 1, none⟩) (by show w.heap.size < _; (try simp) <;> omega)).trans (by simp [go_sem])
 have qa0_2 : w1.cell? ⟨w.heap.size, 2, none⟩ = some (.bool p.priv) := (hb1.cell (p := ⟨w.heap.size, 2, none⟩) (by show w.heap.size < _; (try simp) <;> omega)).trans (by simp [go_sem])
 have qa0_3 : w1.cell? ⟨w.heap.size, 3, none⟩ = some (.string p.text) := (hb1.cell (p := ⟨w.heap.size, 3, none⟩) (by show w.heap.size < _; (try simp) <;> omega)).trans (by simp [go_sem])
 have qa0_4 : w1.cell? ⟨w.heap.size, 4, none⟩ = some (.string p.utf) := (hb1.cell (p := ⟨w.heap.size, 4, none⟩) (by show w.heap.size < _; (try simp) <;> omega)).trans (by simp [go_sem])
 have fa0 : ∀ o, w1.frozen? ⟨w.heap.size, o, none⟩ = false := fun o => (hb1.frozen (p := ⟨w.heap.size, o, none⟩) (by show w.heap.size < _; (try simp) <;> omega)).trans (by simp [go_sem])
 have qa1_0 : w1.cell? ⟨w.heap.size + 1, 0, none⟩ = some (.int .i64 0) := (hb1.cell (p := ⟨w.heap.size + 1, 0, none⟩) (by show w.heap.size + 1 < _; (try simp) <;> omega)).trans (by simp [go_sem])
 have qa1_1 : w1.cell? ⟨w.heap.size + 1, 1, none⟩ = some (.slice none 0 0) := (hb1.cell (p := ⟨w.heap.size + 1, 1, none⟩) (by show w.heap.size + 1 < _; (try simp) <;> omega)).trans (by simp [go_sem])
 have qa1_2 : w1.cell? ⟨w.heap.size + 1, 2, none⟩ = some (.bool false) := (hb1.cell (p := ⟨w.heap.size + 1, 2, none⟩) (by show w.heap.size + 1 < _; (try simp) <;> omega)).trans (by simp [go_sem])
 have qa1_3 : w1.cell? ⟨w.heap.size + 1, 3, none⟩ = some (.string ⟨#[]⟩) := (hb1.cell (p := ⟨w.heap.size + 1, 3, none⟩) (by show w.heap.size + 1 < _; (try simp) <;> omega)).trans (by simp [go_sem])
 have qa1_4 : w1.cell? ⟨w.heap.size + 1, 4, none⟩ = some (.string ⟨#[]⟩) := (hb1.cell (p := ⟨w.heap.size + 1, 4, none⟩) (by show w.heap.size + 1 < _; (try simp) <;> omega)).trans (by simp [go_sem])
 have fa1 : ∀ o, w1.frozen? ⟨w.heap.size + 1, o, none⟩ = false := fun o => (hb1.frozen (p := ⟨w.heap.size + 1, o, none⟩) (by show w.heap.size + 1 < _; (try simp) <;> omega)).trans (by simp [go_sem])
 have hbw : Below w.heap.size w w1 := ((((Below.refl w.heap.size w).alloc (Nat.le_refl _) _).alloc (by simp) _).alloc (by simp; omega) _).trans (hb1.mono (by simp only [World.size_alloc]; omega))
 have HBW := zz hbw
 have HBSlt : Hid (l.length = 0 ∨ ∀ j ∈ bO a, j < w.heap.size) := zz (by
  rcases hb with h | ⟨b, o, h, h2, _⟩
  ·left; rw [h]; rfl
  ·right; intro j hj; rw [h] at hj; simp [bO] at hj; omega)
 have HA1 := zz (ha.keep hbw)
 have HBS1 := zz (hb.keep hbw)
 have HUT1 := zz (hUT.keep hbw)
 clear hb1 hbw
 obtain ⟨c, hc⟩ := eX (pvB p)
 have HC := zz hc
 rw [hc]
 clear hc
 cases c
 case false =>
  have HR : Hid (Gr = ((pz, []), 1)) := zz (by rw [← HGG.out]; unfold Zg3; rw [if_neg h1, if_pos HC.out])
  clear ha hUT
  go_wp2_with fail
  refine bodyPost_ret (v := .tuple #[.agg #[.int .i64 0, .slice none 0 0, .bool false, .string ⟨#[]⟩, .string ⟨#[]⟩], .slice none 0 0, .int .i64 1]) (by simp [results, Tryz.results21, go_sem, qa1_0, qa1_1, qa1_2, qa1_3, qa1_4, hl1]) rfl ?_
  refine OutR.zero HR.out ?_
  refine HBW.out.trans ?_
  repeat (first | (with_reducible exact Below.refl _ _) | (with_reducible refine Below.setCell ?_ ?_ _; rotate_left; ((try simp) <;> (try omega))) | (with_reducible refine Below.alloc ?_ ?_ _; rotate_left; ((try simp) <;> (try omega))))
 have HR : Hid (Gr = (prun p l, 0)) := zz (by rw [← HGG.out]; unfold Zg3; rw [if_neg h1, if_neg (by rw [HC.out]; simp)])
 have HOK : Hid (PvOK p) := zz (Zx3.1 HC.out)
 clear h1 hb
 clear ha hUT
 go_wp2_with fail
 refine (Zh6 ap cp p _ HA1.out hZ.args).mono ?_
 rintro e w3 ⟨a3, c3, rfl, hf3, hb3⟩
 have HF3 := zz hf3
 have HB3 := zz hb3
 have hz3 := hb3.size
 have hl31 : w.heap.size + 1 < w3.heap.size := by omega
 have r0 := kC hb3 hl1 qa1_0
 have r1 := kC hb3 hl1 qa1_1
 have r2 := kC hb3 hl1 qa1_2
 have r3 := kC hb3 hl1 qa1_3
 have r4 := kC hb3 hl1 qa1_4
 have rf := fun o => kF hb3 hl1 (fa1 o)
 have HBW3 : Hid (Below w.heap.size w w3) := zz (HBW.out.trans (hb3.mono (by omega)))
 clear hf3 hb3
 have ZP : Hid (PS w3.heap.size (w.heap.size + 2) p a3 c3 [] none 0 (w3.alloc (.cells #[.int .i64 p.state, .slice a3 p.args.length c3, .bool p.priv, .string p.text, .string p.utf] 42))) := zz (by
  have hc : Ch (fun k => k = w3.heap.size) w3 (w3.alloc (.cells #[.int .i64 p.state, .slice a3 p.args.length c3, .bool p.priv, .string p.text, .string p.utf] 42)) := by
   repeat (first | (with_reducible exact Ch.refl) | (with_reducible refine Ch.setB ?_ _ _) | (with_reducible refine Ch.alloc ?_ _))
  have hF := HF3.out
  have hF2 := (Fr.ch hF hc (fun k hk h => by have := (Fr.blks hF k hk).2; omega)).mono (lo' := w.heap.size + 2) (by omega) (Nat.le_refl _)
  refine PS.box (by simp [World.setCell]) hF2 ?_ ?_ ?_ ?_ ?_ ?_ (fun k hk h => by have := (Fr.blks hF k hk).2; omega)
  all_goals first | (intro o; simp [go_sem]; done) | (simp [go_sem]; done))
 have ZB : Hid (Below w3.heap.size w3 (w3.alloc (.cells #[.int .i64 p.state, .slice a3 p.args.length c3, .bool p.priv, .string p.text, .string p.utf] 42))) := zz (by
  repeat (first | (with_reducible exact Below.refl _ _) | (with_reducible refine Below.setCell ?_ ?_ _; rotate_left; ((try simp) <;> (try omega))) | (with_reducible refine Below.alloc ?_ ?_ _; rotate_left; ((try simp) <;> (try omega)))))
 go_upto_region 6 with fail
 obtain ⟨x4, hx4⟩ : ∃ x, (w3.alloc (.cells #[.int .i64 p.state, .slice a3 p.args.length c3, .bool p.priv, .string p.text, .string p.utf] 42)) = x := ⟨_, rfl⟩
 rw [hx4] at ZP ZB ⊢
 clear hx4
 have hz4 := ZB.out.size
 have hPlt := ZP.out.lt
 have HUT4 : Hid (UT x4) := zz ((HUT1.out.keep HB3.out).keep ZB.out)
 have hg1 := HUT1.out.l1
 have hg2 := HUT1.out.l2
 have t0 : x4.cell? ⟨w.heap.size + 1, 0, none⟩ = some (.int .i64 0) := (ZB.out.cell (p := ⟨w.heap.size + 1, 0, none⟩) hl31).trans r0
 have t1 : x4.cell? ⟨w.heap.size + 1, 1, none⟩ = some (.slice none 0 0) := (ZB.out.cell (p := ⟨w.heap.size + 1, 1, none⟩) hl31).trans r1
 have t2 : x4.cell? ⟨w.heap.size + 1, 2, none⟩ = some (.bool false) := (ZB.out.cell (p := ⟨w.heap.size + 1, 2, none⟩) hl31).trans r2
 have t3 : x4.cell? ⟨w.heap.size + 1, 3, none⟩ = some (.string ⟨#[]⟩) := (ZB.out.cell (p := ⟨w.heap.size + 1, 3, none⟩) hl31).trans r3
 have t4 : x4.cell? ⟨w.heap.size + 1, 4, none⟩ = some (.string ⟨#[]⟩) := (ZB.out.cell (p := ⟨w.heap.size + 1, 4, none⟩) hl31).trans r4
 have tf : ∀ o, x4.frozen? ⟨w.heap.size + 1, o, none⟩ = false := fun o => (ZB.out.frozen (p := ⟨w.heap.size + 1, o, none⟩) hl31).trans (rf o)
 clear hZ
 have HBS4 := zz ((HBS1.out.keep HB3.out).keep ZB.out)
 have HBW4 : Hid (Below w.heap.size w x4) := zz (HBW3.out.trans (ZB.out.mono (by omega)))
 have hl4 : w.heap.size + 1 < x4.heap.size := by omega
 have hn1 : ¬ w.heap.size + 2 ≤ w.heap.size + 1 := by omega
 go_wp2_with fail
 go_loopw [8, 26] (fun s i wr => ∃ (k : Nat) (a5 : Option Addr) (c5 : Nat) (L5 : List aA) (al5 : Option Addr) (cl5 : Nat), k ≤ l.length ∧ i = .int .i64 k ∧ s = .slice al5 L5.length cl5 ∧ Hid (PS w3.heap.size (w.heap.size + 2) (prun p (l.take k)).1 a5 c5 L5 al5 cl5 wr ∧ L5.map (·.A) = (prun p (l.take k)).2 ∧ Ch (fun k => w.heap.size + 2 ≤ k) x4 wr)) (fun _ i _ => l.length - (intOf i).toNat)
 case atStart => exact ⟨0, a3, c3, [], none, 0, Nat.zero_le _, rfl, rfl, zz ⟨ZP.out, rfl, Ch.refl⟩⟩
 case round =>
  obtain ⟨k, a5, c5, L5, al5, cl5, hk, rfl, rfl, HPP⟩ := hrel
  have hsz := HPP.out.2.2.size
  by_cases hlt : k < l.length
  ·have HSB : Hid (Sl yE 1 wr a l) := zz (HBS4.out.ch HPP.out.2.2 (fun j hj h => by rcases HBSlt.out with h2 | h2; omega; have := h2 j hj; omega))
   obtain ⟨b1, o1, rfl, hb1, hc1⟩ := HSB.out.at hlt
   have c1 := hc1 k hlt 0 (by omega)
   simp only [yE, Nat.mul_one, Nat.add_zero, List.getElem?_cons_zero] at c1
   clear hc1
   obtain ⟨b, hbk⟩ := eX (l[k])
   have HBK := zz hbk
   rw [hbk] at c1
   clear hbk
   have HUTr : Hid (UT wr) := zz (HUT4.out.ch HPP.out.2.2 (by omega) (by omega))
   have HLL : Hid (L5.length ≤ 1048575) := zz (by
    have h1 := congrArg List.length HPP.out.2.1
    have h2 := Zv6 (l.take k) p
    simp only [List.length_map, List.length_take] at h1 h2
    omega)
   obtain ⟨Pk, hPk⟩ := eX (prun p (l.take k))
   have HPK := zz hPk
   rw [hPk] at HPP
   clear hPk
   go_wp2_with fail
   refine (Yi1 w3.heap.size (w.heap.size + 2) Pk.1 a5 al5 c5 cl5 L5 b _ HPP.out.1 HLL.out (by omega) (by rw [← HPK.out]; exact Ze9 _ HOK.out) HUTr.out (by omega) (by omega)).mono ?_
   rintro e w6 ⟨a7, c7, L7, al7, cl7, rfl, g1, g2, g3, g4⟩
   have G1 := zz g1
   have G2 := zz g2
   have G3 := zz g3
   clear g1 g2 g3 g4
   go_wp2_with fail
   go_roundw
   case rel =>
    have hs : prun p (l.take (k + 1)) = ((pstep Pk.1 b).1, Pk.2 ++ (pstep Pk.1 b).2) := by
     rw [List.take_succ_eq_append_getElem hlt, Zl7, HPK.out, HBK.out]
    refine ⟨k + 1, a7, c7, L7, al7, cl7, by omega, by go_num, rfl, zz ⟨by rw [hs]; exact G1.out, by rw [hs, G2.out, HPP.out.2.1], ?_⟩⟩
    refine HPP.out.2.2.trans G3.out (fun j hj => .inl ?_)
    have hp := HPP.out.1
    rcases hj with h | h | h
    ·subst h; omega
    ·exact (Fr.blks hp.args j h).1
    ·exact (hp.ro.bd actL j (by simp [roB, h])).1
   case measure => simp [intOf]; omega
  ·obtain rfl : k = l.length := by omega
   rw [List.take_length] at HPP
   have HPP := HPP
   obtain ⟨R, hR⟩ := eX (prun p l)
   rw [hR] at HR HPP
   clear hR
   have g1 := HPP.out.1
   have g3 := HPP.out.2.2
   have u0 : wr.cell? ⟨w.heap.size + 1, 0, none⟩ = some (.int .i64 0) := (g3.cell (p := ⟨w.heap.size + 1, 0, none⟩) hl4 hn1).trans t0
   have u1 : wr.cell? ⟨w.heap.size + 1, 1, none⟩ = some (.slice none 0 0) := (g3.cell (p := ⟨w.heap.size + 1, 1, none⟩) hl4 hn1).trans t1
   have u2 : wr.cell? ⟨w.heap.size + 1, 2, none⟩ = some (.bool false) := (g3.cell (p := ⟨w.heap.size + 1, 2, none⟩) hl4 hn1).trans t2
   have u3 : wr.cell? ⟨w.heap.size + 1, 3, none⟩ = some (.string ⟨#[]⟩) := (g3.cell (p := ⟨w.heap.size + 1, 3, none⟩) hl4 hn1).trans t3
   have u4 : wr.cell? ⟨w.heap.size + 1, 4, none⟩ = some (.string ⟨#[]⟩) := (g3.cell (p := ⟨w.heap.size + 1, 4, none⟩) hl4 hn1).trans t4
   have uf : ∀ o, wr.frozen? ⟨w.heap.size + 1, o, none⟩ = false := fun o => (g3.frozen (p := ⟨w.heap.size + 1, o, none⟩) hl4 hn1).trans (tf o)
   have ul : w.heap.size + 1 < wr.heap.size := Nat.lt_of_lt_of_le hl4 g3.size
   have v0 := g1.c0
   have v1 := g1.c1
   have v2 := g1.c2
   have v3 := g1.c3
   have v4 := g1.c4
   have vlt := g1.lt
   clear g1 g3
   go_wp2_with fail
   refine bodyPost_ret (v := .tuple #[.agg #[.int .i64 R.1.state, .slice a5 R.1.args.length c5, .bool R.1.priv, .string R.1.text, .string R.1.utf], .slice al5 L5.length cl5, .int .i64 0]) (by simp [results, Tryz.results21, go_sem, u0, u1, u2, u3, u4, v0, v1, v2, v3, v4, ul, vlt]) rfl ?_
   have hc : ∀ y0 y1 y2 y3 y4, Ch (fun k => k = w.heap.size + 1) wr (((((wr.setCell ⟨w.heap.size + 1, 0, none⟩ y0).setCell ⟨w.heap.size + 1, 1, none⟩ y1).setCell ⟨w.heap.size + 1, 2, none⟩ y2).setCell ⟨w.heap.size + 1, 3, none⟩ y3).setCell ⟨w.heap.size + 1, 4, none⟩ y4) := fun y0 y1 y2 y3 y4 => ((((Ch.set1 _ _ _ _).setB _ _).setB _ _).setB _ _).setB _ _
   have hcx := hc (.int .i64 R.1.state) (.slice a5 R.1.args.length c5) (.bool R.1.priv) (.string R.1.text) (.string R.1.utf)
   have hp := HPP.out.1
   have hd : ∀ k ∈ bO a5 ++ acB al5 L5, ¬ k = w.heap.size + 1 := fun k hk h => by
    rcases List.mem_append.1 hk with h1 | h1
    ·have := (Fr.blks hp.args k h1).1; omega
    ·have := (hp.ro.bd actL k h1).1; omega
   have hp2 := hp.ch hcx (by omega) hd
   rw [HR.out]
   refine ⟨a5, c5, al5, cl5, L5, rfl, hp2.args.mono (by omega) (Nat.le_refl _), hp2.ro.low actL (by omega), hp2.nd, HPP.out.2.1, ?_⟩
   exact (HBW4.out.trans (HPP.out.2.2.below (by omega) (fun k h => by omega))).trans (hcx.below (by omega) (fun k h => by omega))
end
section
structure QS (X lo : Nat) (p : PV) (ap : Option Addr) (cp : Nat) (L : List aA) (al : Option Addr) (cl : Nat) (w : World) : Prop where
 ps : PS X lo p ap cp L al cl w
 c5 : w.cell? ⟨X, 5, none⟩ = some (.slice al L.length cl)
 lo : lo ≤ X
section
variable {X lo : Nat} {p p' : PV} {ap ap' al al' : Option Addr} {cp cp' cl cl' : Nat} {L us : List aA} {w w' w1 : World}
theorem QS.keep (h : QS X lo p ap cp L al cl w) (hb : Below w.heap.size w w') : QS X lo p ap cp L al cl w' := ⟨h.ps.keep hb, (hb.cell (p := ⟨X, 5, none⟩) h.ps.lt).trans h.c5, h.lo⟩
theorem PS.pushX (h : PS X lo p ap cp L al cl w) {x : aA} (hx : Zf3 lo w x) (hd : ∀ k ∈ bO x.aa, k ≠ X ∧ k ∉ bO ap ∧ k ∉ acB al L) (hus : us = L ++ [x]) (hf : Fr actE 38 5 lo w'.heap.size (.slice al' us.length cl') us w') (hc : Ch (· ∈ bO al) w w')
 (hk : ∀ k ∈ bO al', k ∈ bO al ∨ k = w.heap.size) : PS X lo p ap cp us al' cl' w' := by
 have hB : X ∉ bO al := fun hb => h.nB (by simp [roB, hb])
 have hA : ∀ k ∈ bO ap, k ∉ bO al := fun k hk1 hk2 => h.nd k hk1 (by simp [roB, hk2])
 have hro : ActO lo us al' cl' w' := h.ro.push actL hx (fun k hk1 => (hd k hk1).2.2) hus hf hc hk
 have hin : ∀ k ∈ acB al' us, k ∈ acB al L ∨ k ∈ bO x.aa ∨ k = w.heap.size := by
  intro k hk1
  simp only [roB, List.mem_append] at hk1 ⊢
  rcases hk1 with hk1 | hk1
  ·rcases hk k hk1 with h2 | h2
   ·exact .inl (.inl h2)
   ·exact .inr (.inr h2)
  ·rw [hus] at hk1
   simp only [List.flatMap_append, List.flatMap_cons, List.flatMap_nil, List.append_nil, List.mem_append] at hk1
   rcases hk1 with hk1 | hk1
   ·exact .inl (.inr hk1)
   ·exact .inr (.inl hk1)
 refine ⟨(hc.cell (p := ⟨X, 0, none⟩) h.lt hB).trans h.c0, (hc.cell (p := ⟨X, 1, none⟩) h.lt hB).trans h.c1, (hc.cell (p := ⟨X, 2, none⟩) h.lt hB).trans h.c2, (hc.cell (p := ⟨X, 3, none⟩) h.lt hB).trans h.c3, (hc.cell (p := ⟨X, 4, none⟩) h.lt hB).trans h.c4, fun o => (hc.frozen (p := ⟨X, o, none⟩) h.lt hB).trans (h.fz o), Nat.lt_of_lt_of_le h.lt hc.size, h.args.ch hc hA, hro, fun hb => ?_, fun k hk1 hk2 => ?_⟩
 ·rcases List.mem_append.1 hb with hb | hb
  ·exact h.nB (by simp [hb])
  ·rcases hin X hb with h2 | h2 | h2
   ·exact h.nB (List.mem_append.2 (.inr h2))
   ·exact (hd X h2).1 rfl
   ·have := h.lt; omega
 ·rcases hin k hk2 with h2 | h2 | h2
  ·exact h.nd k hk1 h2
  ·exact (hd k h2).2.1 hk1
  ·have := (Fr.blks h.args k hk1).2; omega
theorem QS.list {v : Value} (h : PS X lo p ap cp us al' cl' w) {u : Value} (hl : lo ≤ X) (hv : v = .slice al' us.length cl') (h5 : w.cell? ⟨X, 5, none⟩ = some u) : QS X lo p ap cp us al' cl' (w.setCell ⟨X, 5, none⟩ v) := by
 subst hv
 have hc : Ch (fun k => k = X) w (w.setCell ⟨X, 5, none⟩ (.slice al' us.length cl')) := Ch.set1 _ _ _ _
 have k0 := h.c0
 have k1 := h.c1
 have k2 := h.c2
 have k3 := h.c3
 have k4 := h.c4
 have kf := h.fz
 refine ⟨h.cells hc ?_ ?_ ?_ ?_ ?_ ?_ (.inl ⟨rfl, rfl, rfl⟩), ?_, hl⟩
 all_goals first | (intro o; simp [go_sem, kf]; done) | (simp [go_sem, k0, k1, k2, k3, k4, h5]; done)
end
theorem Zb7 (lo : Nat) (w : World) (g : Nat) (hg : g = w.heap.size) (h : lo ≤ w.heap.size) : Fr iE 3 1 lo (w.alloc (.cells #[] 3)).heap.size (.slice (some ⟨g, 0, none⟩) 0 0) [] (w.alloc (.cells #[] 3)) := by
 subst hg
 exact (Zk3 w lo h).here
theorem gR (X lo : Nat) (p : PV) (ap al : Option Addr) (cp cl : Nat) (L : List aA) (w : World) (h : QS X lo p ap cp L al cl w) :
 Calls Tryz.prog 147 #[.pointer (some ⟨X, 0, none⟩)] w fun e w' => e = .returned (.tuple #[]) ∧ ∃ g, w.heap.size ≤ g ∧ QS X lo pz (some ⟨g, 0, none⟩) 0 L al cl w' ∧ Ch (fun k => k = X) w w' := by
 have HP := zz h
 have k_0 := h.ps.c0
 have k_1 := h.ps.c1
 have k_2 := h.ps.c2
 have k_3 := h.ps.c3
 have k_4 := h.ps.c4
 have k_5 := h.c5
 have kf := h.ps.fz
 have klt := h.ps.lt
 clear h
 go_enter Tryz.func147, Tryz.ntmps147
 go_wp2_with fail
 refine bodyPost_end (v := .tuple #[]) (by simp [results, Tryz.results147]) rfl ?_
 have hlo : lo ≤ w.heap.size := by have := HP.out.lo; omega
 refine ⟨rfl, w.heap.size, Nat.le_refl _, ⟨HP.out.ps.cellsNew ?hc (Nat.le_refl _) ?ha ?_ ?_ ?_ ?_ ?_ ?_, ?_, HP.out.lo⟩, ?hc⟩
 case hc => repeat (first | (with_reducible exact Ch.refl) | (with_reducible refine Ch.alloc ?_ _) | (with_reducible refine Ch.drew ?_) | (with_reducible refine Ch.setB ?_ _ _))
 case ha => exact Zb7 lo _ _ (by simp [World.setCell]) (by simp [World.setCell]; omega)
 all_goals first | (intro o; simp [go_sem, kf, klt]; done) | (simp [go_sem, k_0, k_1, k_2, k_3, k_4, k_5, klt, pz]; done)
end
section
def QR (X lo : Nat) (R : PV × List AV) (L : List aA) (e : Ending) (w w' : World) : Prop :=
 e = .returned (.tuple #[]) ∧ ∃ (ap' : Option Addr) (cp' : Nat) (L' : List aA) (al' : Option Addr) (cl' : Nat), QS X lo R.1 ap' cp' L' al' cl' w' ∧ L'.map (·.A) = L.map (·.A) ++ R.2 ∧ Below lo w w'
theorem QS.below {X lo : Nat} {p : PV} {ap al : Option Addr} {cp cl : Nat} {L : List aA} {w w' : World} (h : QS X lo p ap cp L al cl w) (hc : Ch (fun k => k = X ∨ k ∈ bO al) w w') : Below lo w w' := by
 have hl := h.lo
 have ht := h.ps.lt
 refine hc.below (by omega) (fun k hk => ?_)
 rcases hk with hk | hk
 ·omega
 ·exact (h.ps.ro.bd actL k (by simp [roB, hk])).1
theorem Zb9 (X lo : Nat) (p : PV) (ap al aa : Option Addr) (cp cl ca : Nat) (L : List aA) (A : AV) (w : World) (h : QS X lo p ap cp L al cl w)
 (hA : Fr iE 3 1 lo w.heap.size (.slice aa A.args.length ca) A.args w) (hd : ∀ k ∈ bO aa, k ≠ X ∧ k ∉ bO ap ∧ k ∉ acB al L) (hL : L.length ≤ 1048576) (hl : A.args.length ≤ 1048576) :
 Calls Tryz.prog 148 #[.pointer (some ⟨X, 0, none⟩), .agg #[.int .i64 A.kind, .int .i64 A.n, .bool A.priv, .slice aa A.args.length ca, .string A.text]] w (fun e w' => QR X lo (p, [A]) L e w w') := by
 obtain ⟨iA, hA', hA0, hA1, hA2⟩ := info_parts Tryz.infoAction
 have HP := zz h
 have HA := zz hA
 have HD := zz hd
 have k_5 := h.c5
 have kf := h.ps.fz
 have klt := h.ps.lt
 have hXn : ¬ w.heap.size = X := by omega
 have hXm : ¬ X = w.heap.size := by omega
 have hlo : lo ≤ w.heap.size := by have := h.lo; omega
 clear h hA hd
 have hA := hA'
 clear hA'
 go_enter Tryz.func148, Tryz.ntmps148
 by_cases hz : A.args.length = 0
 case pos =>
  have HE : Hid (A.args = []) := zz (List.length_eq_zero_iff.1 hz)
  have g0 : ((A.args.length : Int) == 0) = true := by rw [hz]; rfl
  clear hz
  go_upto_region 3 with fail
  have HB1 : Hid (Below w.heap.size w ((w.alloc (.cells #[.int .i64 A.kind, .int .i64 A.n, .bool A.priv, .slice (some ⟨w.heap.size + 1, 0, none⟩) 0 0, .string A.text] 38)).alloc (.cells #[] 3))) := zz (by repeat (first | (with_reducible exact Below.refl _ _) | (with_reducible refine Below.alloc ?_ ?_ _; rotate_left; ((try simp) <;> (try omega)))))
  have HOW : Hid (Zf3 lo ((w.alloc (.cells #[.int .i64 A.kind, .int .i64 A.n, .bool A.priv, .slice (some ⟨w.heap.size + 1, 0, none⟩) 0 0, .string A.text] 38)).alloc (.cells #[] 3)) ⟨A, (some ⟨w.heap.size + 1, 0, none⟩), 0⟩ ∧ ∀ k ∈ bO (some ⟨w.heap.size + 1, 0, none⟩), k ≠ X ∧ k ∉ bO ap ∧ k ∉ acB al L) := zz (by
   refine ⟨?_, fun k hk => ?_⟩
   ·unfold Zf3
    show Fr iE 3 1 lo _ (.slice _ A.args.length 0) A.args _
    rw [HE.out]
    exact Zb7 lo _ _ (by simp) (by simp; omega)
   ·simp [bO] at hk
    subst hk
    refine ⟨by omega, fun h => ?_, fun h => ?_⟩
    ·have := (Fr.blks HP.out.ps.args _ h).2; omega
    ·have := (HP.out.ps.ro.bd actL _ h).2; omega)
  have z_0 : ((w.alloc (.cells #[.int .i64 A.kind, .int .i64 A.n, .bool A.priv, .slice (some ⟨w.heap.size + 1, 0, none⟩) 0 0, .string A.text] 38)).alloc (.cells #[] 3)).cell? ⟨w.heap.size, 0, none⟩ = some (.int .i64 A.kind) := by simp [go_sem]
  have z_1 : ((w.alloc (.cells #[.int .i64 A.kind, .int .i64 A.n, .bool A.priv, .slice (some ⟨w.heap.size + 1, 0, none⟩) 0 0, .string A.text] 38)).alloc (.cells #[] 3)).cell? ⟨w.heap.size, 1, none⟩ = some (.int .i64 A.n) := by simp [go_sem]
  have z_2 : ((w.alloc (.cells #[.int .i64 A.kind, .int .i64 A.n, .bool A.priv, .slice (some ⟨w.heap.size + 1, 0, none⟩) 0 0, .string A.text] 38)).alloc (.cells #[] 3)).cell? ⟨w.heap.size, 2, none⟩ = some (.bool A.priv) := by simp [go_sem]
  have z_3 : ((w.alloc (.cells #[.int .i64 A.kind, .int .i64 A.n, .bool A.priv, .slice (some ⟨w.heap.size + 1, 0, none⟩) 0 0, .string A.text] 38)).alloc (.cells #[] 3)).cell? ⟨w.heap.size, 3, none⟩ = some (.slice (some ⟨w.heap.size + 1, 0, none⟩) 0 0) := by simp [go_sem]
  have z_4 : ((w.alloc (.cells #[.int .i64 A.kind, .int .i64 A.n, .bool A.priv, .slice (some ⟨w.heap.size + 1, 0, none⟩) 0 0, .string A.text] 38)).alloc (.cells #[] 3)).cell? ⟨w.heap.size, 4, none⟩ = some (.string A.text) := by simp [go_sem]
  obtain ⟨x1, hx1⟩ : ∃ x, ((w.alloc (.cells #[.int .i64 A.kind, .int .i64 A.n, .bool A.priv, .slice (some ⟨w.heap.size + 1, 0, none⟩) 0 0, .string A.text] 38)).alloc (.cells #[] 3)) = x := ⟨_, rfl⟩
  rw [hx1] at HB1 HOW z_0 z_1 z_2 z_3 z_4 ⊢
  clear hx1
  have hz1 := HB1.out.size
  have hzH : w.heap.size < x1.heap.size := by
   rcases Nat.lt_or_ge w.heap.size x1.heap.size with h | h
   ·exact h
   ·have : x1.cell? ⟨w.heap.size, 0, none⟩ = none := by simp [World.cell?, Array.getElem?_eq_none h]
    rw [this] at z_0; cases z_0
  have HP1 := zz (HP.out.keep HB1.out)
  have y_5 := HP1.out.c5
  have yf := HP1.out.ps.fz
  have ylt := HP1.out.ps.lt
  have hS0 : x1.cell? ⟨X, 5, none⟩ = some (.slice al L.length cl) ∧ x1.cell? ⟨w.heap.size, 0, none⟩ = some (.int .i64 A.kind) ∧ x1.cell? ⟨w.heap.size, 1, none⟩ = some (.int .i64 A.n) ∧ x1.cell? ⟨w.heap.size, 2, none⟩ = some (.bool A.priv) ∧ x1.cell? ⟨w.heap.size, 3, none⟩ = some (.slice (some ⟨w.heap.size + 1, 0, none⟩) 0 0) ∧ x1.cell? ⟨w.heap.size, 4, none⟩ = some (.string A.text) := ⟨y_5, z_0, z_1, z_2, z_3, z_4⟩
  refine Za4 (fun w' => w'.cell? ⟨X, 5, none⟩ = some (.slice al L.length cl) ∧ w'.cell? ⟨w.heap.size, 0, none⟩ = some (.int .i64 A.kind) ∧ w'.cell? ⟨w.heap.size, 1, none⟩ = some (.int .i64 A.n) ∧ w'.cell? ⟨w.heap.size, 2, none⟩ = some (.bool A.priv) ∧ w'.cell? ⟨w.heap.size, 3, none⟩ = some (.slice (some ⟨w.heap.size + 1, 0, none⟩) 0 0) ∧ w'.cell? ⟨w.heap.size, 4, none⟩ = some (.string A.text)) (fun i => i == 10) (by kernel_rfl) hS0 ?_
  refine tW ?_ 0 rfl ?_ ?_; rotate_left
  ·intro w' hSw; go_simp; try rfl
  try simp only [Act.put,j1,j2,j3,j4,j5,j6]
  refine tW ?_ 1 rfl ?_ ?_; rotate_left
  ·intro w' hSw; go_simp; try rfl
  try simp only [Act.put,j1,j2,j3,j4,j5,j6]
  refine tW ?_ 2 rfl ?_ ?_; rotate_left
  ·intro w' hSw; go_simp; try rfl
  try simp only [Act.put,j1,j2,j3,j4,j5,j6]
  refine tW ?_ 3 rfl ?_ ?_; rotate_left
  ·intro w' hSw; go_simp; try rfl
  try simp only [Act.put,j1,j2,j3,j4,j5,j6]
  refine tL ?_ 4 rfl hS0 ?_ ?_; rotate_left
  ·intro w' hSw; obtain ⟨s0, s1, s2, s3, s4, s5⟩ := hSw; go_simp; try rfl
  try simp only [Act.put,j1,j2,j3,j4,j5,j6]
  refine tL ?_ 5 rfl hS0 ?_ ?_; rotate_left
  ·intro w' hSw; obtain ⟨s0, s1, s2, s3, s4, s5⟩ := hSw; go_simp; try rfl
  try simp only [Act.put,j1,j2,j3,j4,j5,j6]
  refine w1G (i := 6) (by kernel_rfl) rfl hS0 (fun K' hK => ?_)
  simp only [j1,j2,j3]
  go_simp
  obtain ⟨x2, hx2⟩ : ∃ x, (x1.alloc (.cells #[.int .i64 A.kind, .int .i64 A.n, .bool A.priv, .slice (some ⟨w.heap.size + 1, 0, none⟩) 0 0, .string A.text] 38)).drew = x := ⟨_, rfl⟩
  have hx2' : x1.drew.alloc (.cells #[.int .i64 A.kind, .int .i64 A.n, .bool A.priv, .slice (some ⟨w.heap.size + 1, 0, none⟩) 0 0, .string A.text] 38) = x2 := by rw [← hx2]; rfl
  have HB2 : Hid (Below x1.heap.size x1 x2) := zz (by rw [← hx2]; exact (bA).drew)
  have hsrc : Src Tryz.prog 5 48 (.slice (some ⟨x1.heap.size, 0, none⟩) 1 1) [(⟨A, (some ⟨w.heap.size + 1, 0, none⟩), 0⟩ : aA)].length ([(⟨A, (some ⟨w.heap.size + 1, 0, none⟩), 0⟩ : aA)].flatMap actE) x2 := by
   rw [← hx2']
   exact Src.ofBox (enc := actE) Tryz.underlying48 (fun _ => rfl) Zd9 (⟨A, (some ⟨w.heap.size + 1, 0, none⟩), 0⟩ : aA) _ _ (by simp [actE, HE.out]) _ (by simp)
  have HSRC := zz hsrc
  have HP2 := zz (HP1.out.keep HB2.out)
  have HOW2 : Hid (Zf3 lo x2 ⟨A, (some ⟨w.heap.size + 1, 0, none⟩), 0⟩) := zz (actL.ch (M := fun _ => False) HOW.out.1 (Ch.of_below HB2.out) (fun _ _ h => h))
  have hz2 := HB2.out.size
  have hS1 := fun (p : Addr) (hp : p.block < x1.heap.size) => HB2.out.cell (p := p) hp
  have hS2 : x2.cell? ⟨X, 5, none⟩ = some (.slice al L.length cl) ∧ x2.cell? ⟨w.heap.size, 0, none⟩ = some (.int .i64 A.kind) ∧ x2.cell? ⟨w.heap.size, 1, none⟩ = some (.int .i64 A.n) ∧ x2.cell? ⟨w.heap.size, 2, none⟩ = some (.bool A.priv) ∧ x2.cell? ⟨w.heap.size, 3, none⟩ = some (.slice (some ⟨w.heap.size + 1, 0, none⟩) 0 0) ∧ x2.cell? ⟨w.heap.size, 4, none⟩ = some (.string A.text) := ⟨(hS1 ⟨X, 5, none⟩ ylt).trans y_5, (hS1 ⟨w.heap.size, 0, none⟩ hzH).trans z_0, (hS1 ⟨w.heap.size, 1, none⟩ hzH).trans z_1, (hS1 ⟨w.heap.size, 2, none⟩ hzH).trans z_2, (hS1 ⟨w.heap.size, 3, none⟩ hzH).trans z_3, (hS1 ⟨w.heap.size, 4, none⟩ hzH).trans z_4⟩
  clear hsrc hx2' hS1
  rw [hx2]
  clear hx2
  refine hK.out _ _ (Or.inr hS2) ?_
  clear hK K'
  try simp only [Act.put,j1,j2,j3,j4,j5,j6]
  refine w1G (i := 7) (by kernel_rfl) rfl hS2 (fun K' hK => ?_)
  simp only [j1,j2,j3]
  rw [if_pos (by rfl)]
  refine sAc (.tmp 14) (.tmp 16) 48 48 lo 38 iA (.agg #[.int .i64 0, .int .i64 0, .bool false, .slice none 0 0, .string ⟨#[]⟩]) 5 64 Tryz.underlying48 hA hA0 hA1 hA2 rfl (by decide) al L.length cl L HP2.out.ps.ro.row (.slice (some ⟨x1.heap.size, 0, none⟩) 1 1) [(⟨A, (some ⟨w.heap.size + 1, 0, none⟩), 0⟩ : aA)] HSRC.out (by simp; omega) (by omega) ?_ ?_ ?_ ?_
  ·rfl
  ·rfl
  ·rfl
  intro a4 c4 w4 us hus hf hc hk
  have HUS := hus
  have HF := zz hf
  have HC4 := zz hc
  have HK := zz hk
  have hHal : ¬ w.heap.size ∈ bO al := fun hb => by
   have := (HP.out.ps.ro.bd actL w.heap.size (by simp [roB, hb])).2
   omega
  have hXal : ¬ X ∈ bO al := fun hb => HP.out.ps.nB (by rw [List.mem_append]; right; simp [roB, hb])
  have hS3 := fun (p : Addr) (hp : p.block < x2.heap.size) (hd : ¬ p.block ∈ bO al) => HC4.out.cell (p := p) hp hd
  have hS4 : w4.cell? ⟨X, 5, none⟩ = some (.slice al L.length cl) ∧ w4.cell? ⟨w.heap.size, 0, none⟩ = some (.int .i64 A.kind) ∧ w4.cell? ⟨w.heap.size, 1, none⟩ = some (.int .i64 A.n) ∧ w4.cell? ⟨w.heap.size, 2, none⟩ = some (.bool A.priv) ∧ w4.cell? ⟨w.heap.size, 3, none⟩ = some (.slice (some ⟨w.heap.size + 1, 0, none⟩) 0 0) ∧ w4.cell? ⟨w.heap.size, 4, none⟩ = some (.string A.text) := ⟨(hS3 ⟨X, 5, none⟩ (by show X < _; omega) hXal).trans hS2.1, (hS3 ⟨w.heap.size, 0, none⟩ (by show w.heap.size < _; omega) hHal).trans hS2.2.1, (hS3 ⟨w.heap.size, 1, none⟩ (by show w.heap.size < _; omega) hHal).trans hS2.2.2.1, (hS3 ⟨w.heap.size, 2, none⟩ (by show w.heap.size < _; omega) hHal).trans hS2.2.2.2.1, (hS3 ⟨w.heap.size, 3, none⟩ (by show w.heap.size < _; omega) hHal).trans hS2.2.2.2.2.1, (hS3 ⟨w.heap.size, 4, none⟩ (by show w.heap.size < _; omega) hHal).trans hS2.2.2.2.2.2⟩
  have HPS4 : Hid (PS X lo p ap cp us a4 c4 w4) := zz (HP2.out.ps.pushX (x := ⟨A, (some ⟨w.heap.size + 1, 0, none⟩), 0⟩) HOW2.out HOW.out.2 HUS.out HF.out HC4.out HK.out)
  have v_5 := hS4.1
  have vf := HPS4.out.fz
  have vlt := HPS4.out.lt
  clear hus hf hc hk hS3
  refine hK.out _ _ (Or.inr hS4) ?_
  clear hK K'
  try simp only [Act.put,j1,j2,j3,j4,j5,j6]
  refine tW ?_ 8 rfl ?_ ?_; rotate_left
  ·intro w' hSw; go_simp; try rfl
  try simp only [Act.put,j1,j2,j3,j4,j5,j6]
  refine tW ?_ 9 rfl ?_ ?_; rotate_left
  ·intro w' hSw; go_simp; try rfl
  try simp only [Act.put,j1,j2,j3,j4,j5,j6]
  refine w1G (i := 10) (by kernel_rfl) rfl hS4 (fun K' hK => ?_)
  simp only [j1,j2,j3]
  go_simp
  refine hK.out _ _ (Or.inl rfl) ?_
  clear hK K'
  try simp only [Act.put,j1,j2,j3,j4,j5,j6]
  refine wD (by kernel_rfl) ?_ _
  go_wp2_with fail
  refine bodyPost_end (v := .tuple #[]) (by simp [results, Tryz.results148]) rfl ?_
  have hq : QS X lo p ap cp us a4 c4 (w4.setCell ⟨X, 5, none⟩ (.slice a4 us.length c4)) := QS.list HPS4.out HP.out.lo rfl v_5
  refine ⟨rfl, ap, cp, us, a4, c4, hq, by rw [HUS.out]; simp, ?_⟩
  have hc : Ch (fun k => k = X ∨ k ∈ bO al) w w4 := (Ch.of_below HB1.out).trans ((Ch.of_below (M := fun k => k = X ∨ k ∈ bO al) HB2.out).trans HC4.out (fun i hi => .inl (.inr hi))) (fun i hi => .inl hi)
  exact HP.out.below (hc.setCell (p := ⟨X, 5, none⟩) (.inl (.inl rfl)) _)
 have g0 : ((A.args.length : Int) == 0) = false := beq_eq_false_iff_ne.2 (by omega)
 go_upto_region 3 with fail
 have HB1 : Hid (Below w.heap.size w (w.alloc (.cells #[.int .i64 A.kind, .int .i64 A.n, .bool A.priv, .slice aa A.args.length ca, .string A.text] 38))) := zz (by repeat (first | (with_reducible exact Below.refl _ _) | (with_reducible refine Below.alloc ?_ ?_ _; rotate_left; ((try simp) <;> (try omega)))))
 have HOW : Hid (Zf3 lo (w.alloc (.cells #[.int .i64 A.kind, .int .i64 A.n, .bool A.priv, .slice aa A.args.length ca, .string A.text] 38)) ⟨A, aa, ca⟩ ∧ ∀ k ∈ bO aa, k ≠ X ∧ k ∉ bO ap ∧ k ∉ acB al L) := zz (by
  refine ⟨?_, HD.out⟩
  exact actL.ch (M := fun _ => False) (r := ⟨A, aa, ca⟩) HA.out (Ch.refl.alloc _) (fun _ _ h => h))
 have z_0 : (w.alloc (.cells #[.int .i64 A.kind, .int .i64 A.n, .bool A.priv, .slice aa A.args.length ca, .string A.text] 38)).cell? ⟨w.heap.size, 0, none⟩ = some (.int .i64 A.kind) := by simp [go_sem]
 have z_1 : (w.alloc (.cells #[.int .i64 A.kind, .int .i64 A.n, .bool A.priv, .slice aa A.args.length ca, .string A.text] 38)).cell? ⟨w.heap.size, 1, none⟩ = some (.int .i64 A.n) := by simp [go_sem]
 have z_2 : (w.alloc (.cells #[.int .i64 A.kind, .int .i64 A.n, .bool A.priv, .slice aa A.args.length ca, .string A.text] 38)).cell? ⟨w.heap.size, 2, none⟩ = some (.bool A.priv) := by simp [go_sem]
 have z_3 : (w.alloc (.cells #[.int .i64 A.kind, .int .i64 A.n, .bool A.priv, .slice aa A.args.length ca, .string A.text] 38)).cell? ⟨w.heap.size, 3, none⟩ = some (.slice aa A.args.length ca) := by simp [go_sem]
 have z_4 : (w.alloc (.cells #[.int .i64 A.kind, .int .i64 A.n, .bool A.priv, .slice aa A.args.length ca, .string A.text] 38)).cell? ⟨w.heap.size, 4, none⟩ = some (.string A.text) := by simp [go_sem]
 obtain ⟨x1, hx1⟩ : ∃ x, (w.alloc (.cells #[.int .i64 A.kind, .int .i64 A.n, .bool A.priv, .slice aa A.args.length ca, .string A.text] 38)) = x := ⟨_, rfl⟩
 rw [hx1] at HB1 HOW z_0 z_1 z_2 z_3 z_4 ⊢
 clear hx1
 have hz1 := HB1.out.size
 have hzH : w.heap.size < x1.heap.size := by
  rcases Nat.lt_or_ge w.heap.size x1.heap.size with h | h
  ·exact h
  ·have : x1.cell? ⟨w.heap.size, 0, none⟩ = none := by simp [World.cell?, Array.getElem?_eq_none h]
   rw [this] at z_0; cases z_0
 have HP1 := zz (HP.out.keep HB1.out)
 have y_5 := HP1.out.c5
 have yf := HP1.out.ps.fz
 have ylt := HP1.out.ps.lt
 have hS0 : x1.cell? ⟨X, 5, none⟩ = some (.slice al L.length cl) ∧ x1.cell? ⟨w.heap.size, 0, none⟩ = some (.int .i64 A.kind) ∧ x1.cell? ⟨w.heap.size, 1, none⟩ = some (.int .i64 A.n) ∧ x1.cell? ⟨w.heap.size, 2, none⟩ = some (.bool A.priv) ∧ x1.cell? ⟨w.heap.size, 3, none⟩ = some (.slice aa A.args.length ca) ∧ x1.cell? ⟨w.heap.size, 4, none⟩ = some (.string A.text) := ⟨y_5, z_0, z_1, z_2, z_3, z_4⟩
 refine Za4 (fun w' => w'.cell? ⟨X, 5, none⟩ = some (.slice al L.length cl) ∧ w'.cell? ⟨w.heap.size, 0, none⟩ = some (.int .i64 A.kind) ∧ w'.cell? ⟨w.heap.size, 1, none⟩ = some (.int .i64 A.n) ∧ w'.cell? ⟨w.heap.size, 2, none⟩ = some (.bool A.priv) ∧ w'.cell? ⟨w.heap.size, 3, none⟩ = some (.slice aa A.args.length ca) ∧ w'.cell? ⟨w.heap.size, 4, none⟩ = some (.string A.text)) (fun i => i == 10) (by kernel_rfl) hS0 ?_
 refine tW ?_ 0 rfl ?_ ?_; rotate_left
 ·intro w' hSw; go_simp; try rfl
 try simp only [Act.put,j1,j2,j3,j4,j5,j6]
 refine tW ?_ 1 rfl ?_ ?_; rotate_left
 ·intro w' hSw; go_simp; try rfl
 try simp only [Act.put,j1,j2,j3,j4,j5,j6]
 refine tW ?_ 2 rfl ?_ ?_; rotate_left
 ·intro w' hSw; go_simp; try rfl
 try simp only [Act.put,j1,j2,j3,j4,j5,j6]
 refine tW ?_ 3 rfl ?_ ?_; rotate_left
 ·intro w' hSw; go_simp; try rfl
 try simp only [Act.put,j1,j2,j3,j4,j5,j6]
 refine tL ?_ 4 rfl hS0 ?_ ?_; rotate_left
 ·intro w' hSw; obtain ⟨s0, s1, s2, s3, s4, s5⟩ := hSw; go_simp; try rfl
 try simp only [Act.put,j1,j2,j3,j4,j5,j6]
 refine tL ?_ 5 rfl hS0 ?_ ?_; rotate_left
 ·intro w' hSw; obtain ⟨s0, s1, s2, s3, s4, s5⟩ := hSw; go_simp; try rfl
 try simp only [Act.put,j1,j2,j3,j4,j5,j6]
 refine w1G (i := 6) (by kernel_rfl) rfl hS0 (fun K' hK => ?_)
 simp only [j1,j2,j3]
 go_simp
 obtain ⟨x2, hx2⟩ : ∃ x, (x1.alloc (.cells #[.int .i64 A.kind, .int .i64 A.n, .bool A.priv, .slice aa A.args.length ca, .string A.text] 38)).drew = x := ⟨_, rfl⟩
 have hx2' : x1.drew.alloc (.cells #[.int .i64 A.kind, .int .i64 A.n, .bool A.priv, .slice aa A.args.length ca, .string A.text] 38) = x2 := by rw [← hx2]; rfl
 have HB2 : Hid (Below x1.heap.size x1 x2) := zz (by rw [← hx2]; exact (bA).drew)
 have hsrc : Src Tryz.prog 5 48 (.slice (some ⟨x1.heap.size, 0, none⟩) 1 1) [(⟨A, aa, ca⟩ : aA)].length ([(⟨A, aa, ca⟩ : aA)].flatMap actE) x2 := by
  rw [← hx2']
  exact Src.ofBox (enc := actE) Tryz.underlying48 (fun _ => rfl) Zd9 (⟨A, aa, ca⟩ : aA) _ _ (by simp [actE]) _ (by simp)
 have HSRC := zz hsrc
 have HP2 := zz (HP1.out.keep HB2.out)
 have HOW2 : Hid (Zf3 lo x2 ⟨A, aa, ca⟩) := zz (actL.ch (M := fun _ => False) HOW.out.1 (Ch.of_below HB2.out) (fun _ _ h => h))
 have hz2 := HB2.out.size
 have hS1 := fun (p : Addr) (hp : p.block < x1.heap.size) => HB2.out.cell (p := p) hp
 have hS2 : x2.cell? ⟨X, 5, none⟩ = some (.slice al L.length cl) ∧ x2.cell? ⟨w.heap.size, 0, none⟩ = some (.int .i64 A.kind) ∧ x2.cell? ⟨w.heap.size, 1, none⟩ = some (.int .i64 A.n) ∧ x2.cell? ⟨w.heap.size, 2, none⟩ = some (.bool A.priv) ∧ x2.cell? ⟨w.heap.size, 3, none⟩ = some (.slice aa A.args.length ca) ∧ x2.cell? ⟨w.heap.size, 4, none⟩ = some (.string A.text) := ⟨(hS1 ⟨X, 5, none⟩ ylt).trans y_5, (hS1 ⟨w.heap.size, 0, none⟩ hzH).trans z_0, (hS1 ⟨w.heap.size, 1, none⟩ hzH).trans z_1, (hS1 ⟨w.heap.size, 2, none⟩ hzH).trans z_2, (hS1 ⟨w.heap.size, 3, none⟩ hzH).trans z_3, (hS1 ⟨w.heap.size, 4, none⟩ hzH).trans z_4⟩
 clear hsrc hx2' hS1
 rw [hx2]
 clear hx2
 refine hK.out _ _ (Or.inr hS2) ?_
 clear hK K'
 try simp only [Act.put,j1,j2,j3,j4,j5,j6]
 refine w1G (i := 7) (by kernel_rfl) rfl hS2 (fun K' hK => ?_)
 simp only [j1,j2,j3]
 rw [if_pos (by rfl)]
 refine sAc (.tmp 14) (.tmp 16) 48 48 lo 38 iA (.agg #[.int .i64 0, .int .i64 0, .bool false, .slice none 0 0, .string ⟨#[]⟩]) 5 64 Tryz.underlying48 hA hA0 hA1 hA2 rfl (by decide) al L.length cl L HP2.out.ps.ro.row (.slice (some ⟨x1.heap.size, 0, none⟩) 1 1) [(⟨A, aa, ca⟩ : aA)] HSRC.out (by simp; omega) (by omega) ?_ ?_ ?_ ?_
 ·rfl
 ·rfl
 ·rfl
 intro a4 c4 w4 us hus hf hc hk
 have HUS := hus
 have HF := zz hf
 have HC4 := zz hc
 have HK := zz hk
 have hHal : ¬ w.heap.size ∈ bO al := fun hb => by
  have := (HP.out.ps.ro.bd actL w.heap.size (by simp [roB, hb])).2
  omega
 have hXal : ¬ X ∈ bO al := fun hb => HP.out.ps.nB (by rw [List.mem_append]; right; simp [roB, hb])
 have hS3 := fun (p : Addr) (hp : p.block < x2.heap.size) (hd : ¬ p.block ∈ bO al) => HC4.out.cell (p := p) hp hd
 have hS4 : w4.cell? ⟨X, 5, none⟩ = some (.slice al L.length cl) ∧ w4.cell? ⟨w.heap.size, 0, none⟩ = some (.int .i64 A.kind) ∧ w4.cell? ⟨w.heap.size, 1, none⟩ = some (.int .i64 A.n) ∧ w4.cell? ⟨w.heap.size, 2, none⟩ = some (.bool A.priv) ∧ w4.cell? ⟨w.heap.size, 3, none⟩ = some (.slice aa A.args.length ca) ∧ w4.cell? ⟨w.heap.size, 4, none⟩ = some (.string A.text) := ⟨(hS3 ⟨X, 5, none⟩ (by show X < _; omega) hXal).trans hS2.1, (hS3 ⟨w.heap.size, 0, none⟩ (by show w.heap.size < _; omega) hHal).trans hS2.2.1, (hS3 ⟨w.heap.size, 1, none⟩ (by show w.heap.size < _; omega) hHal).trans hS2.2.2.1, (hS3 ⟨w.heap.size, 2, none⟩ (by show w.heap.size < _; omega) hHal).trans hS2.2.2.2.1, (hS3 ⟨w.heap.size, 3, none⟩ (by show w.heap.size < _; omega) hHal).trans hS2.2.2.2.2.1, (hS3 ⟨w.heap.size, 4, none⟩ (by show w.heap.size < _; omega) hHal).trans hS2.2.2.2.2.2⟩
 have HPS4 : Hid (PS X lo p ap cp us a4 c4 w4) := zz (HP2.out.ps.pushX (x := ⟨A, aa, ca⟩) HOW2.out HOW.out.2 HUS.out HF.out HC4.out HK.out)
 have v_5 := hS4.1
 have vf := HPS4.out.fz
 have vlt := HPS4.out.lt
 clear hus hf hc hk hS3
 refine hK.out _ _ (Or.inr hS4) ?_
 clear hK K'
 try simp only [Act.put,j1,j2,j3,j4,j5,j6]
 refine tW ?_ 8 rfl ?_ ?_; rotate_left
 ·intro w' hSw; go_simp; try rfl
 try simp only [Act.put,j1,j2,j3,j4,j5,j6]
 refine tW ?_ 9 rfl ?_ ?_; rotate_left
 ·intro w' hSw; go_simp; try rfl
 try simp only [Act.put,j1,j2,j3,j4,j5,j6]
 refine w1G (i := 10) (by kernel_rfl) rfl hS4 (fun K' hK => ?_)
 simp only [j1,j2,j3]
 go_simp
 refine hK.out _ _ (Or.inl rfl) ?_
 clear hK K'
 try simp only [Act.put,j1,j2,j3,j4,j5,j6]
 refine wD (by kernel_rfl) ?_ _
 go_wp2_with fail
 refine bodyPost_end (v := .tuple #[]) (by simp [results, Tryz.results148]) rfl ?_
 have hq : QS X lo p ap cp us a4 c4 (w4.setCell ⟨X, 5, none⟩ (.slice a4 us.length c4)) := QS.list HPS4.out HP.out.lo rfl v_5
 refine ⟨rfl, ap, cp, us, a4, c4, hq, by rw [HUS.out]; simp, ?_⟩
 have hc : Ch (fun k => k = X ∨ k ∈ bO al) w w4 := (Ch.of_below HB1.out).trans ((Ch.of_below (M := fun k => k = X ∨ k ∈ bO al) HB2.out).trans HC4.out (fun i hi => .inl (.inr hi))) (fun i hi => .inl hi)
 exact HP.out.below (hc.setCell (p := ⟨X, 5, none⟩) (.inl (.inl rfl)) _)
end
section
theorem cR (n : Int) (w : World) : Calls Tryz.prog 78 #[.int .i64 n] w fun e w' => e = .returned (.bool (ctlI n)) ∧ w = w' := by
 have hc : ctlI n = (n == 7 || n == 8 || n == 9 || n == 10 || n == 13) := by
  unfold ctlI inB
  rw [Bool.eq_iff_iff]
  simp only [Bool.or_eq_true, Bool.and_eq_true, decide_eq_true_eq, beq_iff_eq]
  omega
 have HC := zz hc
 clear hc
 cases q1 : (n == 7) <;> cases q2 : (n == 8) <;> cases q3 : (n == 9) <;> cases q4 : (n == 10) <;> cases q5 : (n == 13)
 all_goals
  have HC2 := HC.out
  rw [q1, q2, q3, q4, q5] at HC2
  have HC3 := zz HC2
  clear HC2 HC
  go_enter Tryz.func78, Tryz.ntmps78
  go_wp2_with fail
  go_ret
  exact ⟨ret_b (by rw [HC3.out]; rfl), rfl⟩
end
section
def szR (b : Nat) : Nat := if b < 128 then 1 else uL b
theorem Yh9 (s : ByteArray) (w : World) (h : 0 < s.size) : Calls Tryz.prog 150 #[.string s] w fun e w' => e = .returned (.int .i64 (szR (s[0]'h).toNat : Nat)) ∧ w = w' := by
 have hne : s.toList.isEmpty = false := Zj4 (by omega)
 obtain ⟨x, hx⟩ := eX (s[0]'h)
 have h256 : x.toNat < 256 := x.toNat_lt
 rw [hx]
 by_cases c0 : x.toNat < 128
 ·have HR : Hid (szR x.toNat = 1) := zz (by unfold szR; rw [if_pos c0])
  go_enter Tryz.func150, Tryz.ntmps150
  go_wp2_with fail
  go_ret
  exact ⟨ret_i (by rw [HR.out]; rfl), rfl⟩
 obtain ⟨v1, h1⟩ := eX (inB (x.toNat : Int) 194 223)
 obtain ⟨v2, h2⟩ := eX (inB (x.toNat : Int) 224 239)
 obtain ⟨v3, h3⟩ := eX (inB (x.toNat : Int) 240 244)
 have H1 := zz h1
 have H2 := zz h2
 have H3 := zz h3
 have HR : Hid ((szR x.toNat : Int) = if v1 then 2 else if v2 then 3 else if v3 then 4 else 0) := zz (by
  subst h1 h2 h3
  unfold szR uL inB
  rw [if_neg c0]
  simp only [Bool.and_eq_true, decide_eq_true_eq]
  (repeat' split) <;> omega)
 clear h1 h2 h3
 cases v1
 all_goals cases v2
 all_goals cases v3
 all_goals
  go_enter Tryz.func150, Tryz.ntmps150
  go_wp2_with (go_at_call 60; refine (lI _ _ _ _).mono ?_; (first | rw [H1.out] | rw [H2.out] | rw [H3.out]); rintro e w' ⟨rfl, rfl⟩)
  go_ret
  exact ⟨ret_i (by rw [HR.out]; rfl), rfl⟩
end
section
section
variable {X lo : Nat} {p p' : PV} {ap ap' al : Option Addr} {cp cp' cl : Nat} {L us : List aA} {w w' w1 : World} {R : PV × List AV} {e : Ending}
theorem QR.stay (h : QS X lo p' ap' cp' L al cl w') (h0 : QS X lo p ap cp L al cl w) (hc : Ch (fun k => k = X ∨ k ∈ bO al) w w') (hR : R = (p', [])) : QR X lo R L (.returned (.tuple #[])) w w' := by
 subst hR
 exact ⟨rfl, ap', cp', L, al, cl, h, by simp, h0.below hc⟩
theorem QR.only (h : QS X lo p' ap' cp' L al cl w') (h0 : QS X lo p ap cp L al cl w) (hc : Ch (fun k => k = X) w w') (hR : R = (p', [])) : QR X lo R L (.returned (.tuple #[])) w w' :=
 QR.stay h h0 (hc.mono (fun i hi => .inl (.inl hi))) hR
theorem QR.base (h : QR X lo R L e w1 w') (hb : Below lo w w1) : QR X lo R L e w w' := by
 obtain ⟨h1, ap', cp', L', al', cl', h2, h3, h4⟩ := h
 exact ⟨h1, ap', cp', L', al', cl', h2, h3, hb.trans h4⟩
theorem QR.after {acts : List AV} (h : QR X lo R us e w1 w') (hb : Below lo w w1) (hu : us.map (·.A) = L.map (·.A) ++ acts) : QR X lo (R.1, acts ++ R.2) L e w w' := by
 obtain ⟨h1, ap', cp', L', al', cl', h2, h3, h4⟩ := h
 exact ⟨h1, ap', cp', L', al', cl', h2, by rw [h3, hu]; simp, hb.trans h4⟩
theorem QS.below1 (h : QS X lo p ap cp L al cl w) (hc : Ch (fun k => k = X) w w') : Below lo w w' := h.below (hc.mono (fun i hi => .inl (.inl hi)))
theorem QS.cells (h : QS X lo p ap cp L al cl w) (hc : Ch (fun k => k = X) w w') (c0 : w'.cell? ⟨X, 0, none⟩ = some (.int .i64 p'.state)) (c1 : w'.cell? ⟨X, 1, none⟩ = some (.slice ap' p'.args.length cp')) (c2 : w'.cell? ⟨X, 2, none⟩ = some (.bool p'.priv))
 (c3 : w'.cell? ⟨X, 3, none⟩ = some (.string p'.text)) (c4 : w'.cell? ⟨X, 4, none⟩ = some (.string p'.utf)) (c5 : w'.cell? ⟨X, 5, none⟩ = some (.slice al L.length cl)) (fz : ∀ o, w'.frozen? ⟨X, o, none⟩ = false) (ha : (ap' = ap ∧ cp' = cp ∧ p'.args = p.args) ∨ (ap' = none ∧ cp' = 0 ∧ p'.args = [])) : QS X lo p' ap' cp' L al cl w' :=
 ⟨h.ps.cells hc c0 c1 c2 c3 c4 fz ha, c5, h.lo⟩
end
theorem Yd8 (b : UInt8) (u : Nat) (w : World) (h : szR b.toNat = u) : Calls Tryz.prog 150 #[.string ⟨#[b]⟩] w fun e w' => e = .returned (.int .i64 u) ∧ w = w' := by
 subst h
 exact Yh9 ⟨#[b]⟩ w (by show 0 < 1; omega)
theorem skip_r (X lo : Nat) (ap al : Option Addr) (cp cl : Nat) (L : List aA) (b : UInt8) (w : World) (h : QS X lo (pst 3) ap cp L al cl w) (hL : L.length ≤ 1048576) :
 Calls Tryz.prog 136 #[.pointer (some ⟨X, 0, none⟩), .int .i64 b.toNat] w (fun e w' => QR X lo (sstep (pst 3) b) L e w w') := by
 have HP := zz h
 have k_0 := h.ps.c0
 have k_1 := h.ps.c1
 have k_2 := h.ps.c2
 have k_3 := h.ps.c3
 have k_4 := h.ps.c4
 have k_5 := h.c5
 have kf := h.ps.fz
 have klt := h.ps.lt
 have hlo : lo ≤ w.heap.size := by have := h.lo; omega
 have h256 : b.toNat < 256 := b.toNat_lt
 clear h
 obtain ⟨Gr, hG⟩ := eX (sstep (pst 3) b)
 have HGG := zz hG
 rw [hG]
 clear hG
 obtain ⟨n, hn⟩ := eX (b.toNat)
 rw [hn] at h256 ⊢
 have HN := zz hn
 clear hn
 by_cases h27 : n = 27
 case pos =>
  have HR : Hid (Gr = (pst 1, [])) := zz (by rw [← HGG.out]; exact ss1 HN.out h27)
  have g27 : ((n : Int) == 27) = true := by subst h27; rfl
  clear h27
  go_enter Tryz.func136, Tryz.ntmps136
  go_wp2_with fail
  refine bodyPost_end (v := .tuple #[]) (by simp [results, Tryz.results136]) rfl ?_
  refine QR.only (p' := pst 1) (HP.out.cells ?hc ?_ ?_ ?_ ?_ ?_ ?_ ?_ (.inl ⟨rfl, rfl, rfl⟩)) HP.out ?hc HR.out
  case hc => repeat (first | (with_reducible exact Ch.refl) | (with_reducible refine Ch.alloc ?_ _) | (with_reducible refine Ch.drew ?_) | (with_reducible refine Ch.setB ?_ _ _))
  all_goals first | (intro o; simp [go_sem, kf, klt]; done) | (simp [go_sem, k_0, k_1, k_2, k_3, k_4, k_5, klt, pst, pz]; done)
 have g27 : ((n : Int) == 27) = false := beq_eq_false_iff_ne.2 (by omega)
 obtain ⟨v, hv⟩ := eX (inB (n : Int) 64 126)
 have HV := zz hv
 clear hv
 cases v
 case false =>
  have HR : Hid (Gr = (pst 3, [])) := zz (by rw [← HGG.out]; exact ss3 HN.out h27 (by have := HV.out; simp [inB] at this; omega))
  go_enter Tryz.func136, Tryz.ntmps136
  go_wp2_with (go_at_call 60; refine (lI _ _ _ _).mono ?_; rw [HV.out]; rintro e w' ⟨rfl, rfl⟩)
  refine bodyPost_end (v := .tuple #[]) (by simp [results, Tryz.results136]) rfl ?_
  exact QR.only HP.out HP.out Ch.refl HR.out
 have HR : Hid (Gr = (pz, [])) := zz (by rw [← HGG.out]; exact ss2 HN.out (by have := HV.out; simp [inB] at this; omega))
 go_enter Tryz.func136, Tryz.ntmps136
 go_wp2_with (go_at_call 60; refine (lI _ _ _ _).mono ?_; rw [HV.out]; rintro e w' ⟨rfl, rfl⟩)
 refine (gR X lo _ ap al cp cl L _ HP.out).mono ?_
 rintro e w1 ⟨rfl, g, hg, hq, hc⟩
 have HQ := zz hq
 have HC := zz hc
 clear hq hc
 go_wp2_with fail
 refine bodyPost_end (v := .tuple #[]) (by simp [results, Tryz.results136]) rfl ?_
 exact QR.only HQ.out HP.out HC.out HR.out
theorem plain_r (X lo : Nat) (ap al : Option Addr) (cp cl : Nat) (L : List aA) (b : UInt8) (w : World) (h : QS X lo pz ap cp L al cl w) (hL : L.length ≤ 1048576) :
 Calls Tryz.prog 140 #[.pointer (some ⟨X, 0, none⟩), .int .i64 b.toNat] w (fun e w' => QR X lo (gstep b) L e w w') := by
 have HP := zz h
 have k_0 := h.ps.c0
 have k_1 := h.ps.c1
 have k_2 := h.ps.c2
 have k_3 := h.ps.c3
 have k_4 := h.ps.c4
 have k_5 := h.c5
 have kf := h.ps.fz
 have klt := h.ps.lt
 have hlo : lo ≤ w.heap.size := by have := h.lo; omega
 have h256 : b.toNat < 256 := b.toNat_lt
 clear h
 obtain ⟨Gr, hG⟩ := eX (gstep b)
 have HGG := zz hG
 rw [hG]
 clear hG
 obtain ⟨n, hn⟩ := eX (b.toNat)
 rw [hn] at h256 ⊢
 have HN := zz hn
 clear hn
 by_cases h27 : n = 27
 case pos =>
  have HR : Hid (Gr = (pst 1, [])) := zz (by rw [← HGG.out]; exact gs1 (HN.out.trans h27))
  have g27 : ((n : Int) == 27) = true := by subst h27; rfl
  clear h27
  go_enter Tryz.func140, Tryz.ntmps140
  go_wp2_with fail
  refine bodyPost_end (v := .tuple #[]) (by simp [results, Tryz.results140]) rfl ?_
  refine QR.only (p' := pst 1) (HP.out.cells ?hc ?_ ?_ ?_ ?_ ?_ ?_ ?_ (.inl ⟨rfl, rfl, rfl⟩)) HP.out ?hc HR.out
  case hc => repeat (first | (with_reducible exact Ch.refl) | (with_reducible refine Ch.alloc ?_ _) | (with_reducible refine Ch.drew ?_) | (with_reducible refine Ch.setB ?_ _ _))
  all_goals first | (intro o; simp [go_sem, kf, klt]; done) | (simp [go_sem, k_0, k_1, k_2, k_3, k_4, k_5, klt, pst, pz]; done)
 have g27 : ((n : Int) == 27) = false := beq_eq_false_iff_ne.2 (by omega)
 obtain ⟨c, hc⟩ := eX (ctl n)
 have HCC := zz hc
 have HCT : Hid (ctlI (n : Int) = c) := zz (by rw [Zt7]; exact hc)
 clear hc
 have hne : ¬ b.toNat = 27 := by rw [HN.out]; exact h27
 have HNE := zz hne
 clear hne
 cases c
 case true =>
  have HR : Hid (Gr = (pz, [⟨2, n, false, [], e0⟩])) := zz (by rw [← HGG.out, ← HN.out]; exact gs2 HNE.out (by rw [HN.out]; exact HCC.out))
  go_enter Tryz.func140, Tryz.ntmps140
  go_wp2_with (go_at_call 78; refine (cR _ _).mono ?_; rw [HCT.out]; rintro e w' ⟨rfl, rfl⟩)
  refine (Zb9 X lo pz ap al none cp cl 0 L ⟨2, n, false, [], e0⟩ _ HP.out (Fr.nil _ _ _ _ _ _) (by simp [bO]) hL (by simp)).mono ?_
  rintro e w1 hq
  have HQ := zz hq
  obtain ⟨rfl, _⟩ := hq
  go_wp2_with fail
  refine bodyPost_end (v := .tuple #[]) (by simp [results, Tryz.results140]) rfl ?_
  rw [HR.out]
  exact HQ.out
 obtain ⟨v, hv⟩ := eX (inB (n : Int) 32 126)
 have HV := zz hv
 clear hv
 cases v
 case true =>
  have HR : Hid (Gr = (pz, [pr n])) := zz (by rw [← HGG.out, ← HN.out]; exact gs3 HNE.out (by rw [HN.out]; exact HCC.out) (by rw [HN.out]; have := HV.out; simp [inB] at this; omega))
  go_enter Tryz.func140, Tryz.ntmps140
  go_wp2_with (first | (go_at_call 78; refine (cR _ _).mono ?_; rw [HCT.out]; rintro e w' ⟨rfl, rfl⟩) | (go_at_call 60; refine (lI _ _ _ _).mono ?_; rw [HV.out]; rintro e w' ⟨rfl, rfl⟩))
  refine (Zb9 X lo pz ap al none cp cl 0 L ⟨1, n, false, [], e0⟩ _ HP.out (Fr.nil _ _ _ _ _ _) (by simp [bO]) hL (by simp)).mono ?_
  rintro e w1 hq
  have HQ := zz hq
  obtain ⟨rfl, _⟩ := hq
  go_wp2_with fail
  refine bodyPost_end (v := .tuple #[]) (by simp [results, Tryz.results140]) rfl ?_
  rw [HR.out]
  exact HQ.out
 have hnv : ¬ (32 ≤ n ∧ n ≤ 126) := by have := HV.out; simp [inB] at this; omega
 by_cases h128 : n < 128
 case pos =>
  have HR : Hid (Gr = (pz, [])) := zz (by rw [← HGG.out]; exact gs4 HNE.out (by rw [HN.out]; exact HCC.out) (by rw [HN.out]; exact hnv) (by rw [HN.out]; exact h128))
  have g128 : decide ((n : Int) < 128) = true := decide_eq_true (by omega)
  have g128' : (n : Int) < 128 := by omega
  go_enter Tryz.func140, Tryz.ntmps140
  go_wp2_with (first | (go_at_call 78; refine (cR _ _).mono ?_; rw [HCT.out]; rintro e w' ⟨rfl, rfl⟩) | (go_at_call 60; refine (lI _ _ _ _).mono ?_; rw [HV.out]; rintro e w' ⟨rfl, rfl⟩))
  refine bodyPost_end (v := .tuple #[]) (by simp [results, Tryz.results140]) rfl ?_
  exact QR.only HP.out HP.out Ch.refl HR.out
 have g128 : ¬ (n : Int) < 128 := by omega
 have hw8 : IntKind.u8.wrap (n : Int) = n := u8_in (by omega) (by omega)
 have hcv := conv1 w b n HN.out
 by_cases hu : 0 < uL n
 case pos =>
  have HR : Hid (Gr = (⟨6, [], false, e0, ⟨#[b]⟩⟩, [])) := zz (by rw [← HGG.out]; exact gs5 (by rw [HN.out]; omega) (by rw [HN.out]; exact hu))
  obtain ⟨u, hu2⟩ := eX (uL n)
  have HSZ : Hid (szR b.toNat = u) := zz (by rw [HN.out]; unfold szR; rw [if_neg h128]; exact hu2)
  have hu1 : (1 : Int) < (u : Int) := by have := Zm7 hu; omega
  clear hu hu2
  go_enter Tryz.func140, Tryz.ntmps140
  go_upto_region 10 with (first | (go_at_call 78; refine (cR _ _).mono ?_; rw [HCT.out]; rintro e w' ⟨rfl, rfl⟩) | (go_at_call 60; refine (lI _ _ _ _).mono ?_; rw [HV.out]; rintro e w' ⟨rfl, rfl⟩) | (go_at_call 150; refine (Yd8 b _ _ HSZ.out).mono ?_; rintro e w' ⟨rfl, rfl⟩))
  clear hcv
  obtain ⟨x, hx⟩ : ∃ x, (w.setCell ⟨X, 0, none⟩ (.int .i64 6)).alloc (.cells #[.int .u8 n] 5) = x := ⟨_, rfl⟩
  have HCX : Hid (Ch (fun k => k = X) w x) := zz (by rw [← hx]; exact (Ch.set1 _ _ _ _).alloc _)
  have x_0 : x.cell? ⟨X, 0, none⟩ = some (.int .i64 6) := by rw [← hx]; simp [go_sem, k_0, klt]
  have x_1 : x.cell? ⟨X, 1, none⟩ = some (.slice ap 0 cp) := by rw [← hx]; simp [go_sem, k_1, klt, pz]
  have x_2 : x.cell? ⟨X, 2, none⟩ = some (.bool false) := by rw [← hx]; simp [go_sem, k_2, klt, pz]
  have x_3 : x.cell? ⟨X, 3, none⟩ = some (.string e0) := by rw [← hx]; simp [go_sem, k_3, klt, pz]
  have x_4 : x.cell? ⟨X, 4, none⟩ = some (.string e0) := by rw [← hx]; simp [go_sem, k_4, klt, pz]
  have x_5 : x.cell? ⟨X, 5, none⟩ = some (.slice al L.length cl) := by rw [← hx]; simp [go_sem, k_5, klt]
  have xf : ∀ o, x.frozen? ⟨X, o, none⟩ = false := by intro o; rw [← hx]; simp [go_sem, kf, klt]
  have xlt := Nat.lt_of_lt_of_le klt HCX.out.size
  rw [hx]
  clear hx
  have hcx := conv1 x b n HN.out
  go_wp2_with fail
  clear hcx
  refine bodyPost_end (v := .tuple #[]) (by simp [results, Tryz.results140]) rfl ?_
  refine QR.only (p' := ⟨6, [], false, e0, ⟨#[b]⟩⟩) (HP.out.cells (HCX.out.trans ?hc (fun i hi => .inl hi)) ?_ ?_ ?_ ?_ ?_ ?_ ?_ (.inl ⟨rfl, rfl, rfl⟩)) HP.out (HCX.out.trans ?hc (fun i hi => .inl hi)) HR.out
  case hc => repeat (first | (with_reducible exact Ch.refl) | (with_reducible refine Ch.alloc ?_ _) | (with_reducible refine Ch.drew ?_) | (with_reducible refine Ch.setB ?_ _ _))
  all_goals first | (intro o; simp [go_sem, xf, xlt]; done) | (simp [go_sem, x_0, x_1, x_2, x_3, x_4, x_5, xlt]; done)
 have HR : Hid (Gr = (pz, [pr 65533])) := zz (by rw [← HGG.out]; exact gs6 (by rw [HN.out]; omega) (by rw [HN.out]; exact hu))
 have HSZ : Hid (szR b.toNat = 0) := zz (by rw [HN.out]; unfold szR; rw [if_neg h128]; omega)
 clear hu
 go_enter Tryz.func140, Tryz.ntmps140
 go_wp2_with (first | (go_at_call 78; refine (cR _ _).mono ?_; rw [HCT.out]; rintro e w' ⟨rfl, rfl⟩) | (go_at_call 60; refine (lI _ _ _ _).mono ?_; rw [HV.out]; rintro e w' ⟨rfl, rfl⟩) | (go_at_call 150; refine (Yd8 b _ _ HSZ.out).mono ?_; rintro e w' ⟨rfl, rfl⟩))
 clear hcv
 refine (Zb9 X lo pz ap al none cp cl 0 L ⟨1, 65533, false, [], e0⟩ _ (HP.out.keep (bA)) (Fr.nil _ _ _ _ _ _) (by simp [bO]) hL (by simp)).mono ?_
 rintro e w1 hq
 have HQ := zz (hq.base ((Below.refl lo w).alloc hlo _))
 obtain ⟨rfl, _⟩ := hq
 go_wp2_with fail
 refine bodyPost_end (v := .tuple #[]) (by simp [results, Tryz.results140]) rfl ?_
 rw [HR.out]
 exact HQ.out
end
section
theorem escape_r (X lo : Nat) (ap al : Option Addr) (cp cl : Nat) (L : List aA) (b : UInt8) (w : World) (h : QS X lo (pst 1) ap cp L al cl w) (hL : L.length ≤ 1048576) :
 Calls Tryz.prog 134 #[.pointer (some ⟨X, 0, none⟩), .int .i64 b.toNat] w (fun e w' => QR X lo (estep b) L e w w') := by
 have HP := zz h
 have k_0 := h.ps.c0
 have k_1 := h.ps.c1
 have k_2 := h.ps.c2
 have k_3 := h.ps.c3
 have k_4 := h.ps.c4
 have k_5 := h.c5
 have kf := h.ps.fz
 have klt := h.ps.lt
 have hlo : lo ≤ w.heap.size := by have := h.lo; omega
 have h256 : b.toNat < 256 := b.toNat_lt
 clear h
 obtain ⟨Gr, hG⟩ := eX (estep b)
 have HGG := zz hG
 rw [hG]
 clear hG
 obtain ⟨n, hn⟩ := eX (b.toNat)
 rw [hn] at h256 ⊢
 have HN := zz hn
 clear hn
 by_cases h91 : n = 91
 case pos =>
  have HR : Hid (Gr = (⟨2, [-1], false, e0, e0⟩, [])) := zz (by rw [← HGG.out]; exact es1 HN.out h91)
  have g91 : ((n : Int) == 91) = true := by subst h91; rfl
  clear h91
  go_enter Tryz.func134, Tryz.ntmps134
  go_wp2_with fail
  refine bodyPost_end (v := .tuple #[]) (by simp [results, Tryz.results134]) rfl ?_
  refine QR.only (p' := ⟨2, [-1], false, e0, e0⟩) (ap' := some ⟨w.heap.size, 0, none⟩) (cp' := 1) ⟨HP.out.ps.cellsNew ?hc (Nat.le_refl _) (Zq9 _ _ _ _ (by simp [World.setCell]) (by simp [World.setCell]; omega)) ?_ ?_ ?_ ?_ ?_ ?_, ?_, HP.out.lo⟩ HP.out ?hc HR.out
  case hc => repeat (first | (with_reducible exact Ch.refl) | (with_reducible refine Ch.alloc ?_ _) | (with_reducible refine Ch.drew ?_) | (with_reducible refine Ch.setB ?_ _ _))
  all_goals first | (intro o; simp [go_sem, kf, klt]; done) | (simp [go_sem, k_0, k_1, k_2, k_3, k_4, k_5, klt, pst, pz]; done)
 have g91 : ((n : Int) == 91) = false := beq_eq_false_iff_ne.2 (by omega)
 by_cases h93 : n = 93
 case pos =>
  have HR : Hid (Gr = (pst 4, [])) := zz (by rw [← HGG.out]; exact es2 HN.out h93)
  have g93 : ((n : Int) == 93) = true := by subst h93; rfl
  clear h93
  go_enter Tryz.func134, Tryz.ntmps134
  go_wp2_with fail
  refine bodyPost_end (v := .tuple #[]) (by simp [results, Tryz.results134]) rfl ?_
  refine QR.only (p' := pst 4) (HP.out.cells ?hc ?_ ?_ ?_ ?_ ?_ ?_ ?_ (.inl ⟨rfl, rfl, rfl⟩)) HP.out ?hc HR.out
  case hc => repeat (first | (with_reducible exact Ch.refl) | (with_reducible refine Ch.alloc ?_ _) | (with_reducible refine Ch.drew ?_) | (with_reducible refine Ch.setB ?_ _ _))
  all_goals first | (intro o; simp [go_sem, kf, klt]; done) | (simp [go_sem, k_0, k_1, k_2, k_3, k_4, k_5, klt, pst, pz]; done)
 have g93 : ((n : Int) == 93) = false := beq_eq_false_iff_ne.2 (by omega)
 by_cases h27 : n = 27
 case pos =>
  have HR : Hid (Gr = (pst 1, [])) := zz (by rw [← HGG.out]; exact es3 HN.out h27)
  have g27 : ((n : Int) == 27) = true := by subst h27; rfl
  clear h27
  go_enter Tryz.func134, Tryz.ntmps134
  go_wp2_with fail
  refine bodyPost_end (v := .tuple #[]) (by simp [results, Tryz.results134]) rfl ?_
  exact QR.only HP.out HP.out Ch.refl HR.out
 have g27 : ((n : Int) == 27) = false := beq_eq_false_iff_ne.2 (by omega)
 obtain ⟨c, hc⟩ := eX (esc n)
 have HCC := zz hc
 cases c
 case false =>
  have HR : Hid (Gr = (pz, [])) := zz (by rw [← HGG.out]; exact es5 HN.out h91 h93 h27 HCC.out)
  simp only [esc, Bool.or_eq_false_iff, beq_eq_false_iff_ne] at hc
  have q55 : ((n : Int) == 55) = false := beq_eq_false_iff_ne.2 (by omega)
  have q56 : ((n : Int) == 56) = false := beq_eq_false_iff_ne.2 (by omega)
  have q68 : ((n : Int) == 68) = false := beq_eq_false_iff_ne.2 (by omega)
  have q69 : ((n : Int) == 69) = false := beq_eq_false_iff_ne.2 (by omega)
  have q77 : ((n : Int) == 77) = false := beq_eq_false_iff_ne.2 (by omega)
  have q99 : ((n : Int) == 99) = false := beq_eq_false_iff_ne.2 (by omega)
  clear hc
  go_enter Tryz.func134, Tryz.ntmps134
  go_wp2_with fail
  refine (gR X lo _ ap al cp cl L _ HP.out).mono ?_
  rintro e w1 ⟨rfl, g, hg, hq, hc⟩
  have HQ := zz hq
  have HC := zz hc
  clear hq hc
  go_wp2_with fail
  refine bodyPost_end (v := .tuple #[]) (by simp [results, Tryz.results134]) rfl ?_
  exact QR.only HQ.out HP.out HC.out HR.out
 have HR : Hid (Gr = (pz, [⟨3, n, false, [], e0⟩])) := zz (by rw [← HGG.out]; exact es4 HN.out h91 h93 h27 HCC.out)
 simp only [esc, Bool.or_eq_true, beq_iff_eq] at hc
 have hcs : n = 55 ∨ n = 56 ∨ n = 68 ∨ n = 69 ∨ n = 77 ∨ n = 99 := by omega
 clear hc
 rcases hcs with hc | hc | hc | hc | hc | hc
 ·have q55 : ((n : Int) == 55) = true := by rw [hc]; rfl
  have q56 : ((n : Int) == 56) = false := beq_eq_false_iff_ne.2 (by omega)
  have q68 : ((n : Int) == 68) = false := beq_eq_false_iff_ne.2 (by omega)
  have q69 : ((n : Int) == 69) = false := beq_eq_false_iff_ne.2 (by omega)
  have q77 : ((n : Int) == 77) = false := beq_eq_false_iff_ne.2 (by omega)
  have q99 : ((n : Int) == 99) = false := beq_eq_false_iff_ne.2 (by omega)
  clear hc
  go_enter Tryz.func134, Tryz.ntmps134
  go_wp2_with fail
  refine (gR X lo _ ap al cp cl L _ HP.out).mono ?_
  rintro e w1 ⟨rfl, g, hg, hq, hc⟩
  have HQ := zz hq
  have HC := zz hc
  clear hq hc
  go_wp2_with fail
  refine (Zb9 X lo pz (some ⟨g, 0, none⟩) al none 0 cl 0 L ⟨3, n, false, [], e0⟩ _ HQ.out (Fr.nil _ _ _ _ _ _) (by simp [bO]) hL (by simp)).mono ?_
  rintro e w2 hq
  have HQ2 := zz (hq.base (HP.out.below1 HC.out))
  obtain ⟨rfl, _⟩ := hq
  go_wp2_with fail
  refine bodyPost_end (v := .tuple #[]) (by simp [results, Tryz.results134]) rfl ?_
  rw [HR.out]
  exact HQ2.out
 ·have q55 : ((n : Int) == 55) = false := beq_eq_false_iff_ne.2 (by omega)
  have q56 : ((n : Int) == 56) = true := by rw [hc]; rfl
  have q68 : ((n : Int) == 68) = false := beq_eq_false_iff_ne.2 (by omega)
  have q69 : ((n : Int) == 69) = false := beq_eq_false_iff_ne.2 (by omega)
  have q77 : ((n : Int) == 77) = false := beq_eq_false_iff_ne.2 (by omega)
  have q99 : ((n : Int) == 99) = false := beq_eq_false_iff_ne.2 (by omega)
  clear hc
  go_enter Tryz.func134, Tryz.ntmps134
  go_wp2_with fail
  refine (gR X lo _ ap al cp cl L _ HP.out).mono ?_
  rintro e w1 ⟨rfl, g, hg, hq, hc⟩
  have HQ := zz hq
  have HC := zz hc
  clear hq hc
  go_wp2_with fail
  refine (Zb9 X lo pz (some ⟨g, 0, none⟩) al none 0 cl 0 L ⟨3, n, false, [], e0⟩ _ HQ.out (Fr.nil _ _ _ _ _ _) (by simp [bO]) hL (by simp)).mono ?_
  rintro e w2 hq
  have HQ2 := zz (hq.base (HP.out.below1 HC.out))
  obtain ⟨rfl, _⟩ := hq
  go_wp2_with fail
  refine bodyPost_end (v := .tuple #[]) (by simp [results, Tryz.results134]) rfl ?_
  rw [HR.out]
  exact HQ2.out
 ·have q55 : ((n : Int) == 55) = false := beq_eq_false_iff_ne.2 (by omega)
  have q56 : ((n : Int) == 56) = false := beq_eq_false_iff_ne.2 (by omega)
  have q68 : ((n : Int) == 68) = true := by rw [hc]; rfl
  have q69 : ((n : Int) == 69) = false := beq_eq_false_iff_ne.2 (by omega)
  have q77 : ((n : Int) == 77) = false := beq_eq_false_iff_ne.2 (by omega)
  have q99 : ((n : Int) == 99) = false := beq_eq_false_iff_ne.2 (by omega)
  clear hc
  go_enter Tryz.func134, Tryz.ntmps134
  go_wp2_with fail
  refine (gR X lo _ ap al cp cl L _ HP.out).mono ?_
  rintro e w1 ⟨rfl, g, hg, hq, hc⟩
  have HQ := zz hq
  have HC := zz hc
  clear hq hc
  go_wp2_with fail
  refine (Zb9 X lo pz (some ⟨g, 0, none⟩) al none 0 cl 0 L ⟨3, n, false, [], e0⟩ _ HQ.out (Fr.nil _ _ _ _ _ _) (by simp [bO]) hL (by simp)).mono ?_
  rintro e w2 hq
  have HQ2 := zz (hq.base (HP.out.below1 HC.out))
  obtain ⟨rfl, _⟩ := hq
  go_wp2_with fail
  refine bodyPost_end (v := .tuple #[]) (by simp [results, Tryz.results134]) rfl ?_
  rw [HR.out]
  exact HQ2.out
 ·have q55 : ((n : Int) == 55) = false := beq_eq_false_iff_ne.2 (by omega)
  have q56 : ((n : Int) == 56) = false := beq_eq_false_iff_ne.2 (by omega)
  have q68 : ((n : Int) == 68) = false := beq_eq_false_iff_ne.2 (by omega)
  have q69 : ((n : Int) == 69) = true := by rw [hc]; rfl
  have q77 : ((n : Int) == 77) = false := beq_eq_false_iff_ne.2 (by omega)
  have q99 : ((n : Int) == 99) = false := beq_eq_false_iff_ne.2 (by omega)
  clear hc
  go_enter Tryz.func134, Tryz.ntmps134
  go_wp2_with fail
  refine (gR X lo _ ap al cp cl L _ HP.out).mono ?_
  rintro e w1 ⟨rfl, g, hg, hq, hc⟩
  have HQ := zz hq
  have HC := zz hc
  clear hq hc
  go_wp2_with fail
  refine (Zb9 X lo pz (some ⟨g, 0, none⟩) al none 0 cl 0 L ⟨3, n, false, [], e0⟩ _ HQ.out (Fr.nil _ _ _ _ _ _) (by simp [bO]) hL (by simp)).mono ?_
  rintro e w2 hq
  have HQ2 := zz (hq.base (HP.out.below1 HC.out))
  obtain ⟨rfl, _⟩ := hq
  go_wp2_with fail
  refine bodyPost_end (v := .tuple #[]) (by simp [results, Tryz.results134]) rfl ?_
  rw [HR.out]
  exact HQ2.out
 ·have q55 : ((n : Int) == 55) = false := beq_eq_false_iff_ne.2 (by omega)
  have q56 : ((n : Int) == 56) = false := beq_eq_false_iff_ne.2 (by omega)
  have q68 : ((n : Int) == 68) = false := beq_eq_false_iff_ne.2 (by omega)
  have q69 : ((n : Int) == 69) = false := beq_eq_false_iff_ne.2 (by omega)
  have q77 : ((n : Int) == 77) = true := by rw [hc]; rfl
  have q99 : ((n : Int) == 99) = false := beq_eq_false_iff_ne.2 (by omega)
  clear hc
  go_enter Tryz.func134, Tryz.ntmps134
  go_wp2_with fail
  refine (gR X lo _ ap al cp cl L _ HP.out).mono ?_
  rintro e w1 ⟨rfl, g, hg, hq, hc⟩
  have HQ := zz hq
  have HC := zz hc
  clear hq hc
  go_wp2_with fail
  refine (Zb9 X lo pz (some ⟨g, 0, none⟩) al none 0 cl 0 L ⟨3, n, false, [], e0⟩ _ HQ.out (Fr.nil _ _ _ _ _ _) (by simp [bO]) hL (by simp)).mono ?_
  rintro e w2 hq
  have HQ2 := zz (hq.base (HP.out.below1 HC.out))
  obtain ⟨rfl, _⟩ := hq
  go_wp2_with fail
  refine bodyPost_end (v := .tuple #[]) (by simp [results, Tryz.results134]) rfl ?_
  rw [HR.out]
  exact HQ2.out
 ·have q55 : ((n : Int) == 55) = false := beq_eq_false_iff_ne.2 (by omega)
  have q56 : ((n : Int) == 56) = false := beq_eq_false_iff_ne.2 (by omega)
  have q68 : ((n : Int) == 68) = false := beq_eq_false_iff_ne.2 (by omega)
  have q69 : ((n : Int) == 69) = false := beq_eq_false_iff_ne.2 (by omega)
  have q77 : ((n : Int) == 77) = false := beq_eq_false_iff_ne.2 (by omega)
  have q99 : ((n : Int) == 99) = true := by rw [hc]; rfl
  clear hc
  go_enter Tryz.func134, Tryz.ntmps134
  go_wp2_with fail
  refine (gR X lo _ ap al cp cl L _ HP.out).mono ?_
  rintro e w1 ⟨rfl, g, hg, hq, hc⟩
  have HQ := zz hq
  have HC := zz hc
  clear hq hc
  go_wp2_with fail
  refine (Zb9 X lo pz (some ⟨g, 0, none⟩) al none 0 cl 0 L ⟨3, n, false, [], e0⟩ _ HQ.out (Fr.nil _ _ _ _ _ _) (by simp [bO]) hL (by simp)).mono ?_
  rintro e w2 hq
  have HQ2 := zz (hq.base (HP.out.below1 HC.out))
  obtain ⟨rfl, _⟩ := hq
  go_wp2_with fail
  refine bodyPost_end (v := .tuple #[]) (by simp [results, Tryz.results134]) rfl ?_
  rw [HR.out]
  exact HQ2.out
end
section
theorem Yd5 (X lo : Nat) (ap al : Option Addr) (cp cl : Nat) (L : List aA) (b : UInt8) (w : World) (h : QS X lo pz ap cp L al cl w) (hL : L.length ≤ 1048576) :
 Calls Tryz.prog 106 #[.pointer (some ⟨X, 0, none⟩), .int .i64 b.toNat] w (fun e w' => QR X lo (gstep b) L e w w') := by
 have HCA := zz (plain_r X lo ap al cp cl L b w h hL)
 have k_0 : w.cell? ⟨X, 0, none⟩ = some (.int .i64 0) := h.ps.c0
 have kf := h.ps.fz
 have klt := h.ps.lt
 clear h
 go_enter Tryz.func106, Tryz.ntmps106
 go_wp2_with fail
 refine HCA.out.mono ?_
 rintro e w1 hq
 have HQ := zz hq
 obtain ⟨rfl, _⟩ := hq
 go_wp2_with fail
 refine bodyPost_end (v := .tuple #[]) (by simp [results, Tryz.results106]) rfl ?_
 exact HQ.out
theorem Yc3 (X lo : Nat) (ap al : Option Addr) (cp cl : Nat) (L : List aA) (b : UInt8) (w : World) (h : QS X lo (pst 1) ap cp L al cl w) (hL : L.length ≤ 1048576) :
 Calls Tryz.prog 106 #[.pointer (some ⟨X, 0, none⟩), .int .i64 b.toNat] w (fun e w' => QR X lo (estep b) L e w w') := by
 have HCA := zz (escape_r X lo ap al cp cl L b w h hL)
 have k_0 : w.cell? ⟨X, 0, none⟩ = some (.int .i64 1) := h.ps.c0
 have kf := h.ps.fz
 have klt := h.ps.lt
 clear h
 go_enter Tryz.func106, Tryz.ntmps106
 go_wp2_with fail
 refine HCA.out.mono ?_
 rintro e w1 hq
 have HQ := zz hq
 obtain ⟨rfl, _⟩ := hq
 go_wp2_with fail
 refine bodyPost_end (v := .tuple #[]) (by simp [results, Tryz.results106]) rfl ?_
 exact HQ.out
theorem takeS_r (X lo : Nat) (ap al : Option Addr) (cp cl : Nat) (L : List aA) (b : UInt8) (w : World) (h : QS X lo (pst 3) ap cp L al cl w) (hL : L.length ≤ 1048576) :
 Calls Tryz.prog 106 #[.pointer (some ⟨X, 0, none⟩), .int .i64 b.toNat] w (fun e w' => QR X lo (sstep (pst 3) b) L e w w') := by
 have HCA := zz (skip_r X lo ap al cp cl L b w h hL)
 have k_0 : w.cell? ⟨X, 0, none⟩ = some (.int .i64 3) := h.ps.c0
 have kf := h.ps.fz
 have klt := h.ps.lt
 clear h
 go_enter Tryz.func106, Tryz.ntmps106
 go_wp2_with fail
 refine HCA.out.mono ?_
 rintro e w1 hq
 have HQ := zz hq
 obtain ⟨rfl, _⟩ := hq
 go_wp2_with fail
 refine bodyPost_end (v := .tuple #[]) (by simp [results, Tryz.results106]) rfl ?_
 exact HQ.out
theorem oscEnd_r (t : ByteArray) (X lo : Nat) (ap al : Option Addr) (cp cl : Nat) (L : List aA) (b : UInt8) (w : World) (h : QS X lo ⟨5, [], false, t, e0⟩ ap cp L al cl w) (hL : L.length ≤ 1048576) :
 Calls Tryz.prog 138 #[.pointer (some ⟨X, 0, none⟩), .int .i64 b.toNat] w (fun e w' => QR X lo (qstep ⟨5, [], false, t, e0⟩ b) L e w w') := by
 have HP := zz h
 have k_0 := h.ps.c0
 have k_1 := h.ps.c1
 have k_2 := h.ps.c2
 have k_3 := h.ps.c3
 have k_4 := h.ps.c4
 have k_5 := h.c5
 have kf := h.ps.fz
 have klt := h.ps.lt
 have hlo : lo ≤ w.heap.size := by have := h.lo; omega
 have h256 : b.toNat < 256 := b.toNat_lt
 clear h
 obtain ⟨Gr, hG⟩ := eX (qstep ⟨5, [], false, t, e0⟩ b)
 have HGG := zz hG
 rw [hG]
 clear hG
 obtain ⟨n, hn⟩ := eX (b.toNat)
 rw [hn] at h256 ⊢
 have HN := zz hn
 clear hn
 by_cases h92 : n = 92
 case pos =>
  have HR : Hid (Gr = (pz, [⟨5, 0, false, [], t⟩])) := zz (by rw [← HGG.out]; exact qs1 HN.out h92)
  have g92 : ((n : Int) == 92) = true := by subst h92; rfl
  clear h92
  go_enter Tryz.func138, Tryz.ntmps138
  go_wp2_with fail
  refine (gR X lo _ ap al cp cl L _ HP.out).mono ?_
  rintro e w1 ⟨rfl, g, hg, hq, hc⟩
  have HQ := zz hq
  have HC := zz hc
  have y_0 := hq.ps.c0
  have y_1 := hq.ps.c1
  have y_2 := hq.ps.c2
  have y_3 := hq.ps.c3
  have y_4 := hq.ps.c4
  have y_5 := hq.c5
  have yf := hq.ps.fz
  have ylt := hq.ps.lt
  clear hq hc
  go_wp2_with fail
  refine (Zb9 X lo pz (some ⟨g, 0, none⟩) al none 0 cl 0 L ⟨5, 0, false, [], t⟩ _ HQ.out (Fr.nil _ _ _ _ _ _) (by simp [bO]) hL (by simp)).mono ?_
  rintro e w2 hq
  have HQ2 := zz (hq.base (HP.out.below1 HC.out))
  obtain ⟨rfl, _⟩ := hq
  go_wp2_with fail
  refine bodyPost_ret (v := .tuple #[]) (by simp [results, Tryz.results138]) rfl ?_
  rw [HR.out]
  exact HQ2.out
 have g92 : ((n : Int) == 92) = false := beq_eq_false_iff_ne.2 (by omega)
 have HR : Hid (Gr = estep b) := zz (by rw [← HGG.out]; exact qs2 HN.out h92)
 go_enter Tryz.func138, Tryz.ntmps138
 go_wp2_with fail
 refine (gR X lo _ ap al cp cl L _ HP.out).mono ?_
 rintro e w1 ⟨rfl, g, hg, hq, hc⟩
 have HQ := zz hq
 have HC := zz hc
 have y_0 := hq.ps.c0
 have y_1 := hq.ps.c1
 have y_2 := hq.ps.c2
 have y_3 := hq.ps.c3
 have y_4 := hq.ps.c4
 have y_5 := hq.c5
 have yf := hq.ps.fz
 have ylt := hq.ps.lt
 clear hq hc
 have HQ3 : Hid (QS X lo (pst 1) (some ⟨g, 0, none⟩) 0 L al cl (w1.setCell ⟨X, 0, none⟩ (.int .i64 1))) := zz (by
  refine HQ.out.cells (Ch.set1 _ _ _ _) ?_ ?_ ?_ ?_ ?_ ?_ ?_ (.inl ⟨rfl, rfl, rfl⟩)
  all_goals first | (intro o; simp [go_sem, yf, ylt]; done) | (simp [go_sem, y_0, y_1, y_2, y_3, y_4, y_5, ylt, pst, pz]; done))
 have HCA : Hid (Calls Tryz.prog 106 #[.pointer (some ⟨X, 0, none⟩), .int .i64 n] (w1.setCell ⟨X, 0, none⟩ (.int .i64 1)) (fun e w' => QR X lo Gr L e w w')) := zz (by
  have h1 := (Yc3 X lo (some ⟨g, 0, none⟩) al 0 cl L b _ HQ3.out hL).mono (R' := fun e w' => QR X lo (estep b) L e w w') (fun e w' h => h.base ((HP.out.below1 HC.out).trans (HQ.out.below1 (Ch.set1 _ _ _ _))))
  rw [HN.out] at h1
  rw [HR.out]
  exact h1)
 go_wp2_with fail
 refine HCA.out.mono ?_
 rintro e w2 hq
 have HQ4 := zz hq
 obtain ⟨rfl, _⟩ := hq
 go_wp2_with fail
 refine bodyPost_end (v := .tuple #[]) (by simp [results, Tryz.results138]) rfl ?_
 exact HQ4.out
end
section
theorem osc_r (t : ByteArray) (X lo : Nat) (ap al : Option Addr) (cp cl : Nat) (L : List aA) (b : UInt8) (w : World) (h : QS X lo ⟨4, [], false, t, e0⟩ ap cp L al cl w) (hL : L.length ≤ 1048576) (hT : t.size ≤ 40) :
 Calls Tryz.prog 137 #[.pointer (some ⟨X, 0, none⟩), .int .i64 b.toNat] w (fun e w' => QR X lo (ostep ⟨4, [], false, t, e0⟩ b) L e w w') := by
 have HP := zz h
 have k_0 := h.ps.c0
 have k_1 := h.ps.c1
 have k_2 := h.ps.c2
 have k_3 := h.ps.c3
 have k_4 := h.ps.c4
 have k_5 := h.c5
 have kf := h.ps.fz
 have klt := h.ps.lt
 have hlo : lo ≤ w.heap.size := by have := h.lo; omega
 have h256 : b.toNat < 256 := b.toNat_lt
 clear h
 obtain ⟨Gr, hG⟩ := eX (ostep ⟨4, [], false, t, e0⟩ b)
 have HGG := zz hG
 rw [hG]
 clear hG
 obtain ⟨n, hn⟩ := eX (b.toNat)
 rw [hn] at h256 ⊢
 have HN := zz hn
 clear hn
 by_cases h7 : n = 7
 case pos =>
  have HR : Hid (Gr = (pz, [⟨5, 0, false, [], t⟩])) := zz (by rw [← HGG.out]; exact os1 HN.out h7)
  have g7 : ((n : Int) == 7) = true := by subst h7; rfl
  clear h7
  have hb0 : Below w.heap.size w (w.alloc (.cells #[.int .i64 5, .int .i64 0, .bool false, .slice none 0 0, .string t] 38)) := bA
  have HP0 := zz (HP.out.keep hb0)
  have HB0 : Hid (Below lo w (w.alloc (.cells #[.int .i64 5, .int .i64 0, .bool false, .slice none 0 0, .string t] 38))) := zz ((Below.refl _ _).alloc hlo _)
  clear hb0
  go_enter Tryz.func137, Tryz.ntmps137
  go_wp2_with fail
  refine (gR X lo _ ap al cp cl L _ HP0.out).mono ?_
  rintro e w1 ⟨rfl, g, hg, hq, hc⟩
  have HQ := zz hq
  have HC := zz hc
  have hz1 : w.heap.size < w1.heap.size := by have := hc.size; simp at this; omega
  have hXH : ¬ w.heap.size = X := by omega
  have b_0 : w1.cell? ⟨w.heap.size, 0, none⟩ = some (.int .i64 5) := (hc.cell (p := ⟨w.heap.size, 0, none⟩) (by simp) hXH).trans (by simp [go_sem])
  have b_1 : w1.cell? ⟨w.heap.size, 1, none⟩ = some (.int .i64 0) := (hc.cell (p := ⟨w.heap.size, 1, none⟩) (by simp) hXH).trans (by simp [go_sem])
  have b_2 : w1.cell? ⟨w.heap.size, 2, none⟩ = some (.bool false) := (hc.cell (p := ⟨w.heap.size, 2, none⟩) (by simp) hXH).trans (by simp [go_sem])
  have b_3 : w1.cell? ⟨w.heap.size, 3, none⟩ = some (.slice none 0 0) := (hc.cell (p := ⟨w.heap.size, 3, none⟩) (by simp) hXH).trans (by simp [go_sem])
  have b_4 : w1.cell? ⟨w.heap.size, 4, none⟩ = some (.string t) := (hc.cell (p := ⟨w.heap.size, 4, none⟩) (by simp) hXH).trans (by simp [go_sem])
  clear hq hc
  go_wp2_with fail
  refine (Zb9 X lo pz (some ⟨g, 0, none⟩) al none 0 cl 0 L ⟨5, 0, false, [], t⟩ _ HQ.out (Fr.nil _ _ _ _ _ _) (by simp [bO]) hL (by simp)).mono ?_
  rintro e w2 hq
  have HQ2 := zz (hq.base (HB0.out.trans (HP0.out.below1 HC.out)))
  obtain ⟨rfl, _⟩ := hq
  go_wp2_with fail
  refine bodyPost_end (v := .tuple #[]) (by simp [results, Tryz.results137]) rfl ?_
  rw [HR.out]
  exact HQ2.out
 have g7 : ((n : Int) == 7) = false := beq_eq_false_iff_ne.2 (by omega)
 by_cases h27 : n = 27
 case pos =>
  have HR : Hid (Gr = (⟨5, [], false, t, e0⟩, [])) := zz (by rw [← HGG.out]; exact os2 HN.out h27)
  have g27 : ((n : Int) == 27) = true := by subst h27; rfl
  clear h27
  go_enter Tryz.func137, Tryz.ntmps137
  go_wp2_with fail
  refine bodyPost_end (v := .tuple #[]) (by simp [results, Tryz.results137]) rfl ?_
  refine QR.only (p' := ⟨5, [], false, t, e0⟩) (HP.out.cells ?hc ?_ ?_ ?_ ?_ ?_ ?_ ?_ (.inl ⟨rfl, rfl, rfl⟩)) HP.out ?hc HR.out
  case hc => repeat (first | (with_reducible exact Ch.refl) | (with_reducible refine Ch.alloc ?_ _) | (with_reducible refine Ch.drew ?_) | (with_reducible refine Ch.setB ?_ _ _))
  all_goals first | (intro o; simp [go_sem, kf, klt]; done) | (simp [go_sem, k_0, k_1, k_2, k_3, k_4, k_5, klt, pst, pz]; done)
 have g27 : ((n : Int) == 27) = false := beq_eq_false_iff_ne.2 (by omega)
 obtain ⟨v, hv⟩ := eX (inB (n : Int) 32 126)
 have HV := zz hv
 clear hv
 cases v
 case false =>
  have HR : Hid (Gr = (⟨4, [], false, t, e0⟩, [])) := zz (by rw [← HGG.out]; exact os4 HN.out h7 h27 (fun h => by have := HV.out; simp [inB] at this; omega))
  go_enter Tryz.func137, Tryz.ntmps137
  go_wp2_with (go_at_call 60; refine (lI _ _ _ _).mono ?_; rw [HV.out]; rintro e w' ⟨rfl, rfl⟩)
  refine bodyPost_end (v := .tuple #[]) (by simp [results, Tryz.results137]) rfl ?_
  exact QR.only HP.out HP.out Ch.refl HR.out
 by_cases h40 : t.size < 40
 case neg =>
  have HR : Hid (Gr = (⟨4, [], false, t, e0⟩, [])) := zz (by rw [← HGG.out]; exact os4 HN.out h7 h27 (fun h => h40 h.2))
  have g40 : decide ((t.size : Int) < 40) = false := decide_eq_false (by omega)
  go_enter Tryz.func137, Tryz.ntmps137
  go_wp2_with (go_at_call 60; refine (lI _ _ _ _).mono ?_; rw [HV.out]; rintro e w' ⟨rfl, rfl⟩)
  all_goals first
   | (exfalso; omega)
   | (refine bodyPost_end (v := .tuple #[]) (by simp [results, Tryz.results137]) rfl ?_
      exact QR.only HP.out HP.out Ch.refl HR.out)
 have HR : Hid (Gr = (⟨4, [], false, t ++ ⟨#[b]⟩, e0⟩, [])) := zz (by rw [← HGG.out]; exact os3 HN.out ⟨by have := HV.out; simp [inB] at this; omega, h40⟩)
 have g40 : (t.size : Int) < 40 := by omega
 have hbig : ¬ 9223372036854775807 < t.size + 1 := by omega
 have hw8 : IntKind.u8.wrap (n : Int) = n := u8_in (by omega) (by omega)
 have hcv := Yi0 w.heap.size (w.alloc (.cells #[.int .u8 n] 5)).drew b n (by simp [go_sem]) HN.out
 go_enter Tryz.func137, Tryz.ntmps137
 go_upto_region 7 with (go_at_call 60; refine (lI _ _ _ _).mono ?_; rw [HV.out]; rintro e w' ⟨rfl, rfl⟩)
 refine Za4 (fun w' => w'.cell? ⟨X, 3, none⟩ = some (.string t)) (fun i => i == 13) (by kernel_rfl) k_3 ?_
 refine tW ?_ 0 rfl ?_ ?_; rotate_left
 ·intro w' hSw; go_simp; try rfl
 try simp only [Act.put,j1,j2,j3,j4,j5,j6]
 refine tW ?_ 1 rfl ?_ ?_; rotate_left
 ·intro w' hSw; go_simp; try rfl
 try simp only [Act.put,j1,j2,j3,j4,j5,j6]
 refine tW ?_ 2 rfl ?_ ?_; rotate_left
 ·intro w' hSw; go_simp; try rfl
 try simp only [Act.put,j1,j2,j3,j4,j5,j6]
 refine tW ?_ 3 rfl ?_ ?_; rotate_left
 ·intro w' hSw; go_simp; try rfl
 try simp only [Act.put,j1,j2,j3,j4,j5,j6]
 refine tL ?_ 4 rfl k_3 ?_ ?_; rotate_left
 ·intro w' hSw; go_simp; try rfl
 try simp only [Act.put,j1,j2,j3,j4,j5,j6]
 refine tW ?_ 5 rfl ?_ ?_; rotate_left
 ·intro w' hSw; go_simp; try rfl
 try simp only [Act.put,j1,j2,j3,j4,j5,j6]
 refine tW ?_ 6 rfl ?_ ?_; rotate_left
 ·intro w' hSw; go_simp; try rfl
 try simp only [Act.put,j1,j2,j3,j4,j5,j6]
 refine w1G (i := 7) (by kernel_rfl) rfl k_3 (fun K' hK => ?_)
 simp only [j1,j2,j3]
 go_simp
 have hS1 : (w.alloc (.cells #[.int .u8 n] 5)).cell? ⟨X, 3, none⟩ = some (.string t) := (World.cell?_alloc_lt _ _ _ klt).trans k_3
 refine hK.out _ _ (Or.inr hS1) ?_
 clear hK K'
 try simp only [Act.put,j1,j2,j3,j4,j5,j6]
 refine w1G (i := 8) (by kernel_rfl) rfl hS1 (fun K' hK => ?_)
 simp only [j1,j2,j3]
 go_simp
 refine hK.out _ _ (Or.inr hS1) ?_
 clear hK K'
 try simp only [Act.put,j1,j2,j3,j4,j5,j6]
 refine tW ?_ 9 rfl ?_ ?_; rotate_left
 ·intro w' hSw; go_simp; try rfl
 try simp only [Act.put,j1,j2,j3,j4,j5,j6]
 refine tW ?_ 10 rfl ?_ ?_; rotate_left
 ·intro w' hSw; go_simp; try rfl
 try simp only [Act.put,j1,j2,j3,j4,j5,j6]
 refine tW ?_ 11 rfl ?_ ?_; rotate_left
 ·intro w' hSw; go_simp; try rfl
 try simp only [Act.put,j1,j2,j3,j4,j5,j6]
 refine tW ?_ 12 rfl ?_ ?_; rotate_left
 ·intro w' hSw; go_simp; try rfl
 try simp only [Act.put,j1,j2,j3,j4,j5,j6]
 clear hcv hbig hw8
 have hb1 : Below w.heap.size w (w.alloc (.cells #[.int .u8 n] 5)).drew := (bA).drew
 obtain ⟨x, hx⟩ : ∃ x, (w.alloc (.cells #[.int .u8 n] 5)).drew = x := ⟨_, rfl⟩
 have hS2 : x.cell? ⟨X, 3, none⟩ = some (.string t) := by rw [← hx]; exact hS1
 rw [hx] at hb1 ⊢
 clear hx
 have HBX : Hid (Below w.heap.size w x) := zz hb1
 have x_0 := (hb1.cell (p := ⟨X, 0, none⟩) klt).trans k_0
 have x_1 := (hb1.cell (p := ⟨X, 1, none⟩) klt).trans k_1
 have x_2 := (hb1.cell (p := ⟨X, 2, none⟩) klt).trans k_2
 have x_3 := (hb1.cell (p := ⟨X, 3, none⟩) klt).trans k_3
 have x_4 := (hb1.cell (p := ⟨X, 4, none⟩) klt).trans k_4
 have x_5 := (hb1.cell (p := ⟨X, 5, none⟩) klt).trans k_5
 have xf := fun o => kF hb1 klt (kf o)
 have xlt := Nat.lt_of_lt_of_le klt hb1.size
 clear hb1
 refine w1G (i := 13) (by kernel_rfl) rfl hS2 (fun K' hK => ?_)
 simp only [j1,j2,j3]
 go_simp
 refine hK.out _ _ (Or.inl rfl) ?_
 clear hK K'
 try simp only [Act.put,j1,j2,j3,j4,j5,j6]
 refine wD (by kernel_rfl) ?_ _
 go_wp2_with fail
 refine bodyPost_end (v := .tuple #[]) (by simp [results, Tryz.results137]) rfl ?_
 have HCX : Ch (fun k => k = X) w x := Ch.of_below HBX.out
 refine QR.only (p' := ⟨4, [], false, t ++ ⟨#[b]⟩, e0⟩) (HP.out.cells (HCX.trans ?hc (fun i hi => .inl hi)) ?_ ?_ ?_ ?_ ?_ ?_ ?_ (.inl ⟨rfl, rfl, rfl⟩)) HP.out (HCX.trans ?hc (fun i hi => .inl hi)) HR.out
 case hc => repeat (first | (with_reducible exact Ch.refl) | (with_reducible refine Ch.alloc ?_ _) | (with_reducible refine Ch.drew ?_) | (with_reducible refine Ch.setB ?_ _ _))
 all_goals first | (intro o; simp [go_sem, xf, xlt]; done) | (simp [go_sem, x_0, x_1, x_2, x_3, x_4, x_5, xlt]; done)
end
section
theorem Zz0 {l : List UInt8} {k : Nat} (h : fitK l k) (hm : mayF (l.take k) (l.getD k 0).toNat = true) : fitK l (k + 1) := by
 intro j h1 h2
 rcases Nat.lt_succ_iff_lt_or_eq.1 h2 with h3 | rfl
 ·exact h j h1 h3
 ·exact hm
def FitR (s : ByteArray) (w : World) (e : Ending) (w' : World) : Prop := ∃ v : Bool, e = .returned (.bool v) ∧ (v = true ↔ fitK s.data.toList s.size) ∧ w = w'
theorem Zi4 (b : Nat) (l h : Nat) : inB (b : Int) l h = (decide (l ≤ b) && decide (b ≤ h)) := by
 unfold inB
 rw [Bool.eq_iff_iff]
 simp only [Bool.and_eq_true, decide_eq_true_eq]
 omega
theorem fits_r (s : ByteArray) (w : World) (hz : s.size ≤ 1048576) : Calls Tryz.prog 149 #[.string s] w (FitR s w) := by
 go_enter Tryz.func149, Tryz.ntmps149
 go_wp2_with fail
 go_loop [3] (fun i => ∃ k : Nat, (1 ≤ k ∧ (k ≤ s.size ∨ k = 1)) ∧ i = .int .i64 k ∧ Hid (fitK s.data.toList k)) (fun i => s.size - (intOf i).toNat)
 case atStart => exact ⟨1, ⟨by omega, .inr rfl⟩, rfl, zz (fun j h1 h2 => absurd h1 (by omega))⟩
 case round =>
  obtain ⟨k, ⟨hk1, hk⟩, rfl, HP⟩ := hrel
  by_cases hlt : k < s.size
  ·obtain ⟨v, hv⟩ := eX (mayF (s.data.toList.take k) (s.data.toList.getD k 0).toNat)
   have HST : Hid (v = true → fitK s.data.toList (k + 1)) := zz (fun h => Zz0 HP.out (hv.trans h))
   have HNO : Hid (v = false → ¬ fitK s.data.toList s.size) := zz (fun h hf => by
    have := hf k hk1 hlt
    rw [hv, h] at this
    cases this)
   have h0 : 0 < s.size := by omega
   obtain ⟨y, hy⟩ := eX (s[0]'h0)
   obtain ⟨x, hx⟩ := eX (s[k])
   have h256 : x.toNat < 256 := x.toNat_lt
   rw [getDL hlt, hx] at hv
   by_cases h1 : k = 1
   ·have hl : s.data.toList.take k = [y] := by
     have h2 := headL h0
     rw [hy] at h2
     rw [h1]
     cases hc : s.data.toList with
     | nil => have : s.data.toList.length = s.size := rfl; rw [hc] at this; simp at this; omega
     | cons a l => rw [hc] at h2; simp at h2; subst h2; rfl
    rw [hl] at hv
    unfold mayF at hv
    rw [Zf5, Zc9] at hv
    have HV := zz hv
    have gk : ((k : Int) == 1) = true := by rw [h1]; rfl
    clear hv hl h1
    by_cases c224 : y.toNat = 224
    ·have q224 : ((y.toNat : Int) == 224) = true := by rw [c224]; rfl
     have d237 : ¬ y.toNat = 237 := by omega
     have q237 : ((y.toNat : Int) == 237) = false := beq_eq_false_iff_ne.2 (by omega)
     have d240 : ¬ y.toNat = 240 := by omega
     have q240 : ((y.toNat : Int) == 240) = false := beq_eq_false_iff_ne.2 (by omega)
     have d244 : ¬ y.toNat = 244 := by omega
     have q244 : ((y.toNat : Int) == 244) = false := beq_eq_false_iff_ne.2 (by omega)
     have HI : Hid (inB (x.toNat : Int) 160 191 = v) := zz (by
      refine (Zi4 x.toNat 160 191).trans ?_
      rw [← HV.out]
      try simp [*])
     have HNX : Hid (v = true ∨ ¬ fitK s.data.toList s.size) := zz (by
      cases hb : v with
      | true => exact .inl rfl
      | false => exact .inr (HNO.out hb))
     cases v
     case false =>
      go_wp2_with (go_at_call 60; refine (lI _ _ _ _).mono ?_; rw [HI.out]; rintro e w' ⟨rfl, rfl⟩)
      go_ret
      exact ⟨false, rfl, ⟨fun h => (by cases h), fun h => absurd h (HNX.out.resolve_left (by simp))⟩, rfl⟩
     case true =>
      go_wp2_with (go_at_call 60; refine (lI _ _ _ _).mono ?_; rw [HI.out]; rintro e w' ⟨rfl, rfl⟩)
      go_round
      case rel => exact ⟨k + 1, ⟨by omega, by omega⟩, by go_num, zz (HST.out (by simp))⟩
      case measure => simp [intOf]; omega
    have q224 : ((y.toNat : Int) == 224) = false := beq_eq_false_iff_ne.2 (by omega)
    by_cases c237 : y.toNat = 237
    ·have q237 : ((y.toNat : Int) == 237) = true := by rw [c237]; rfl
     have d240 : ¬ y.toNat = 240 := by omega
     have q240 : ((y.toNat : Int) == 240) = false := beq_eq_false_iff_ne.2 (by omega)
     have d244 : ¬ y.toNat = 244 := by omega
     have q244 : ((y.toNat : Int) == 244) = false := beq_eq_false_iff_ne.2 (by omega)
     have HI : Hid (inB (x.toNat : Int) 128 159 = v) := zz (by
      refine (Zi4 x.toNat 128 159).trans ?_
      rw [← HV.out]
      try simp [*])
     have HNX : Hid (v = true ∨ ¬ fitK s.data.toList s.size) := zz (by
      cases hb : v with
      | true => exact .inl rfl
      | false => exact .inr (HNO.out hb))
     cases v
     case false =>
      go_wp2_with (go_at_call 60; refine (lI _ _ _ _).mono ?_; rw [HI.out]; rintro e w' ⟨rfl, rfl⟩)
      go_ret
      exact ⟨false, rfl, ⟨fun h => (by cases h), fun h => absurd h (HNX.out.resolve_left (by simp))⟩, rfl⟩
     case true =>
      go_wp2_with (go_at_call 60; refine (lI _ _ _ _).mono ?_; rw [HI.out]; rintro e w' ⟨rfl, rfl⟩)
      go_round
      case rel => exact ⟨k + 1, ⟨by omega, by omega⟩, by go_num, zz (HST.out (by simp))⟩
      case measure => simp [intOf]; omega
    have q237 : ((y.toNat : Int) == 237) = false := beq_eq_false_iff_ne.2 (by omega)
    by_cases c240 : y.toNat = 240
    ·have q240 : ((y.toNat : Int) == 240) = true := by rw [c240]; rfl
     have d244 : ¬ y.toNat = 244 := by omega
     have q244 : ((y.toNat : Int) == 244) = false := beq_eq_false_iff_ne.2 (by omega)
     have HI : Hid (inB (x.toNat : Int) 144 191 = v) := zz (by
      refine (Zi4 x.toNat 144 191).trans ?_
      rw [← HV.out]
      try simp [*])
     have HNX : Hid (v = true ∨ ¬ fitK s.data.toList s.size) := zz (by
      cases hb : v with
      | true => exact .inl rfl
      | false => exact .inr (HNO.out hb))
     cases v
     case false =>
      go_wp2_with (go_at_call 60; refine (lI _ _ _ _).mono ?_; rw [HI.out]; rintro e w' ⟨rfl, rfl⟩)
      go_ret
      exact ⟨false, rfl, ⟨fun h => (by cases h), fun h => absurd h (HNX.out.resolve_left (by simp))⟩, rfl⟩
     case true =>
      go_wp2_with (go_at_call 60; refine (lI _ _ _ _).mono ?_; rw [HI.out]; rintro e w' ⟨rfl, rfl⟩)
      go_round
      case rel => exact ⟨k + 1, ⟨by omega, by omega⟩, by go_num, zz (HST.out (by simp))⟩
      case measure => simp [intOf]; omega
    have q240 : ((y.toNat : Int) == 240) = false := beq_eq_false_iff_ne.2 (by omega)
    by_cases c244 : y.toNat = 244
    ·have q244 : ((y.toNat : Int) == 244) = true := by rw [c244]; rfl
     have HI : Hid (inB (x.toNat : Int) 128 143 = v) := zz (by
      refine (Zi4 x.toNat 128 143).trans ?_
      rw [← HV.out]
      try simp [*])
     have HNX : Hid (v = true ∨ ¬ fitK s.data.toList s.size) := zz (by
      cases hb : v with
      | true => exact .inl rfl
      | false => exact .inr (HNO.out hb))
     cases v
     case false =>
      go_wp2_with (go_at_call 60; refine (lI _ _ _ _).mono ?_; rw [HI.out]; rintro e w' ⟨rfl, rfl⟩)
      go_ret
      exact ⟨false, rfl, ⟨fun h => (by cases h), fun h => absurd h (HNX.out.resolve_left (by simp))⟩, rfl⟩
     case true =>
      go_wp2_with (go_at_call 60; refine (lI _ _ _ _).mono ?_; rw [HI.out]; rintro e w' ⟨rfl, rfl⟩)
      go_round
      case rel => exact ⟨k + 1, ⟨by omega, by omega⟩, by go_num, zz (HST.out (by simp))⟩
      case measure => simp [intOf]; omega
    have q244 : ((y.toNat : Int) == 244) = false := beq_eq_false_iff_ne.2 (by omega)
    have HI : Hid (inB (x.toNat : Int) 128 191 = v) := zz (by
     refine (Zi4 x.toNat 128 191).trans ?_
     rw [← HV.out]
     try simp [*])
    have HNX : Hid (v = true ∨ ¬ fitK s.data.toList s.size) := zz (by
     cases hb : v with
     | true => exact .inl rfl
     | false => exact .inr (HNO.out hb))
    cases v
    case false =>
     go_wp2_with (go_at_call 60; refine (lI _ _ _ _).mono ?_; rw [HI.out]; rintro e w' ⟨rfl, rfl⟩)
     go_ret
     exact ⟨false, rfl, ⟨fun h => (by cases h), fun h => absurd h (HNX.out.resolve_left (by simp))⟩, rfl⟩
    case true =>
     go_wp2_with (go_at_call 60; refine (lI _ _ _ _).mono ?_; rw [HI.out]; rintro e w' ⟨rfl, rfl⟩)
     go_round
     case rel => exact ⟨k + 1, ⟨by omega, by omega⟩, by go_num, zz (HST.out (by simp))⟩
     case measure => simp [intOf]; omega
   ·have hll : (s.data.toList.take k).length ≠ 1 := by
     have : s.data.toList.length = s.size := rfl
     rw [List.length_take]; omega
    unfold mayF at hv
    rw [(Zv2 hll).1, (Zv2 hll).2] at hv
    have HV := zz hv
    have gk : ((k : Int) == 1) = false := beq_eq_false_iff_ne.2 (by omega)
    clear hv
    have HI : Hid (inB (x.toNat : Int) 128 191 = v) := zz (by
     refine (Zi4 x.toNat 128 191).trans ?_
     rw [← HV.out]
     try simp [*])
    have HNX : Hid (v = true ∨ ¬ fitK s.data.toList s.size) := zz (by
     cases hb : v with
     | true => exact .inl rfl
     | false => exact .inr (HNO.out hb))
    cases v
    case false =>
     go_wp2_with (go_at_call 60; refine (lI _ _ _ _).mono ?_; rw [HI.out]; rintro e w' ⟨rfl, rfl⟩)
     go_ret
     exact ⟨false, rfl, ⟨fun h => (by cases h), fun h => absurd h (HNX.out.resolve_left (by simp))⟩, rfl⟩
    case true =>
     go_wp2_with (go_at_call 60; refine (lI _ _ _ _).mono ?_; rw [HI.out]; rintro e w' ⟨rfl, rfl⟩)
     go_round
     case rel => exact ⟨k + 1, ⟨by omega, by omega⟩, by go_num, zz (HST.out (by simp))⟩
     case measure => simp [intOf]; omega
  ·have HF : Hid (fitK s.data.toList s.size) := zz (fun j h1 h2 => HP.out j h1 (by omega))
   go_wp2_with fail
   go_ret
   exact ⟨true, rfl, ⟨fun _ => HF.out, fun _ => rfl⟩, rfl⟩
end
section
def rnO (n : Nat) : Int := if n = 2 then 192 else if n = 3 then 224 else 240
def rnA (l : List UInt8) : Nat → Int
 | 0 => ((l.headD 0).toNat : Int) - rnO l.length
 | k + 1 => rnA l k * 64 + (l.getD (k + 1) 0).toNat - 128
theorem rnA_bd (l : List UInt8) (k : Nat) : -(512 * 128 ^ k) ≤ rnA l k ∧ rnA l k ≤ 512 * 128 ^ k := by
 induction k with
 | zero =>
   have h1 : (l.headD 0).toNat < 256 := (l.headD 0).toNat_lt
   unfold rnA rnO
   (repeat' split) <;> omega
 | succ k ih =>
   have h1 : (l.getD (k + 1) 0).toNat < 256 := (l.getD (k + 1) 0).toNat_lt
   have h2 : (0 : Int) < 128 ^ k := Int.pow_pos (by decide)
   rw [rnA, Int.pow_succ]
   omega
theorem rnA_end (l : List UInt8) (h : l.length = 2 ∨ l.length = 3 ∨ l.length = 4) : rnA l (l.length - 1) = rnV l := by
 match l, h with
 | [a, b], _ => simp [rnA, rnV, rnO]; omega
 | [a, b, c], _ => simp [rnA, rnV, rnO]; omega
 | [a, b, c, d], _ => simp [rnA, rnV, rnO]; omega
theorem rune_r (s : ByteArray) (w : World) (hz : s.size = 2 ∨ s.size = 3 ∨ s.size = 4) : Calls Tryz.prog 151 #[.string s] w fun e w' => e = .returned (.int .i64 (rnV s.data.toList)) ∧ w = w' := by
 have hls : s.data.toList.length = s.size := rfl
 have HLS := zz hls
 have HZ := zz hz
 have HE : Hid (rnA s.data.toList (s.size - 1) = rnV s.data.toList) := zz (rnA_end _ hz)
 have h0 : 0 < s.size := by omega
 have hs4 : s.size ≤ 4 := by omega
 obtain ⟨y, hy⟩ := eX (s[0]'h0)
 have hy256 : y.toNat < 256 := y.toNat_lt
 have H0 : Hid (rnA s.data.toList 0 = (y.toNat : Int) - rnO s.size) := zz (by
  rw [rnA, headL h0, hy, hls])
 clear hls hz
 have HW : Hid (s.size = 2 ∨ s.size = 3 ∨ s.size = 4) := HZ
 have hq : ∃ a b c : Bool, ((s.size : Int) == 2) = a ∧ ((s.size : Int) == 3) = b ∧ ((s.size : Int) == 4) = c ∧ rnO s.size = (if a then 192 else if b then 224 else 240) ∧ (a = false → b = false → c = true) := by
  refine ⟨_, _, _, rfl, rfl, rfl, ?_, ?_⟩
  ·unfold rnO
   rcases HZ.out with h | h | h <;> rw [h] <;> rfl
  ·intro h1 h2
   simp only [beq_eq_false_iff_ne, beq_iff_eq] at h1 h2 ⊢
   have := HZ.out
   omega
 obtain ⟨qa, qb, qc, q1, q2, q3, q4, q5⟩ := hq
 rw [q4] at H0
 have HQ := zz q5
 clear q4 q5
 cases qa
 all_goals cases qb
 all_goals cases qc
 all_goals first
  | (exact absurd (HQ.out rfl rfl : false = true) Bool.false_ne_true)
  | (have H1 : Hid (∃ z : Int, z = rnA s.data.toList 0) := zz ⟨_, rfl⟩
     go_enter Tryz.func151, Tryz.ntmps151
     go_wp2_with fail
     go_loop [3, 4] (fun m i => ∃ k : Nat, (1 ≤ k ∧ k ≤ s.size) ∧ i = .int .i64 k ∧ m = .int .i64 (rnA s.data.toList (k - 1))) (fun _ i => s.size - (intOf i).toNat)
     case atStart => exact ⟨1, ⟨by omega, by omega⟩, rfl, by show _ = Value.int .i64 (rnA s.data.toList 0); rw [H0.out]; rfl⟩
     case round =>
      obtain ⟨k, ⟨hk1, hk⟩, rfl, rfl⟩ := hrel
      by_cases hlt : k < s.size
      ·obtain ⟨x, hx⟩ := eX (s[k])
       have h256 : x.toNat < 256 := x.toNat_lt
       have HN : Hid (rnA s.data.toList k = rnA s.data.toList (k - 1) * 64 + x.toNat - 128) := zz (by
        obtain ⟨j, rfl⟩ : ∃ j, k = j + 1 := ⟨k - 1, by omega⟩
        rw [rnA, getDL hlt, hx]; rfl)
       obtain ⟨m, hm⟩ := eX (rnA s.data.toList (k - 1))
       have hmb : -1073741824 ≤ m ∧ m ≤ 1073741824 := by
        rw [← hm]
        have h1 := rnA_bd s.data.toList (k - 1)
        have h2 : k - 1 = 0 ∨ k - 1 = 1 ∨ k - 1 = 2 := by omega
        rcases h2 with h2 | h2 | h2 <;> rw [h2] at h1 ⊢ <;> omega
       rw [hm] at HN ⊢
       clear hm
       have w1 : IntKind.i64.wrap (m * 64) = m * 64 := iIq _
       have w2 : IntKind.i64.wrap (m * 64 + x.toNat) = m * 64 + x.toNat := iIq _
       have w3 : IntKind.i64.wrap (m * 64 + x.toNat - 128) = m * 64 + x.toNat - 128 := iIq _
       go_wp2_with fail
       go_round
       case rel => exact ⟨k + 1, ⟨by omega, by omega⟩, by go_num, by rw [Nat.add_sub_cancel, HN.out]⟩
       case measure => simp [intOf]; omega
      ·have HF : Hid (rnA s.data.toList (k - 1) = rnV s.data.toList) := zz (by
        obtain rfl : k = s.size := by omega
        exact HE.out)
       go_wp2_with fail
       go_ret
       exact ⟨ret_i HF.out, rfl⟩)
end
section
theorem Ya9 {b : Nat} (h : b < 128) : uL b = 0 := by unfold uL; rw [if_pos (.inl (by omega))]
end
section
theorem fit_snoc {l : List UInt8} {b : UInt8} (h : fitK l l.length) (h0 : 0 < l.length) : fitK (l ++ [b]) (l.length + 1) ↔ mayF l b.toNat = true := by
 constructor
 ·intro h1
  have h2 := h1 l.length (by omega) (by omega)
  rw [List.take_left] at h2
  simpa using h2
 ·intro h1
  refine Zz0 (fun j h2 h3 => ?_) (by rw [List.take_left]; simpa using h1)
  have h4 := h j h2 h3
  rw [List.take_append_of_le_length (by omega)]
  rw [List.getD_eq_getElem?_getD, List.getElem?_append_left h3, ← List.getD_eq_getElem?_getD]
  exact h4
theorem utf_r (t : ByteArray) (X lo : Nat) (ap al : Option Addr) (cp cl : Nat) (L : List aA) (b : UInt8) (w : World) (h : QS X lo ⟨6, [], false, e0, t⟩ ap cp L al cl w) (hL : L.length ≤ 1048575) (hT : begB t.data.toList = true) :
 Calls Tryz.prog 139 #[.pointer (some ⟨X, 0, none⟩), .int .i64 b.toNat] w (fun e w' => QR X lo (ustep ⟨6, [], false, e0, t⟩ b) L e w w') := by
 have HP := zz h
 have k_0 := h.ps.c0
 have k_1 := h.ps.c1
 have k_2 := h.ps.c2
 have k_3 := h.ps.c3
 have k_4 := h.ps.c4
 have k_5 := h.c5
 have kf := h.ps.fz
 have klt := h.ps.lt
 have hlo : lo ≤ w.heap.size := by have := h.lo; omega
 have h256 : b.toNat < 256 := b.toNat_lt
 clear h
 obtain ⟨Gr, hG⟩ := eX (ustep ⟨6, [], false, e0, t⟩ b)
 have HGG := zz hG
 rw [hG]
 clear hG
 obtain ⟨n, hn⟩ := eX (b.toNat)
 rw [hn] at h256 ⊢
 have HN := zz hn
 clear hn
 obtain ⟨u1, u2, u3⟩ := Zd6.1 hT
 have hls : t.data.toList.length = t.size := rfl
 have ht4 : t.size ≤ 3 := by
  have : ∀ n, uL n ≤ 4 := fun n => by unfold uL; (repeat' split) <;> omega
  have := this (t.data.toList.headD 0).toNat
  omega
 have ht0 : 0 < t.size := by omega
 have HFK : Hid (fitK (t.data.toList ++ [b]) (t.size + 1) ↔ mayF t.data.toList b.toNat = true) := zz (fit_snoc u3 u1)
 obtain ⟨U, hU⟩ := eX (t ++ (⟨#[b]⟩ : ByteArray))
 have HU := zz hU
 have HUL : Hid (U.data.toList = t.data.toList ++ [b]) := zz (by rw [← hU]; simp)
 have HUS : Hid (U.size = t.size + 1) := zz (by rw [← hU, ByteArray.size_append]; rfl)
 have hU4 : U.size ≤ 4 := by rw [HUS.out]; omega
 have hU0 : 0 < U.size := by rw [HUS.out]; omega
 have HU0 : Hid ((U[0]'hU0) = t.data.toList.headD 0) := zz (by
  rw [← headL hU0, HUL.out]
  cases hc : t.data.toList with
  | nil => rw [hc] at hls; simp at hls; omega
  | cons a l => rfl)
 obtain ⟨z, hz⟩ := eX (uL (t.data.toList.headD 0).toNat)
 have HZ := zz hz
 have hz4 : t.size < z ∧ z ≤ 4 := by
  refine ⟨by omega, ?_⟩
  rw [← hz]
  unfold uL; (repeat' split) <;> omega
 have HSZ : Hid (szR (U[0]'hU0).toNat = z) := zz (by
  rw [HU0.out]
  unfold szR
  rw [if_neg, hz]
  intro h
  rw [Ya9 h] at hz
  omega)
 have hbig : ¬ 9223372036854775807 < t.size + 1 := by omega
 have hw8 : IntKind.u8.wrap (n : Int) = n := u8_in (by omega) (by omega)
 have hcv := Yi0 w.heap.size (w.alloc (.cells #[.int .u8 n] 5)).drew b n (by simp [go_sem]) HN.out
 obtain ⟨v, hv⟩ := eX (mayF t.data.toList b.toNat)
 have HV := zz hv
 have HFT : Hid (∀ w, Calls Tryz.prog 149 #[.string U] w fun e w' => e = .returned (.bool v) ∧ w = w') := zz (fun w => (fits_r U w (by omega)).mono (fun e w' h => by
  obtain ⟨v', rfl, hv', rfl⟩ := h
  refine ⟨ret_b ?_, rfl⟩
  rw [HUL.out, HUS.out, HFK.out, hv] at hv'
  exact Bool.eq_iff_iff.2 hv'))
 clear hv hz hT u1 u2 u3 hls
 go_enter Tryz.func139, Tryz.ntmps139
 go_upto_region 0 with fail
 refine Za4 (fun w' => w'.cell? ⟨X, 4, none⟩ = some (.string t)) (fun i => false) (by kernel_rfl) k_4 ?_
 refine tW ?_ 0 rfl ?_ ?_; rotate_left
 ·intro w' hSw; go_simp; try rfl
 try simp only [Act.put,j1,j2,j3,j4,j5,j6]
 refine tW ?_ 1 rfl ?_ ?_; rotate_left
 ·intro w' hSw; go_simp; try rfl
 try simp only [Act.put,j1,j2,j3,j4,j5,j6]
 refine tW ?_ 2 rfl ?_ ?_; rotate_left
 ·intro w' hSw; go_simp; try rfl
 try simp only [Act.put,j1,j2,j3,j4,j5,j6]
 refine tW ?_ 3 rfl ?_ ?_; rotate_left
 ·intro w' hSw; go_simp; try rfl
 try simp only [Act.put,j1,j2,j3,j4,j5,j6]
 refine tL ?_ 4 rfl k_4 ?_ ?_; rotate_left
 ·intro w' hSw; go_simp; try rfl
 try simp only [Act.put,j1,j2,j3,j4,j5,j6]
 refine tW ?_ 5 rfl ?_ ?_; rotate_left
 ·intro w' hSw; go_simp; try rfl
 try simp only [Act.put,j1,j2,j3,j4,j5,j6]
 refine tW ?_ 6 rfl ?_ ?_; rotate_left
 ·intro w' hSw; go_simp; try rfl
 try simp only [Act.put,j1,j2,j3,j4,j5,j6]
 refine w1G (i := 7) (by kernel_rfl) rfl k_4 (fun K' hK => ?_)
 simp only [j1,j2,j3]
 go_simp
 have hS1 : (w.alloc (.cells #[.int .u8 n] 5)).cell? ⟨X, 4, none⟩ = some (.string t) := (World.cell?_alloc_lt _ _ _ klt).trans k_4
 refine hK.out _ _ (Or.inr hS1) ?_
 clear hK K'
 try simp only [Act.put,j1,j2,j3,j4,j5,j6]
 refine w1G (i := 8) (by kernel_rfl) rfl hS1 (fun K' hK => ?_)
 simp only [j1,j2,j3]
 go_simp
 refine hK.out _ _ (Or.inr hS1) ?_
 clear hK K'
 try simp only [Act.put,j1,j2,j3,j4,j5,j6]
 refine tW ?_ 9 rfl ?_ ?_; rotate_left
 ·intro w' hSw; go_simp; try rfl
 try simp only [Act.put,j1,j2,j3,j4,j5,j6]
 refine tW ?_ 10 rfl ?_ ?_; rotate_left
 ·intro w' hSw; go_simp; try rfl
 try simp only [Act.put,j1,j2,j3,j4,j5,j6]
 refine wD (by kernel_rfl) ?_ _
 clear hcv hbig hw8 hU
 have hb1 : Below w.heap.size w (w.alloc (.cells #[.int .u8 n] 5)).drew := (bA).drew
 obtain ⟨x, hx⟩ : ∃ x, (w.alloc (.cells #[.int .u8 n] 5)).drew = x := ⟨_, rfl⟩
 rw [hx] at hb1 ⊢
 clear hx
 have HBX : Hid (Below lo w x) := zz (hb1.mono hlo)
 have HP1 := zz (HP.out.keep hb1)
 have x_0 := HP1.out.ps.c0
 have x_1 := HP1.out.ps.c1
 have x_2 := HP1.out.ps.c2
 have x_3 := HP1.out.ps.c3
 have x_4 := HP1.out.ps.c4
 have x_5 := HP1.out.c5
 have xf := HP1.out.ps.fz
 have xlt := HP1.out.ps.lt
 clear hb1
 cases v
 case false =>
  have HR : Hid (Gr = ((gstep b).1, pr 65533 :: (gstep b).2)) := zz (by rw [← HGG.out]; exact us1 HV.out)
  go_wp2_with (go_at_call 149; refine (HFT.out _).mono ?_; rintro e w' ⟨rfl, rfl⟩)
  refine (gR X lo _ ap al cp cl L _ HP1.out).mono ?_
  rintro e w1 ⟨rfl, g, hg, hq, hc⟩
  have HQ := zz hq
  have HC := zz hc
  clear hq hc
  go_wp2_with fail
  refine (Zb9 X lo pz (some ⟨g, 0, none⟩) al none 0 cl 0 L ⟨1, 65533, false, [], e0⟩ _ HQ.out (Fr.nil _ _ _ _ _ _) (by simp [bO]) (by omega) (by simp)).mono ?_
  rintro e w2 ⟨rfl, ap', cp', L', al', cl', g1, g2, g3⟩
  have G2 := zz g2
  have hL' : L'.length ≤ 1048576 := by
   have := congrArg List.length g2
   simp at this
   omega
  have HB2 : Hid (Below lo w w2) := zz (HBX.out.trans ((HP1.out.below1 HC.out).trans g3))
  have h1 := Yd5 X lo ap' al' cp' cl' L' b _ g1 hL'
  rw [HN.out] at h1
  have H1 := zz h1
  clear g1 g2 g3 h1
  go_wp2_with fail
  refine H1.out.mono ?_
  rintro e w3 hq
  have HQ4 := zz (hq.after HB2.out G2.out)
  obtain ⟨rfl, _⟩ := hq
  go_wp2_with fail
  refine bodyPost_ret (v := .tuple #[]) (by simp [results, Tryz.results139]) rfl ?_
  rw [HR.out]
  exact HQ4.out
 by_cases hlt : U.size < z
 case pos =>
  have HR : Hid (Gr = (⟨6, [], false, e0, U⟩, [])) := zz (by
   rw [← HGG.out, ← HU.out]
   exact us2 (p := ⟨6, [], false, e0, t⟩) HV.out (by have := HUS.out; have := HZ.out; show t.size + 1 < uL (t.data.toList.headD 0).toNat; omega))
  have gz : (U.size : Int) < (z : Int) := by omega
  go_wp2_with (first | (go_at_call 149; refine (HFT.out _).mono ?_; rintro e w' ⟨rfl, rfl⟩) | (go_at_call 150; refine (Yh9 U _ hU0).mono ?_; rw [HSZ.out]; rintro e w' ⟨rfl, rfl⟩))
  refine bodyPost_ret (v := .tuple #[]) (by simp [results, Tryz.results139]) rfl ?_
  refine QR.base (QR.only (p' := ⟨6, [], false, e0, U⟩) (HP1.out.cells ?hc ?_ ?_ ?_ ?_ ?_ ?_ ?_ (.inl ⟨rfl, rfl, rfl⟩)) HP1.out ?hc HR.out) HBX.out
  case hc => repeat (first | (with_reducible exact Ch.refl) | (with_reducible refine Ch.alloc ?_ _) | (with_reducible refine Ch.drew ?_) | (with_reducible refine Ch.setB ?_ _ _))
  all_goals first | (intro o; simp [go_sem, xf, xlt]; done) | (simp [go_sem, x_0, x_1, x_2, x_3, x_4, x_5, xlt]; done)
 have HR : Hid (Gr = (pz, [⟨1, rnV U.data.toList, false, [], e0⟩])) := zz (by
  rw [← HGG.out, HUL.out]
  exact us3 (p := ⟨6, [], false, e0, t⟩) HV.out (by have := HUS.out; have := HZ.out; show ¬ t.size + 1 < uL (t.data.toList.headD 0).toNat; omega))
 have gz : ¬ (U.size : Int) < (z : Int) := by omega
 have HRU : Hid (U.size = 2 ∨ U.size = 3 ∨ U.size = 4) := zz (by have := HUS.out; omega)
 go_wp2_with (first | (go_at_call 149; refine (HFT.out _).mono ?_; rintro e w' ⟨rfl, rfl⟩) | (go_at_call 150; refine (Yh9 U _ hU0).mono ?_; rw [HSZ.out]; rintro e w' ⟨rfl, rfl⟩))
 refine (gR X lo _ ap al cp cl L _ HP1.out).mono ?_
 rintro e w1 ⟨rfl, g, hg, hq, hc⟩
 have HQ := zz hq
 have HC := zz hc
 clear hq hc
 go_wp2_with (go_at_call 151; refine (rune_r U _ HRU.out).mono ?_; rintro e w' ⟨rfl, rfl⟩)
 refine (Zb9 X lo pz (some ⟨g, 0, none⟩) al none 0 cl 0 L ⟨1, rnV U.data.toList, false, [], e0⟩ _ HQ.out (Fr.nil _ _ _ _ _ _) (by simp [bO]) (by omega) (by simp)).mono ?_
 rintro e w2 hq
 have HQ2 := zz (hq.base (HBX.out.trans (HP1.out.below1 HC.out)))
 obtain ⟨rfl, _⟩ := hq
 go_wp2_with fail
 refine bodyPost_end (v := .tuple #[]) (by simp [results, Tryz.results139]) rfl ?_
 rw [HR.out]
 exact HQ2.out
end
section
theorem takeO_r (t : ByteArray) (X lo : Nat) (ap al : Option Addr) (cp cl : Nat) (L : List aA) (b : UInt8) (w : World) (h : QS X lo ⟨4, [], false, t, e0⟩ ap cp L al cl w) (hL : L.length ≤ 1048576) (hT : t.size ≤ 40) :
 Calls Tryz.prog 106 #[.pointer (some ⟨X, 0, none⟩), .int .i64 b.toNat] w (fun e w' => QR X lo (ostep ⟨4, [], false, t, e0⟩ b) L e w w') := by
 have HCA := zz (osc_r t X lo ap al cp cl L b w h hL hT)
 have k_0 : w.cell? ⟨X, 0, none⟩ = some (.int .i64 4) := h.ps.c0
 have kf := h.ps.fz
 have klt := h.ps.lt
 clear h
 go_enter Tryz.func106, Tryz.ntmps106
 go_wp2_with fail
 refine HCA.out.mono ?_
 rintro e w1 hq
 have HQ := zz hq
 obtain ⟨rfl, _⟩ := hq
 go_wp2_with fail
 refine bodyPost_end (v := .tuple #[]) (by simp [results, Tryz.results106]) rfl ?_
 exact HQ.out
theorem takeQ_r (t : ByteArray) (X lo : Nat) (ap al : Option Addr) (cp cl : Nat) (L : List aA) (b : UInt8) (w : World) (h : QS X lo ⟨5, [], false, t, e0⟩ ap cp L al cl w) (hL : L.length ≤ 1048576) :
 Calls Tryz.prog 106 #[.pointer (some ⟨X, 0, none⟩), .int .i64 b.toNat] w (fun e w' => QR X lo (qstep ⟨5, [], false, t, e0⟩ b) L e w w') := by
 have HCA := zz (oscEnd_r t X lo ap al cp cl L b w h hL)
 have k_0 : w.cell? ⟨X, 0, none⟩ = some (.int .i64 5) := h.ps.c0
 have kf := h.ps.fz
 have klt := h.ps.lt
 clear h
 go_enter Tryz.func106, Tryz.ntmps106
 go_wp2_with fail
 refine HCA.out.mono ?_
 rintro e w1 hq
 have HQ := zz hq
 obtain ⟨rfl, _⟩ := hq
 go_wp2_with fail
 refine bodyPost_end (v := .tuple #[]) (by simp [results, Tryz.results106]) rfl ?_
 exact HQ.out
theorem takeU_r (t : ByteArray) (X lo : Nat) (ap al : Option Addr) (cp cl : Nat) (L : List aA) (b : UInt8) (w : World) (h : QS X lo ⟨6, [], false, e0, t⟩ ap cp L al cl w) (hL : L.length ≤ 1048575) (hT : begB t.data.toList = true) :
 Calls Tryz.prog 106 #[.pointer (some ⟨X, 0, none⟩), .int .i64 b.toNat] w (fun e w' => QR X lo (ustep ⟨6, [], false, e0, t⟩ b) L e w w') := by
 have HCA := zz (utf_r t X lo ap al cp cl L b w h hL hT)
 have k_0 : w.cell? ⟨X, 0, none⟩ = some (.int .i64 6) := h.ps.c0
 have kf := h.ps.fz
 have klt := h.ps.lt
 clear h
 go_enter Tryz.func106, Tryz.ntmps106
 go_wp2_with fail
 refine HCA.out.mono ?_
 rintro e w1 hq
 have HQ := zz hq
 obtain ⟨rfl, _⟩ := hq
 go_wp2_with fail
 refine bodyPost_end (v := .tuple #[]) (by simp [results, Tryz.results106]) rfl ?_
 exact HQ.out
end
section
theorem own_r (ap : Option Addr) (cp : Nat) (p : PV) (w : World) (ha : Sl iE 1 w ap p.args) (hl : p.args.length ≤ 1048576) :
 Calls Tryz.prog 105 #[.agg #[.int .i64 p.state, .slice ap p.args.length cp, .bool p.priv, .string p.text, .string p.utf]] w (ParR p w) := by
 obtain ⟨i0, hi, hz0, hz1, hz2⟩ := info_parts Tryz.infoInt
 have la := hl
 have HA := zz (((ha.alloc (.cells #[.int .i64 p.state, .slice ap p.args.length cp, .bool p.priv, .string p.text, .string p.utf] 42)).alloc (.cells #[.int .i64 0, .slice none 0 0, .bool false, .string ⟨#[]⟩, .string ⟨#[]⟩] 42)).alloc (.cells #[] 3))
 have h0 := (Zk3 ((w.alloc (.cells #[.int .i64 p.state, .slice ap p.args.length cp, .bool p.priv, .string p.text, .string p.utf] 42)).alloc (.cells #[.int .i64 0, .slice none 0 0, .bool false, .string ⟨#[]⟩, .string ⟨#[]⟩] 42)) (w.heap.size + 2) (by simp)).here
 simp only [World.size_alloc] at h0
 have HFR := zz h0
 clear h0
 go_enter Tryz.func105, Tryz.ntmps105
 go_wp2_with (first
  | (skip
     at_builtin
     refine wF rfl (.tmp 3) (.tmp 5) 36 36 rfl (w.heap.size + 2) (w.heap.size + 2 + 1) 3 i0 (.int .i64 0) 1 8 Tryz.underlying36 hi hz0 hz1 hz2 rfl (by decide) (.slice (some ⟨w.heap.size + 2, 0, none⟩) 0 0) ([]) rfl (HFR.out) _ (p.args) rfl (Src.ofSl (enc := iE) (sz := 1) (xs := p.args) Tryz.underlying36 (fun _ => rfl) Zi9 HA.out cp) (by (try simp) <;> (try omega)) (by (try simp) <;> (try omega)) ?_
     intro a1 c1 w1 L1 hL1 hf1 hm1
     have HLL := hL1
     have hf := zz hf1
     have hmm := zz hm1
     have hz := hm1.size
     simp only [World.size_alloc] at hz
     have hl1 : w.heap.size + 1 < w1.heap.size := by omega
     have hl0 : w.heap.size < w1.heap.size := by omega
     have q0_0 : w1.cell? ⟨w.heap.size, 0, none⟩ = some (.int .i64 p.state) := (hm1.cell (p := ⟨w.heap.size, 0, none⟩) (by show w.heap.size < _; simp; try omega) (.inl (by show w.heap.size < _; omega))).trans (by simp [go_sem])
     have f0_0 : w1.frozen? ⟨w.heap.size, 0, none⟩ = false := (hm1.frozen (p := ⟨w.heap.size, 0, none⟩) (by show w.heap.size < _; simp; try omega) (.inl (by show w.heap.size < _; omega))).trans (by simp [go_sem])
     have q0_1 : w1.cell? ⟨w.heap.size, 1, none⟩ = some (.slice ap p.args.length cp) := (hm1.cell (p := ⟨w.heap.size, 1, none⟩) (by show w.heap.size < _; simp; try omega) (.inl (by show w.heap.size < _; omega))).trans (by simp [go_sem])
     have f0_1 : w1.frozen? ⟨w.heap.size, 1, none⟩ = false := (hm1.frozen (p := ⟨w.heap.size, 1, none⟩) (by show w.heap.size < _; simp; try omega) (.inl (by show w.heap.size < _; omega))).trans (by simp [go_sem])
     have q0_2 : w1.cell? ⟨w.heap.size, 2, none⟩ = some (.bool p.priv) := (hm1.cell (p := ⟨w.heap.size, 2, none⟩) (by show w.heap.size < _; simp; try omega) (.inl (by show w.heap.size < _; omega))).trans (by simp [go_sem])
     have f0_2 : w1.frozen? ⟨w.heap.size, 2, none⟩ = false := (hm1.frozen (p := ⟨w.heap.size, 2, none⟩) (by show w.heap.size < _; simp; try omega) (.inl (by show w.heap.size < _; omega))).trans (by simp [go_sem])
     have q0_3 : w1.cell? ⟨w.heap.size, 3, none⟩ = some (.string p.text) := (hm1.cell (p := ⟨w.heap.size, 3, none⟩) (by show w.heap.size < _; simp; try omega) (.inl (by show w.heap.size < _; omega))).trans (by simp [go_sem])
     have f0_3 : w1.frozen? ⟨w.heap.size, 3, none⟩ = false := (hm1.frozen (p := ⟨w.heap.size, 3, none⟩) (by show w.heap.size < _; simp; try omega) (.inl (by show w.heap.size < _; omega))).trans (by simp [go_sem])
     have q0_4 : w1.cell? ⟨w.heap.size, 4, none⟩ = some (.string p.utf) := (hm1.cell (p := ⟨w.heap.size, 4, none⟩) (by show w.heap.size < _; simp; try omega) (.inl (by show w.heap.size < _; omega))).trans (by simp [go_sem])
     have f0_4 : w1.frozen? ⟨w.heap.size, 4, none⟩ = false := (hm1.frozen (p := ⟨w.heap.size, 4, none⟩) (by show w.heap.size < _; simp; try omega) (.inl (by show w.heap.size < _; omega))).trans (by simp [go_sem])
     have q1_0 : w1.cell? ⟨w.heap.size + 1, 0, none⟩ = some (.int .i64 0) := (hm1.cell (p := ⟨w.heap.size + 1, 0, none⟩) (by show w.heap.size + 1 < _; simp; try omega) (.inl (by show w.heap.size + 1 < _; omega))).trans (by simp [go_sem])
     have f1_0 : w1.frozen? ⟨w.heap.size + 1, 0, none⟩ = false := (hm1.frozen (p := ⟨w.heap.size + 1, 0, none⟩) (by show w.heap.size + 1 < _; simp; try omega) (.inl (by show w.heap.size + 1 < _; omega))).trans (by simp [go_sem])
     have q1_1 : w1.cell? ⟨w.heap.size + 1, 1, none⟩ = some (.slice none 0 0) := (hm1.cell (p := ⟨w.heap.size + 1, 1, none⟩) (by show w.heap.size + 1 < _; simp; try omega) (.inl (by show w.heap.size + 1 < _; omega))).trans (by simp [go_sem])
     have f1_1 : w1.frozen? ⟨w.heap.size + 1, 1, none⟩ = false := (hm1.frozen (p := ⟨w.heap.size + 1, 1, none⟩) (by show w.heap.size + 1 < _; simp; try omega) (.inl (by show w.heap.size + 1 < _; omega))).trans (by simp [go_sem])
     have q1_2 : w1.cell? ⟨w.heap.size + 1, 2, none⟩ = some (.bool false) := (hm1.cell (p := ⟨w.heap.size + 1, 2, none⟩) (by show w.heap.size + 1 < _; simp; try omega) (.inl (by show w.heap.size + 1 < _; omega))).trans (by simp [go_sem])
     have f1_2 : w1.frozen? ⟨w.heap.size + 1, 2, none⟩ = false := (hm1.frozen (p := ⟨w.heap.size + 1, 2, none⟩) (by show w.heap.size + 1 < _; simp; try omega) (.inl (by show w.heap.size + 1 < _; omega))).trans (by simp [go_sem])
     have q1_3 : w1.cell? ⟨w.heap.size + 1, 3, none⟩ = some (.string ⟨#[]⟩) := (hm1.cell (p := ⟨w.heap.size + 1, 3, none⟩) (by show w.heap.size + 1 < _; simp; try omega) (.inl (by show w.heap.size + 1 < _; omega))).trans (by simp [go_sem])
     have f1_3 : w1.frozen? ⟨w.heap.size + 1, 3, none⟩ = false := (hm1.frozen (p := ⟨w.heap.size + 1, 3, none⟩) (by show w.heap.size + 1 < _; simp; try omega) (.inl (by show w.heap.size + 1 < _; omega))).trans (by simp [go_sem])
     have q1_4 : w1.cell? ⟨w.heap.size + 1, 4, none⟩ = some (.string ⟨#[]⟩) := (hm1.cell (p := ⟨w.heap.size + 1, 4, none⟩) (by show w.heap.size + 1 < _; simp; try omega) (.inl (by show w.heap.size + 1 < _; omega))).trans (by simp [go_sem])
     have f1_4 : w1.frozen? ⟨w.heap.size + 1, 4, none⟩ = false := (hm1.frozen (p := ⟨w.heap.size + 1, 4, none⟩) (by show w.heap.size + 1 < _; simp; try omega) (.inl (by show w.heap.size + 1 < _; omega))).trans (by simp [go_sem])
     clear hf1 hm1 hz
     skip))
 obtain rfl : L1 = p.args := by simpa using HLL.out
 refine bodyPost_ret (v := .agg #[.int .i64 p.state, .slice a1 p.args.length c1, .bool p.priv, .string p.text, .string p.utf]) (by simp [results, Tryz.results105, go_sem, q0_0, q0_1, q0_2, q0_3, q0_4, q1_0, q1_1, q1_2, q1_3, q1_4, hl0, hl1]) rfl ?_
 have hc : ∀ x1 y0 y1 y2 y3 y4, Ch (fun k => k = w.heap.size ∨ k = w.heap.size + 1) w1 ((((((w1.setCell ⟨w.heap.size, 1, none⟩ x1).setCell ⟨w.heap.size + 1, 0, none⟩ y0).setCell ⟨w.heap.size + 1, 1, none⟩ y1).setCell ⟨w.heap.size + 1, 2, none⟩ y2).setCell ⟨w.heap.size + 1, 3, none⟩ y3).setCell ⟨w.heap.size + 1, 4, none⟩ y4) := fun x1 y0 y1 y2 y3 y4 =>
  (((((Ch.refl.setCell (M := fun k => k = w.heap.size ∨ k = w.heap.size + 1) (p := ⟨w.heap.size, 1, none⟩) (.inl (.inl rfl)) x1).setCell (p := ⟨w.heap.size + 1, 0, none⟩) (.inl (.inr rfl)) y0).setCell (p := ⟨w.heap.size + 1, 1, none⟩) (.inl (.inr rfl)) y1).setCell (p := ⟨w.heap.size + 1, 2, none⟩) (.inl (.inr rfl)) y2).setCell (p := ⟨w.heap.size + 1, 3, none⟩) (.inl (.inr rfl)) y3).setCell (p := ⟨w.heap.size + 1, 4, none⟩) (.inl (.inr rfl)) y4
 have hB := (((((Below.refl w.heap.size w).alloc (Nat.le_refl _) _).alloc (by simp) _).alloc (by simp; omega) _).trans (hmm.out.below (by omega) (by simp; try omega)))
 have hF := hf.out.mono (lo' := w.heap.size + 2) (Nat.le_refl _) (Nat.le_refl _)
 have hcx := hc (.slice a1 p.args.length c1) (.int .i64 p.state) (.slice a1 p.args.length c1) (.bool p.priv) (.string p.text) (.string p.utf)
 refine ⟨a1, c1, rfl, ?_, ?_⟩
 ·have h1 := Fr.ch hF hcx (fun k hk h => by
   have := (Fr.blks hF k hk).1
   omega)
  exact h1.mono (by omega) (Nat.le_refl _)
 ·exact hB.trans (hcx.below (by omega) (fun k h => by omega))
end
end Go.Proofs.YtjmpgeffkdjpdaaGreatDoor
