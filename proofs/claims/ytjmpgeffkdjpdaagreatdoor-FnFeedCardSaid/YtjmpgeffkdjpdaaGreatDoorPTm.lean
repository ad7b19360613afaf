/- The output of a program has the same effect in one piece, in two pieces, and action by action: the law FnFeed returns true for all bytes, and its arguments read afterwards as they read before. The row lists the two tables of utf8, tied to the program's text. No conditions. -/
import Derived.Test.YtjmpgeffkdjpdaaGreatDoorPTmg
import Derived.Test.YtjmpgeffkdjpdaaGreatDoorRows
import Derived.ProofKit
import Derived.Below
import Derived.OpenShut
import Derived.Carry
import Derived.Lib.SmallJoins
import Derived.Deep.Slices
import Derived.Test.YtjmpgeffkdjpdaaGreatDoorTie
import Derived.Test.YtjmpgeffkdjpdaaGreatDoorCards
import Derived.Lib.LaidU8T
import Derived.PinnedBridge
import Derived.Lay
import Derived.LaidMore
import Derived.Stop.Joined
import Derived.SevenTiedAt
import Derived.ChangeMaps5
namespace Go.Proofs.YtjmpgeffkdjpdaaGreatDoor
set_option linter.unusedVariables false
set_option linter.unusedSimpArgs false
set_option maxRecDepth 100000
set_option maxHeartbeats 16000000
open Go.RowKit
section
structure Cl8 (y : World) (s : Scr) (p : PV) (b9 b10 : Nat) (a1 : Option Addr) (c1 : Nat) (a2 : Option Addr) (d2 : Nat) (a3 : Option Addr) (c3 : Nat) (x : World) : Prop where
 x9 : Bx x b9 [.int .i64 0, .int .i64 0, .int .i64 0, .int .i64 0, .int .i64 0, .int .i64 0, .int .i64 0, .int .i64 0, .int .i64 0, .string ⟨#[]⟩, .slice none 0 0, .slice none 0 0]
 x10 : Bx x b10 [.int .i64 0, .slice none 0 0, .bool false, .string ⟨#[]⟩, .string ⟨#[]⟩]
 f1 : sF y.heap.size s a1 c1 a2 d2 x
 f3 : Fr iE 3 1 y.heap.size x.heap.size (.slice a3 p.args.length c3) p.args x
 ne : b9 ≠ b10
 d1 : ∀ k, k ∈ bO a1 ∨ k ∈ bO a2 → k ≠ b9 ∧ k ≠ b10
 d3 : ∀ k ∈ bO a3, k ≠ b9 ∧ k ≠ b10
 lo : y.heap.size ≤ b9 ∧ y.heap.size ≤ b10
 bw : Below y.heap.size y x
structure Lie (s : Scr) (p : PV) (b9 b10 : Nat) (a1 : Option Addr) (c1 : Nat) (a2 : Option Addr) (d2 : Nat) (a3 : Option Addr) (c3 : Nat) (x : World) : Prop where
 x9 : Bx x b9 [.int .i64 s.w, .int .i64 s.h, .int .i64 s.x, .int .i64 s.y, .int .i64 s.look, .int .i64 s.top, .int .i64 s.bot, .int .i64 s.sx, .int .i64 s.sy, .string s.title, .slice a1 s.cells.length c1, .slice a2 s.hist.length d2]
 x10 : Bx x b10 [.int .i64 p.state, .slice a3 p.args.length c3, .bool p.priv, .string p.text, .string p.utf]
 rd : sS s a1 a2 x
 ar : Sl iE 1 x a3 p.args
theorem Lie.below {s : Scr} {p : PV} {b9 b10 : Nat} {a1 : Option Addr} {c1 : Nat} {a2 : Option Addr} {d2 : Nat} {a3 : Option Addr} {c3 : Nat} {x x' : World} (h : Lie s p b9 b10 a1 c1 a2 d2 a3 c3 x) (hb : Below x.heap.size x x') : Lie s p b9 b10 a1 c1 a2 d2 a3 c3 x' :=
 ⟨h.x9.below hb, h.x10.below hb, h.rd.below hb, h.ar.keep hb⟩
theorem Cl8.lie {y : World} {s : Scr} {p : PV} {b9 b10 : Nat} {a1 : Option Addr} {c1 : Nat} {a2 : Option Addr} {d2 : Nat} {a3 : Option Addr} {c3 : Nat} {x x' : World} (h : Cl8 y s p b9 b10 a1 c1 a2 d2 a3 c3 x) (hc : Ch (fun k => k = b9 ∨ k = b10) x x')
 (h9 : Bx x' b9 [.int .i64 s.w, .int .i64 s.h, .int .i64 s.x, .int .i64 s.y, .int .i64 s.look, .int .i64 s.top, .int .i64 s.bot, .int .i64 s.sx, .int .i64 s.sy, .string s.title, .slice a1 s.cells.length c1, .slice a2 s.hist.length d2]) (h10 : Bx x' b10 [.int .i64 p.state, .slice a3 p.args.length c3, .bool p.priv, .string p.text, .string p.utf]) : Lie s p b9 b10 a1 c1 a2 d2 a3 c3 x' ∧ Below y.heap.size y x' := by
 have hn : ∀ k, k ≠ b9 ∧ k ≠ b10 → ¬ (k = b9 ∨ k = b10) := fun k hk e => by rcases e with e | e; exact hk.1 e; exact hk.2 e
 exact ⟨⟨h9, h10, (h.f1.ch hc (fun k hk => hn k (h.d1 k (.inl hk))) (fun k hk => hn k (h.d1 k (.inr hk)))).rd, Fr.sl (enc := iE) (fun _ => rfl) (h.f3.ch hc (fun k hk => hn k (h.d3 k hk)))⟩, h.bw.trans (hc.below h.bw.size (fun k hk => by have := h.lo; rcases hk with e | e <;> omega))⟩
theorem Zw2 (p : PV) (l : List UInt8) (k : Nat) : prun (prun p (l.take k)).1 (l.drop k) = ((prun p l).1, (prun (prun p (l.take k)).1 (l.drop k)).2) ∧ (prun p l).2 = (prun p (l.take k)).2 ++ (prun (prun p (l.take k)).1 (l.drop k)).2 := by
 have h := Zd8 p (l.take k) (l.drop k)
 rw [List.take_append_drop] at h
 rw [h]
 exact ⟨rfl, rfl⟩
theorem Yh5 (l : List UInt8) : ∀ p, (prun p l).2.length ≤ 2 * l.length := by
 induction l with
 | nil => intro p; simp [prun]
 | cons x l ih =>
   intro p
   have h := Zd8 p [x] l
   rw [List.singleton_append] at h
   rw [h, Zy6]
   have h1 := Zp1 p x
   have h2 := ih (pstep p x).1
   simp only [List.length_append, List.length_cons]
   omega
theorem Yf6 (s : Scr) (a b : List AV) : actsI s (a ++ b) = actsI (actsI s a) b := List.foldl_append
theorem Yf1 (a0 b0 : Option Addr) (ca cb : Nat) (xs ys : List UInt8) (w : World) (ha : Sl yE 1 w a0 xs) (hb : Sl yE 1 w b0 ys) (la : xs.length ≤ 9223372036854775807) (lb : ys.length ≤ 9223372036854775807) (hUT : UT w) :
 Calls Tryz.prog 5 #[.slice a0 xs.length ca, .slice b0 ys.length cb] w fun e w' => e = .returned (.bool true) ∧ Below w.heap.size w w' := by
 by_cases hx : 1048576 < xs.length
 ·have hx' : (1048576 : Int) < (xs.length : Int) := by omega
  go_enter Tryz.func5, Tryz.ntmps5
  go_wp2_with fail
  go_ret
  exact ⟨rfl, Below.refl _ _⟩
 have hx' : (xs.length : Int) ≤ 1048576 := by omega
 by_cases hy : 1048576 < ys.length
 ·have hy' : (1048576 : Int) < (ys.length : Int) := by omega
  go_enter Tryz.func5, Tryz.ntmps5
  go_wp2_with fail
  go_ret
  exact ⟨rfl, Below.refl _ _⟩
 have hy' : (ys.length : Int) ≤ 1048576 := by omega
 have lx : xs.length ≤ 1048576 := by omega
 have ly : ys.length ≤ 1048576 := by omega
 clear hx hy
 have HB := zz hb
 have HUT := zz hUT
 have HSO := zz (Ya5 a0 ca xs w ha lx)
 have HPO : Hid (∀ W, Below w.heap.size w W → Calls Tryz.prog 17 #[.slice a0 xs.length ca] W (ParO W)) := zz (fun W hW => Ya7 a0 ca xs W (ha.keep hW) lx)
 have HOO : Hid (∀ W, Below w.heap.size w W → Calls Tryz.prog 18 #[.slice b0 ys.length cb] W fun e w' => (∃ s : ByteArray, e = .returned (.string s) ∧ 1 ≤ s.size ∧ s.size ≤ 200) ∧ Below W.heap.size W w') := zz (fun W hW => Yb5 b0 cb ys W (hb.keep hW) ly)
 clear ha hb hUT
 go_enter Tryz.func5, Tryz.ntmps5
 go_wp2_with fail
 refine HSO.out.mono ?_
 rintro e w1 ⟨s, hok, hb1, ac, cc, ah, dh, rfl, hF⟩
 unfold scrV
 have HOK := zz hok
 have HB1 := zz hb1
 have HS1 := zz hF.rd
 have HNB0 : Hid (∀ k, k ∈ bO ac ∨ k ∈ bO ah → k < w1.heap.size) := zz (fun k hk => (hF.bd hk).2)
 clear hok hb1 hF
 go_upto_region 4 with fail
 obtain ⟨BS, x1, hbx, hwx, HXS, HZS, hbn⟩ := aB w1 [.int .i64 s.w, .int .i64 s.h, .int .i64 s.x, .int .i64 s.y, .int .i64 s.look, .int .i64 s.top, .int .i64 s.bot, .int .i64 s.sx, .int .i64 s.sy, .string s.title, .slice ac s.cells.length cc, .slice ah s.hist.length dh] 26
 rw [hwx, hbx]
 have HNB : Hid (w.heap.size ≤ BS ∧ ∀ k, k ∈ bO ac ∨ k ∈ bO ah → k < BS) := zz (by rw [← hbx]; exact ⟨HB1.out.size, HNB0.out⟩)
 have HB1 : Hid (Below w.heap.size w x1) := zz (HB1.out.trans (hbn.mono HB1.out.size))
 have HS1 := zz (HS1.out.below hbn)
 clear hbx hwx hbn
 go_wp2_with fail
 refine (HPO.out _ HB1.out).mono ?_
 rintro e w2 ⟨p, ap, cp, hpk, rfl, hf, hbn⟩
 have HPK := zz hpk
 have HB2 : Hid (Below w.heap.size w w2) := zz (HB1.out.trans (hbn.mono HB1.out.size))
 have HS2 := zz (HS1.out.below hbn)
 have HXS := zz (HXS.out.below hbn)
 have HPA := zz (Fr.sl (enc := iE) (fun _ => rfl) hf)
 clear hpk hf hbn
 go_upto_region 5 with fail
 obtain ⟨BP, x2, hbx, hwx, HXP, HZP, hbn⟩ := aB w2 [.int .i64 p.state, .slice ap p.args.length cp, .bool p.priv, .string p.text, .string p.utf] 42
 rw [hwx, hbx]
 have HB2 : Hid (Below w.heap.size w x2) := zz (HB2.out.trans (hbn.mono HB2.out.size))
 have HS2 := zz (HS2.out.below hbn)
 have HXS := zz (HXS.out.below hbn)
 have HPA := zz (HPA.out.keep hbn)
 clear hbx hwx hbn
 go_wp2_with fail
 refine (HOO.out _ HB2.out).mono ?_
 rintro e w3 ⟨⟨t, rfl, ht1, ht2⟩, hbn⟩
 have HB3 : Hid (Below w.heap.size w w3) := zz (HB2.out.trans (hbn.mono HB2.out.size))
 have HS3 := zz (HS2.out.below hbn)
 have HXS := zz (HXS.out.below hbn)
 have HXP := zz (HXP.out.below hbn)
 have HPA := zz (HPA.out.keep hbn)
 clear hbn
 have hcv := cv_run t w3
 obtain ⟨cap, hcap⟩ := eX (cvC t w3)
 obtain ⟨wv, hwv⟩ := eX (cvW t w3)
 have hbv : Below w3.heap.size w3 wv := by rw [← hwv]; exact Zr5 t w3 (Nat.le_refl _)
 have hslv : Sl yE 1 wv (some ⟨w3.heap.size, 0, none⟩) t.data.toList := by rw [← hwv]; exact cvW_sl t w3
 have hcapn : t.size ≤ cap := by rw [← hcap]; exact grownCap_ge _ _ _ _
 rw [hcap, hwv] at hcv
 clear hcap hwv
 obtain ⟨x3, hw3⟩ : ∃ x : World, x = wv := ⟨_, rfl⟩
 subst hw3
 obtain ⟨gb, hgbe⟩ := eX (w3.heap.size)
 rw [hgbe] at hcv hslv
 obtain ⟨l, hl⟩ := eX (t.data.toList)
 obtain ⟨n, hn⟩ := eX (t.size)
 have HLN : Hid (l.length = n) := zz (by rw [← hl, ← hn]; rfl)
 rw [hl] at hslv
 rw [hn] at hcv ht1 ht2 hcapn
 have HSL : Hid (Sl yE 1 x3 (some ⟨gb, 0, none⟩) l) := zz hslv
 have HB3 : Hid (Below w.heap.size w x3) := zz (HB3.out.trans (hbv.mono HB3.out.size))
 have HS3 := zz (HS3.out.below hbv)
 have HXS := zz (HXS.out.below hbv)
 have HXP := zz (HXP.out.below hbv)
 have HPA := zz (HPA.out.keep hbv)
 clear hl hn hgbe hslv
 have hsz9 : n ≤ 9223372036854775807 := by omega
 go_upto_region 6 with fail
 clear hcv hbv
 have HAT : Hid (∀ N : Int, N = (n : Int) + 1 → Calls Tryz.prog 7 #[.slice b0 ys.length cb, .int .i64 0, .int .i64 N] x3 fun e w' => (∃ m : Nat, e = .returned (.int .i64 m) ∧ m < n + 1) ∧ Below x3.heap.size x3 w') := zz (fun N hN => by
  have := lawAt2_c b0 cb ys 0 (n + 1) x3 (HB.out.keep HB3.out) ly (by omega) (by omega) (by omega)
  rw [hN]
  exact this)
 go_wp2_with fail
 refine (HAT.out _ (by go_num)).mono ?_
 rintro e x0 ⟨⟨k, rfl, hk⟩, hbn⟩
 have hkn : k ≤ n := by omega
 have HB0 : Hid (Below w.heap.size w x0) := zz (HB3.out.trans (hbn.mono HB3.out.size))
 have HSS := zz (HS3.out.below hbn)
 have HXS := zz (HXS.out.below hbn)
 have HXP := zz (HXP.out.below hbn)
 have HPA := zz (HPA.out.keep hbn)
 have HSL := zz (HSL.out.keep hbn)
 clear hbn hk
 go_upto_region 7 with fail
 have HU0 := zz (HUT.out.keep HB0.out)
 obtain ⟨T, hT⟩ := eX (actsI s (prun p l).2)
 obtain ⟨Q, hQ⟩ : ∃ t, (prun p l).1 = t := ⟨_, rfl⟩
 obtain ⟨s2, hs2⟩ := eX (actsI s (prun p (l.take k)).2)
 obtain ⟨q2, hq2⟩ : ∃ t, (prun p (l.take k)).1 = t := ⟨_, rfl⟩
 have HTQ : Hid (actsI s2 (prun q2 (l.drop k)).2 = T ∧ (prun q2 (l.drop k)).1 = Q) := zz (by
  have h1 := Zw2 p l k
  rw [hq2] at h1
  refine ⟨?_, ?_⟩
  ·rw [← hT, h1.2, Yf6, hs2]
  ·rw [← hQ, h1.1])
 have HT := zz hT
 have HOT : Hid (sK T ∧ sK s2 ∧ PvOK q2) := zz ⟨by rw [← hT]; exact HOK.out.actsI (fun a ha => Zd4 _ HPK.out a ha), by rw [← hs2]; exact HOK.out.actsI (fun a ha => Zd4 _ HPK.out a ha), by rw [← hq2]; exact Ze9 _ HPK.out⟩
 have HOQ : Hid (PvOK Q) := zz (by rw [← hQ]; exact Ze9 _ HPK.out)
 have HF1 : Hid (∀ W, Below x0.heap.size x0 W → Calls Tryz.prog 19 #[.agg #[.int .i64 s.w, .int .i64 s.h, .int .i64 s.x, .int .i64 s.y, .int .i64 s.look, .int .i64 s.top, .int .i64 s.bot, .int .i64 s.sx, .int .i64 s.sy, .string s.title, .slice ac s.cells.length cc, .slice ah s.hist.length dh], .agg #[.int .i64 p.state, .slice ap p.args.length cp, .bool p.priv, .string p.text, .string p.utf], .slice (some ⟨gb, 0, none⟩) n cap] W (FSR T Q W)) := zz (fun W hW => by
  have := Zf2 s HOK.out ac cc ah dh p HPK.out ap cp (some ⟨gb, 0, none⟩) cap l W (HSS.out.below hW) (HPA.out.keep hW) (HSL.out.keep hW) (by rw [HLN.out]; omega) (Zj6 HPK.out) (HU0.out.keep hW)
  rw [hT, hQ, HLN.out] at this
  exact this)
 have HF2 : Hid (∀ W, Below x0.heap.size x0 W → Calls Tryz.prog 19 #[.agg #[.int .i64 s.w, .int .i64 s.h, .int .i64 s.x, .int .i64 s.y, .int .i64 s.look, .int .i64 s.top, .int .i64 s.bot, .int .i64 s.sx, .int .i64 s.sy, .string s.title, .slice ac s.cells.length cc, .slice ah s.hist.length dh], .agg #[.int .i64 p.state, .slice ap p.args.length cp, .bool p.priv, .string p.text, .string p.utf], .slice (some ⟨gb, 0, none⟩) k cap] W (FSR s2 q2 W)) := zz (fun W hW => by
  have := Zf2 s HOK.out ac cc ah dh p HPK.out ap cp (some ⟨gb, 0, none⟩) cap (l.take k) W (HSS.out.below hW) (HPA.out.keep hW) ((HSL.out.keep hW).takeK k) (by rw [List.length_take, HLN.out]; omega) (Zj6 HPK.out) (HU0.out.keep hW)
  rw [hs2, hq2, List.length_take, HLN.out, Nat.min_eq_left hkn] at this
  exact this)
 have HPB : Hid (∀ W, Below x0.heap.size x0 W → Calls Tryz.prog 21 #[.agg #[.int .i64 p.state, .slice ap p.args.length cp, .bool p.priv, .string p.text, .string p.utf], .slice (some ⟨gb, 0, none⟩) n cap] W (OutR (prun p l, 0) W)) := zz (fun W hW => by
  have := Zj3 ap cp p (some ⟨gb, 0, none⟩) cap l W (HPA.out.keep hW) (HSL.out.keep hW) (by rw [HLN.out]; omega) (Zj6 HPK.out) (HU0.out.keep hW)
  rw [show Zg3 p l = (prun p l, 0) from pb_ok HPK.out l (by rw [HLN.out]; omega), HLN.out] at this
  exact this)
 clear hT hQ hs2 hq2
 obtain ⟨k_0, k_1, k_2, k_3, k_4, k_5, k_6, k_7, k_8, k_9, k_10, k_11⟩ := HXS.out.all12
 have k_l := HXS.out.lt
 obtain ⟨p_0, p_1, p_2, p_3, p_4⟩ := HXP.out.all5
 have p_l := HXP.out.lt
 go_wp2_with fail
 refine (HF1.out _ (Below.refl _ _)).mono ?_
 rintro e y0 ⟨a1, c1, a2, d2, aq, cq, rfl, hf1, hf3, hbn⟩
 unfold scrV
 clear k_0 k_1 k_2 k_3 k_4 k_5 k_6 k_7 k_8 k_9 k_10 k_11 p_0 p_1 p_2 p_3 p_4 k_l p_l
 go_upto_region 8 with fail
 obtain ⟨BA, y1, hb1, hw1, HXA, HZA, hbn1⟩ := aB y0 [.int .i64 T.w, .int .i64 T.h, .int .i64 T.x, .int .i64 T.y, .int .i64 T.look, .int .i64 T.top, .int .i64 T.bot, .int .i64 T.sx, .int .i64 T.sy, .string T.title, .slice a1 T.cells.length c1, .slice a2 T.hist.length d2] 26
 obtain ⟨BE, y, hb2, hw2, HXE, HZE, hbn2⟩ := aB y1 [.int .i64 Q.state, .slice aq Q.args.length cq, .bool Q.priv, .string Q.text, .string Q.utf] 42
 obtain rfl : BE = BA + 1 := by have := HZA.out; omega
 rw [hw1, hw2, hb1]
 have hby : Below x0.heap.size x0 y := (hbn.trans (hbn1.mono hbn.size)).trans (hbn2.mono (Nat.le_trans hbn.size hbn1.size))
 have HBY := zz hby
 have HLA : Hid (Lie T Q BA (BA + 1) a1 c1 a2 d2 aq cq y) := zz ⟨HXA.out.below hbn2, HXE.out, (hf1.rd.below hbn1).below hbn2, ((Fr.sl (enc := iE) (fun _ => rfl) hf3).keep hbn1).keep hbn2⟩
 have hkc : k ≤ cap := by omega
 have HNA : Hid (∀ k, k ∈ bO a1 ∨ k ∈ bO a2 → x0.heap.size ≤ k) := zz (fun k hk => (hf1.bd hk).1)
 have HNBA : Hid (BS < BA) := zz (by have := HZA.out; have := HXS.out.lt; have := hbn.size; omega)
 clear hb1 hw1 hb2 hw2 hbn1 hbn2 hbn hf1 hf3 hby
 go_cut [12, 13, 14] (fun v9 v10 v11 wx => ∃ b12 b13 e1 f1 e2 f2 e3 f3, v9 = .pointer (some ⟨b12, 0, none⟩) ∧ v10 = .pointer (some ⟨b13, 0, none⟩) ∧ v11 = .int .i64 0 ∧ Hid (Lie s2 q2 b12 b13 e1 f1 e2 f2 e3 f3 wx ∧ Below y.heap.size y wx))
 case first =>
  obtain ⟨k_0, k_1, k_2, k_3, k_4, k_5, k_6, k_7, k_8, k_9, k_10, k_11⟩ := (HXS.out.below HBY.out).all12
  have k_l := (HXS.out.below HBY.out).lt
  obtain ⟨p_0, p_1, p_2, p_3, p_4⟩ := (HXP.out.below HBY.out).all5
  have p_l := (HXP.out.below HBY.out).lt
  refine (?step8 : (∀ (b12 b13 : Nat) (e1 : Option Addr) (f1 : Nat) (e2 : Option Addr) (f2 : Nat) (e3 : Option Addr) (f3 : Nat) (x : World), Below y.heap.size y x → Cl8 y s2 q2 b12 b13 e1 f1 e2 f2 e3 f3 x → wpO _ _ _ (Below y.heap.size y) [] [12,13,14] ((?A8 : Nat → Nat → Option Addr → Nat → Option Addr → Nat → Option Addr → Nat → Act) b12 b13 e1 f1 e2 f2 e3 f3) x) → _) ?key8
  case step8 =>
   intro key
   refine rB [] [0,1,2,3,4,5,6,7,8,9,10,11,12,13,14] ?_
   obtain ⟨x, hx0⟩ := eX (y.drew)
   have hB : Below y.heap.size y x := by rw [← hx0]; exact (Below.refl _ _).drew
   rw [hx0]
   clear hx0
   have hz := hB.size
   repeat (first | refine oW (h := ?_) | refine oL (h := ?_))
   all_goals first
    | refine oE [5,10,11] (aC ⟨_, rfl, fun K' hK => ?_⟩ (aC ⟨_, rfl, fun K' hK => ?_⟩ (aC ⟨_, rfl, fun K' hK => ?_⟩ aN)))
   all_goals (go_simp; first
    | (obtain ⟨b9, x, hb, hx, HN9, HZ9, hbn⟩ := aB x [.int .i64 0, .int .i64 0, .int .i64 0, .int .i64 0, .int .i64 0, .int .i64 0, .int .i64 0, .int .i64 0, .int .i64 0, .string ⟨#[]⟩, .slice none 0 0, .slice none 0 0] 26; rw [hx, hb]; clear hx hb; have hz := hbn.size; have hB : Below y.heap.size y x := hB.trans (hbn.mono hB.size); (try have HFa := zz (HFa.out.below hbn)); (try have HFb := zz (HFb.out.below hbn)); (try have HX9 := zz (HX9.out.below hbn)); (try have HX10 := zz (HX10.out.below hbn)); have HX9 := HN9; refine oN hK (hS := .inr hB) (h := ?_); clear hK K' hbn)
    | (obtain ⟨b10, x, hb, hx, HN10, HZ10, hbn⟩ := aB x [.int .i64 0, .slice none 0 0, .bool false, .string ⟨#[]⟩, .string ⟨#[]⟩] 42; rw [hx, hb]; clear hx hb; have hz := hbn.size; have hB : Below y.heap.size y x := hB.trans (hbn.mono hB.size); (try have HFa := zz (HFa.out.below hbn)); (try have HFb := zz (HFb.out.below hbn)); (try have HX9 := zz (HX9.out.below hbn)); (try have HX10 := zz (HX10.out.below hbn)); have HX10 := HN10; refine oN hK (hS := .inr hB) (h := ?_); clear hK K' hbn)
    | (go_at_call 19; refine (HF2.out _ (HBY.out.trans (hB.mono HBY.out.size))).mono ?_; rintro e x ⟨e1, f1, e2, f2, e3, f3, rfl, hf1, hf3, hbn⟩; have hz := hbn.size; have hB : Below y.heap.size y x := hB.trans (hbn.mono hB.size); (try have HFa := zz (HFa.out.below hbn)); (try have HFb := zz (HFb.out.below hbn)); (try have HX9 := zz (HX9.out.below hbn)); (try have HX10 := zz (HX10.out.below hbn)); have HFa := zz hf1; have HFb := zz hf3; have HQ : Hid ((∀ k, k ∈ bO e1 ∨ k ∈ bO e2 → _ ≤ k ∧ k < _) ∧ ∀ k ∈ bO e3, _ ≤ k ∧ k < _) := zz ⟨fun k hk => hf1.bd hk, fun k hk => Fr.blks hf3 k hk⟩; unfold scrV; clear hf1 hf3; refine oN hK (hS := .inr hB) (h := ?_); clear hK K' hbn))
   all_goals repeat (first | refine oW (h := ?_) | refine oL (h := ?_))
   all_goals first
    | refine oE [5,10] (aC ⟨_, rfl, fun K' hK => ?_⟩ (aC ⟨_, rfl, fun K' hK => ?_⟩ aN))
    | refine oE [5,11] (aC ⟨_, rfl, fun K' hK => ?_⟩ (aC ⟨_, rfl, fun K' hK => ?_⟩ aN))
    | refine oE [10,11] (aC ⟨_, rfl, fun K' hK => ?_⟩ (aC ⟨_, rfl, fun K' hK => ?_⟩ aN))
   all_goals (go_simp; first
    | (obtain ⟨b9, x, hb, hx, HN9, HZ9, hbn⟩ := aB x [.int .i64 0, .int .i64 0, .int .i64 0, .int .i64 0, .int .i64 0, .int .i64 0, .int .i64 0, .int .i64 0, .int .i64 0, .string ⟨#[]⟩, .slice none 0 0, .slice none 0 0] 26; rw [hx, hb]; clear hx hb; have hz := hbn.size; have hB : Below y.heap.size y x := hB.trans (hbn.mono hB.size); (try have HFa := zz (HFa.out.below hbn)); (try have HFb := zz (HFb.out.below hbn)); (try have HX9 := zz (HX9.out.below hbn)); (try have HX10 := zz (HX10.out.below hbn)); have HX9 := HN9; refine oN hK (hS := .inr hB) (h := ?_); clear hK K' hbn)
    | (obtain ⟨b10, x, hb, hx, HN10, HZ10, hbn⟩ := aB x [.int .i64 0, .slice none 0 0, .bool false, .string ⟨#[]⟩, .string ⟨#[]⟩] 42; rw [hx, hb]; clear hx hb; have hz := hbn.size; have hB : Below y.heap.size y x := hB.trans (hbn.mono hB.size); (try have HFa := zz (HFa.out.below hbn)); (try have HFb := zz (HFb.out.below hbn)); (try have HX9 := zz (HX9.out.below hbn)); (try have HX10 := zz (HX10.out.below hbn)); have HX10 := HN10; refine oN hK (hS := .inr hB) (h := ?_); clear hK K' hbn)
    | (go_at_call 19; refine (HF2.out _ (HBY.out.trans (hB.mono HBY.out.size))).mono ?_; rintro e x ⟨e1, f1, e2, f2, e3, f3, rfl, hf1, hf3, hbn⟩; have hz := hbn.size; have hB : Below y.heap.size y x := hB.trans (hbn.mono hB.size); (try have HFa := zz (HFa.out.below hbn)); (try have HFb := zz (HFb.out.below hbn)); (try have HX9 := zz (HX9.out.below hbn)); (try have HX10 := zz (HX10.out.below hbn)); have HFa := zz hf1; have HFb := zz hf3; have HQ : Hid ((∀ k, k ∈ bO e1 ∨ k ∈ bO e2 → _ ≤ k ∧ k < _) ∧ ∀ k ∈ bO e3, _ ≤ k ∧ k < _) := zz ⟨fun k hk => hf1.bd hk, fun k hk => Fr.blks hf3 k hk⟩; unfold scrV; clear hf1 hf3; refine oN hK (hS := .inr hB) (h := ?_); clear hK K' hbn))
   all_goals repeat (first | refine oW (h := ?_) | refine oL (h := ?_))
   all_goals first
    | refine oE [5] (aC ⟨_, rfl, fun K' hK => ?_⟩ aN)
    | refine oE [10] (aC ⟨_, rfl, fun K' hK => ?_⟩ aN)
    | refine oE [11] (aC ⟨_, rfl, fun K' hK => ?_⟩ aN)
   all_goals (go_simp; first
    | (obtain ⟨b9, x, hb, hx, HN9, HZ9, hbn⟩ := aB x [.int .i64 0, .int .i64 0, .int .i64 0, .int .i64 0, .int .i64 0, .int .i64 0, .int .i64 0, .int .i64 0, .int .i64 0, .string ⟨#[]⟩, .slice none 0 0, .slice none 0 0] 26; rw [hx, hb]; clear hx hb; have hz := hbn.size; have hB : Below y.heap.size y x := hB.trans (hbn.mono hB.size); (try have HFa := zz (HFa.out.below hbn)); (try have HFb := zz (HFb.out.below hbn)); (try have HX9 := zz (HX9.out.below hbn)); (try have HX10 := zz (HX10.out.below hbn)); have HX9 := HN9; refine oN hK (hS := .inr hB) (h := ?_); clear hK K' hbn)
    | (obtain ⟨b10, x, hb, hx, HN10, HZ10, hbn⟩ := aB x [.int .i64 0, .slice none 0 0, .bool false, .string ⟨#[]⟩, .string ⟨#[]⟩] 42; rw [hx, hb]; clear hx hb; have hz := hbn.size; have hB : Below y.heap.size y x := hB.trans (hbn.mono hB.size); (try have HFa := zz (HFa.out.below hbn)); (try have HFb := zz (HFb.out.below hbn)); (try have HX9 := zz (HX9.out.below hbn)); (try have HX10 := zz (HX10.out.below hbn)); have HX10 := HN10; refine oN hK (hS := .inr hB) (h := ?_); clear hK K' hbn)
    | (go_at_call 19; refine (HF2.out _ (HBY.out.trans (hB.mono HBY.out.size))).mono ?_; rintro e x ⟨e1, f1, e2, f2, e3, f3, rfl, hf1, hf3, hbn⟩; have hz := hbn.size; have hB : Below y.heap.size y x := hB.trans (hbn.mono hB.size); (try have HFa := zz (HFa.out.below hbn)); (try have HFb := zz (HFb.out.below hbn)); (try have HX9 := zz (HX9.out.below hbn)); (try have HX10 := zz (HX10.out.below hbn)); have HFa := zz hf1; have HFb := zz hf3; have HQ : Hid ((∀ k, k ∈ bO e1 ∨ k ∈ bO e2 → _ ≤ k ∧ k < _) ∧ ∀ k ∈ bO e3, _ ≤ k ∧ k < _) := zz ⟨fun k hk => hf1.bd hk, fun k hk => Fr.blks hf3 k hk⟩; unfold scrV; clear hf1 hf3; refine oN hK (hS := .inr hB) (h := ?_); clear hK K' hbn))
   all_goals repeat (first | refine oW (h := ?_) | refine oL (h := ?_))
   all_goals exact key b9 b10 e1 f1 e2 f2 e3 f3 x hB ⟨HX9.out, HX10.out, HFa.out.low (by omega), HFb.out.mono (by omega) (by omega), by have := HZ9.out; have := HZ10.out; omega, fun k hk => by have := HQ.out.1 k hk; have := HZ9.out; have := HZ10.out; omega, fun k hk => by have := HQ.out.2 k hk; have := HZ9.out; have := HZ10.out; omega, by have := HZ9.out; have := HZ10.out; omega, hB⟩
  case key8 =>
   intro b12 b13 e1 f1 e2 f2 e3 f3 x hB hc
   have HC := zz hc
   obtain ⟨e_0, e_1, e_2, e_3, e_4, e_5, e_6, e_7, e_8, e_9, e_10, e_11⟩ := hc.x9.all12
   have e_l := hc.x9.lt
   have e_f := hc.x9.fz
   obtain ⟨x6, hx6, hbs⟩ := hc.x9.st12 (.int .i64 s2.w) (.int .i64 s2.h) (.int .i64 s2.x) (.int .i64 s2.y) (.int .i64 s2.look) (.int .i64 s2.top) (.int .i64 s2.bot) (.int .i64 s2.sx) (.int .i64 s2.sy) (.string s2.title) (.slice e1 s2.cells.length f1) (.slice e2 s2.hist.length f2)
   clear hc
   refine oO (hS := .inr hB) (h := ?_)
   intro K' hK
   go_simp
   try rw [hx6]
   have hB6 : Below y.heap.size y x6 := hB.trans (hbs.2.below HC.out.bw.size (fun k h => by have := HC.out.lo; omega))
   refine oN hK (hS := .inr hB6) (h := ?_)
   clear hK K' hx6 e_0 e_1 e_2 e_3 e_4 e_5 e_6 e_7 e_8 e_9 e_10 e_11 e_l e_f hB
   have HS9 := zz hbs
   have hx10 := HC.out.x10.ch hbs.2 (fun e => HC.out.ne e.symm)
   obtain ⟨e_0, e_1, e_2, e_3, e_4⟩ := hx10.all5
   have e_l := hx10.lt
   have e_f := hx10.fz
   obtain ⟨x7, hx7, hbs⟩ := hx10.st5 (.int .i64 q2.state) (.slice e3 q2.args.length f3) (.bool q2.priv) (.string q2.text) (.string q2.utf)
   clear hx10
   refine oO (hS := .inr hB6) (h := ?_)
   intro K' hK
   go_simp
   try rw [hx7]
   have hB7 : Below y.heap.size y x7 := hB6.trans (hbs.2.below hB6.size (fun k h => by have := HC.out.lo; omega))
   refine oN hK (hS := .inr hB7) (h := ?_)
   clear hK K' hx7 e_0 e_1 e_2 e_3 e_4 e_l e_f hB6
   repeat (first | refine oW (h := ?_) | refine oL (h := ?_))
   refine oD ?_
   have HS10 := zz hbs
   clear hbs
   go_wp2_with fail
   go_meet
   case rel => exact ⟨b12, b13, e1, f1, e2, f2, e3, f3, rfl, rfl, rfl, zz (HC.out.lie ((HS9.out.2.mono (M := fun k => k = b12 ∨ k = b13) (fun k h => .inl (.inl h))).trans HS10.out.2 (fun k h => .inl (.inr h))) (HS9.out.1.ch HS10.out.2 HC.out.ne) HS10.out.1)⟩
 case rest =>
  obtain ⟨b12, b13, m1, n1, m2, n2, m3, n3, rfl, rfl, rfl, HC⟩ := hcut
  have HBC : Hid (Below x0.heap.size x0 wc) := zz (HBY.out.trans (HC.out.2.mono HBY.out.size))
  have HLM := zz HC.out.1
  have HLA := zz (HLA.out.below HC.out.2)
  have HSLc : Hid (Sl yE 1 wc (some ⟨gb, 0, none⟩) l) := zz (HSL.out.keep HBC.out)
  have HF3 : Hid (∀ W A ca', Below wc.heap.size wc W → Sl yE 1 W A (l.drop k) → Calls Tryz.prog 19 #[.agg #[.int .i64 s2.w, .int .i64 s2.h, .int .i64 s2.x, .int .i64 s2.y, .int .i64 s2.look, .int .i64 s2.top, .int .i64 s2.bot, .int .i64 s2.sx, .int .i64 s2.sy, .string s2.title, .slice m1 s2.cells.length n1, .slice m2 s2.hist.length n2], .agg #[.int .i64 q2.state, .slice m3 q2.args.length n3, .bool q2.priv, .string q2.text, .string q2.utf], .slice A (n - k) ca'] W (FSR T Q W)) := zz (fun W A ca' hW hA => by
   have := Zf2 s2 HOT.out.2.1 m1 n1 m2 n2 q2 HOT.out.2.2 m3 n3 A ca' (l.drop k) W (HLM.out.rd.below hW) (HLM.out.ar.keep hW) hA (by rw [List.length_drop, HLN.out]; omega) (Zj6 HOT.out.2.2) ((HU0.out.keep HBC.out).keep hW)
   rw [HTQ.out.1, HTQ.out.2, List.length_drop, HLN.out] at this
   exact this)
  clear HC
  go_upto_region 9 with fail
  obtain ⟨wy, hwy⟩ : ∃ x : World, x = wc := ⟨_, rfl⟩
  subst hwy
  obtain ⟨AD, hAD⟩ : ∃ A : Option Addr, (if cap = k then some (⟨gb, 0, none⟩ : Addr) else some ⟨gb, k, none⟩) = A := ⟨_, rfl⟩
  have HSD : Hid (∀ W, Below wy.heap.size wy W → Sl yE 1 W AD (l.drop k)) := zz (fun W hW => by
   rw [← hAD]
   by_cases h : cap = k
   ·rw [List.drop_eq_nil_of_le (by rw [HLN.out]; omega)]; exact .inl rfl
   ·rw [if_neg h]; simpa using (HSLc.out.keep hW).dropK k)
  have HAD := zz hAD
  clear hAD
  go_cut [15, 16, 17] (fun v9 v10 v11 wx => ∃ b15 b16 e1 f1 e2 f2 e3 f3, v9 = .pointer (some ⟨b15, 0, none⟩) ∧ v10 = .pointer (some ⟨b16, 0, none⟩) ∧ v11 = .int .i64 0 ∧ Hid (Lie T Q b15 b16 e1 f1 e2 f2 e3 f3 wx ∧ Below wy.heap.size wy wx))
  case first =>
   obtain ⟨k_0, k_1, k_2, k_3, k_4, k_5, k_6, k_7, k_8, k_9, k_10, k_11⟩ := HLM.out.x9.all12
   have k_l := HLM.out.x9.lt
   obtain ⟨p_0, p_1, p_2, p_3, p_4⟩ := HLM.out.x10.all5
   have p_l := HLM.out.x10.lt
   refine (?step9 : (∀ (b15 b16 : Nat) (e1 : Option Addr) (f1 : Nat) (e2 : Option Addr) (f2 : Nat) (e3 : Option Addr) (f3 : Nat) (x : World), Below wy.heap.size wy x → Cl8 wy T Q b15 b16 e1 f1 e2 f2 e3 f3 x → wpO _ _ _ (Below wy.heap.size wy) [] [12,13,14] ((?A9 : Nat → Nat → Option Addr → Nat → Option Addr → Nat → Option Addr → Nat → Act) b15 b16 e1 f1 e2 f2 e3 f3) x) → _) ?key9
   case step9 =>
    intro key
    refine rB [] [0,1,2,3,4,5,6,7,8,9,10,11,12,13,14] ?_
    obtain ⟨x, hx0⟩ := eX (wy.drew)
    have hB : Below wy.heap.size wy x := by rw [← hx0]; exact (Below.refl _ _).drew
    rw [hx0]
    clear hx0
    have hz := hB.size
    repeat (first | refine oW (h := ?_) | refine oL (h := ?_))
    rw [HAD.out]
    all_goals first
     | refine oE [5,10,11] (aC ⟨_, rfl, fun K' hK => ?_⟩ (aC ⟨_, rfl, fun K' hK => ?_⟩ (aC ⟨_, rfl, fun K' hK => ?_⟩ aN)))
    all_goals (go_simp; first
     | (obtain ⟨b9, x, hb, hx, HN9, HZ9, hbn⟩ := aB x [.int .i64 0, .int .i64 0, .int .i64 0, .int .i64 0, .int .i64 0, .int .i64 0, .int .i64 0, .int .i64 0, .int .i64 0, .string ⟨#[]⟩, .slice none 0 0, .slice none 0 0] 26; rw [hx, hb]; clear hx hb; have hz := hbn.size; have hB : Below wy.heap.size wy x := hB.trans (hbn.mono hB.size); (try have HFa := zz (HFa.out.below hbn)); (try have HFb := zz (HFb.out.below hbn)); (try have HX9 := zz (HX9.out.below hbn)); (try have HX10 := zz (HX10.out.below hbn)); have HX9 := HN9; refine oN hK (hS := .inr hB) (h := ?_); clear hK K' hbn)
     | (obtain ⟨b10, x, hb, hx, HN10, HZ10, hbn⟩ := aB x [.int .i64 0, .slice none 0 0, .bool false, .string ⟨#[]⟩, .string ⟨#[]⟩] 42; rw [hx, hb]; clear hx hb; have hz := hbn.size; have hB : Below wy.heap.size wy x := hB.trans (hbn.mono hB.size); (try have HFa := zz (HFa.out.below hbn)); (try have HFb := zz (HFb.out.below hbn)); (try have HX9 := zz (HX9.out.below hbn)); (try have HX10 := zz (HX10.out.below hbn)); have HX10 := HN10; refine oN hK (hS := .inr hB) (h := ?_); clear hK K' hbn)
     | (go_at_call 19; refine (HF3.out _ _ _ hB (HSD.out _ hB)).mono ?_; rintro e x ⟨e1, f1, e2, f2, e3, f3, rfl, hf1, hf3, hbn⟩; have hz := hbn.size; have hB : Below wy.heap.size wy x := hB.trans (hbn.mono hB.size); (try have HFa := zz (HFa.out.below hbn)); (try have HFb := zz (HFb.out.below hbn)); (try have HX9 := zz (HX9.out.below hbn)); (try have HX10 := zz (HX10.out.below hbn)); have HFa := zz hf1; have HFb := zz hf3; have HQ : Hid ((∀ k, k ∈ bO e1 ∨ k ∈ bO e2 → _ ≤ k ∧ k < _) ∧ ∀ k ∈ bO e3, _ ≤ k ∧ k < _) := zz ⟨fun k hk => hf1.bd hk, fun k hk => Fr.blks hf3 k hk⟩; unfold scrV; clear hf1 hf3; refine oN hK (hS := .inr hB) (h := ?_); clear hK K' hbn))
    all_goals repeat (first | refine oW (h := ?_) | refine oL (h := ?_))
    all_goals first
     | refine oE [5,10] (aC ⟨_, rfl, fun K' hK => ?_⟩ (aC ⟨_, rfl, fun K' hK => ?_⟩ aN))
     | refine oE [5,11] (aC ⟨_, rfl, fun K' hK => ?_⟩ (aC ⟨_, rfl, fun K' hK => ?_⟩ aN))
     | refine oE [10,11] (aC ⟨_, rfl, fun K' hK => ?_⟩ (aC ⟨_, rfl, fun K' hK => ?_⟩ aN))
    all_goals (go_simp; first
     | (obtain ⟨b9, x, hb, hx, HN9, HZ9, hbn⟩ := aB x [.int .i64 0, .int .i64 0, .int .i64 0, .int .i64 0, .int .i64 0, .int .i64 0, .int .i64 0, .int .i64 0, .int .i64 0, .string ⟨#[]⟩, .slice none 0 0, .slice none 0 0] 26; rw [hx, hb]; clear hx hb; have hz := hbn.size; have hB : Below wy.heap.size wy x := hB.trans (hbn.mono hB.size); (try have HFa := zz (HFa.out.below hbn)); (try have HFb := zz (HFb.out.below hbn)); (try have HX9 := zz (HX9.out.below hbn)); (try have HX10 := zz (HX10.out.below hbn)); have HX9 := HN9; refine oN hK (hS := .inr hB) (h := ?_); clear hK K' hbn)
     | (obtain ⟨b10, x, hb, hx, HN10, HZ10, hbn⟩ := aB x [.int .i64 0, .slice none 0 0, .bool false, .string ⟨#[]⟩, .string ⟨#[]⟩] 42; rw [hx, hb]; clear hx hb; have hz := hbn.size; have hB : Below wy.heap.size wy x := hB.trans (hbn.mono hB.size); (try have HFa := zz (HFa.out.below hbn)); (try have HFb := zz (HFb.out.below hbn)); (try have HX9 := zz (HX9.out.below hbn)); (try have HX10 := zz (HX10.out.below hbn)); have HX10 := HN10; refine oN hK (hS := .inr hB) (h := ?_); clear hK K' hbn)
     | (go_at_call 19; refine (HF3.out _ _ _ hB (HSD.out _ hB)).mono ?_; rintro e x ⟨e1, f1, e2, f2, e3, f3, rfl, hf1, hf3, hbn⟩; have hz := hbn.size; have hB : Below wy.heap.size wy x := hB.trans (hbn.mono hB.size); (try have HFa := zz (HFa.out.below hbn)); (try have HFb := zz (HFb.out.below hbn)); (try have HX9 := zz (HX9.out.below hbn)); (try have HX10 := zz (HX10.out.below hbn)); have HFa := zz hf1; have HFb := zz hf3; have HQ : Hid ((∀ k, k ∈ bO e1 ∨ k ∈ bO e2 → _ ≤ k ∧ k < _) ∧ ∀ k ∈ bO e3, _ ≤ k ∧ k < _) := zz ⟨fun k hk => hf1.bd hk, fun k hk => Fr.blks hf3 k hk⟩; unfold scrV; clear hf1 hf3; refine oN hK (hS := .inr hB) (h := ?_); clear hK K' hbn))
    all_goals repeat (first | refine oW (h := ?_) | refine oL (h := ?_))
    all_goals first
     | refine oE [5] (aC ⟨_, rfl, fun K' hK => ?_⟩ aN)
     | refine oE [10] (aC ⟨_, rfl, fun K' hK => ?_⟩ aN)
     | refine oE [11] (aC ⟨_, rfl, fun K' hK => ?_⟩ aN)
    all_goals (go_simp; first
     | (obtain ⟨b9, x, hb, hx, HN9, HZ9, hbn⟩ := aB x [.int .i64 0, .int .i64 0, .int .i64 0, .int .i64 0, .int .i64 0, .int .i64 0, .int .i64 0, .int .i64 0, .int .i64 0, .string ⟨#[]⟩, .slice none 0 0, .slice none 0 0] 26; rw [hx, hb]; clear hx hb; have hz := hbn.size; have hB : Below wy.heap.size wy x := hB.trans (hbn.mono hB.size); (try have HFa := zz (HFa.out.below hbn)); (try have HFb := zz (HFb.out.below hbn)); (try have HX9 := zz (HX9.out.below hbn)); (try have HX10 := zz (HX10.out.below hbn)); have HX9 := HN9; refine oN hK (hS := .inr hB) (h := ?_); clear hK K' hbn)
     | (obtain ⟨b10, x, hb, hx, HN10, HZ10, hbn⟩ := aB x [.int .i64 0, .slice none 0 0, .bool false, .string ⟨#[]⟩, .string ⟨#[]⟩] 42; rw [hx, hb]; clear hx hb; have hz := hbn.size; have hB : Below wy.heap.size wy x := hB.trans (hbn.mono hB.size); (try have HFa := zz (HFa.out.below hbn)); (try have HFb := zz (HFb.out.below hbn)); (try have HX9 := zz (HX9.out.below hbn)); (try have HX10 := zz (HX10.out.below hbn)); have HX10 := HN10; refine oN hK (hS := .inr hB) (h := ?_); clear hK K' hbn)
     | (go_at_call 19; refine (HF3.out _ _ _ hB (HSD.out _ hB)).mono ?_; rintro e x ⟨e1, f1, e2, f2, e3, f3, rfl, hf1, hf3, hbn⟩; have hz := hbn.size; have hB : Below wy.heap.size wy x := hB.trans (hbn.mono hB.size); (try have HFa := zz (HFa.out.below hbn)); (try have HFb := zz (HFb.out.below hbn)); (try have HX9 := zz (HX9.out.below hbn)); (try have HX10 := zz (HX10.out.below hbn)); have HFa := zz hf1; have HFb := zz hf3; have HQ : Hid ((∀ k, k ∈ bO e1 ∨ k ∈ bO e2 → _ ≤ k ∧ k < _) ∧ ∀ k ∈ bO e3, _ ≤ k ∧ k < _) := zz ⟨fun k hk => hf1.bd hk, fun k hk => Fr.blks hf3 k hk⟩; unfold scrV; clear hf1 hf3; refine oN hK (hS := .inr hB) (h := ?_); clear hK K' hbn))
    all_goals repeat (first | refine oW (h := ?_) | refine oL (h := ?_))
    all_goals exact key b9 b10 e1 f1 e2 f2 e3 f3 x hB ⟨HX9.out, HX10.out, HFa.out.low (by omega), HFb.out.mono (by omega) (by omega), by have := HZ9.out; have := HZ10.out; omega, fun k hk => by have := HQ.out.1 k hk; have := HZ9.out; have := HZ10.out; omega, fun k hk => by have := HQ.out.2 k hk; have := HZ9.out; have := HZ10.out; omega, by have := HZ9.out; have := HZ10.out; omega, hB⟩
   case key9 =>
    intro b15 b16 e1 f1 e2 f2 e3 f3 x hB hc
    have HC := zz hc
    obtain ⟨e_0, e_1, e_2, e_3, e_4, e_5, e_6, e_7, e_8, e_9, e_10, e_11⟩ := hc.x9.all12
    have e_l := hc.x9.lt
    have e_f := hc.x9.fz
    obtain ⟨x6, hx6, hbs⟩ := hc.x9.st12 (.int .i64 T.w) (.int .i64 T.h) (.int .i64 T.x) (.int .i64 T.y) (.int .i64 T.look) (.int .i64 T.top) (.int .i64 T.bot) (.int .i64 T.sx) (.int .i64 T.sy) (.string T.title) (.slice e1 T.cells.length f1) (.slice e2 T.hist.length f2)
    clear hc
    refine oO (hS := .inr hB) (h := ?_)
    intro K' hK
    go_simp
    try rw [hx6]
    have hB6 : Below wy.heap.size wy x6 := hB.trans (hbs.2.below HC.out.bw.size (fun k h => by have := HC.out.lo; omega))
    refine oN hK (hS := .inr hB6) (h := ?_)
    clear hK K' hx6 e_0 e_1 e_2 e_3 e_4 e_5 e_6 e_7 e_8 e_9 e_10 e_11 e_l e_f hB
    have HS9 := zz hbs
    have hx10 := HC.out.x10.ch hbs.2 (fun e => HC.out.ne e.symm)
    obtain ⟨e_0, e_1, e_2, e_3, e_4⟩ := hx10.all5
    have e_l := hx10.lt
    have e_f := hx10.fz
    obtain ⟨x7, hx7, hbs⟩ := hx10.st5 (.int .i64 Q.state) (.slice e3 Q.args.length f3) (.bool Q.priv) (.string Q.text) (.string Q.utf)
    clear hx10
    refine oO (hS := .inr hB6) (h := ?_)
    intro K' hK
    go_simp
    try rw [hx7]
    have hB7 : Below wy.heap.size wy x7 := hB6.trans (hbs.2.below hB6.size (fun k h => by have := HC.out.lo; omega))
    refine oN hK (hS := .inr hB7) (h := ?_)
    clear hK K' hx7 e_0 e_1 e_2 e_3 e_4 e_l e_f hB6
    repeat (first | refine oW (h := ?_) | refine oL (h := ?_))
    refine oD ?_
    have HS10 := zz hbs
    clear hbs
    go_wp2_with fail
    go_meet
    case rel => exact ⟨b15, b16, e1, f1, e2, f2, e3, f3, rfl, rfl, rfl, zz (HC.out.lie ((HS9.out.2.mono (M := fun k => k = b15 ∨ k = b16) (fun k h => .inl (.inl h))).trans HS10.out.2 (fun k h => .inl (.inr h))) (HS9.out.1.ch HS10.out.2 HC.out.ne) HS10.out.1)⟩
  case rest =>
   obtain ⟨b15, b16, u1, v1, u2, v2, u3, v3, rfl, rfl, rfl, HC⟩ := hcut
   have HBU : Hid (Below x0.heap.size x0 wc) := zz (HBC.out.trans (HC.out.2.mono HBC.out.size))
   have HLZ := zz HC.out.1
   have HLA := zz (HLA.out.below HC.out.2)
   obtain ⟨yc, hyc⟩ : ∃ x : World, x = wc := ⟨_, rfl⟩
   subst hyc
   have HSA : Hid (∀ W, Below yc.heap.size yc W → Calls Tryz.prog 10 #[.agg #[.int .i64 T.w, .int .i64 T.h, .int .i64 T.x, .int .i64 T.y, .int .i64 T.look, .int .i64 T.top, .int .i64 T.bot, .int .i64 T.sx, .int .i64 T.sy, .string T.title, .slice a1 T.cells.length c1, .slice a2 T.hist.length d2], .agg #[.int .i64 T.w, .int .i64 T.h, .int .i64 T.x, .int .i64 T.y, .int .i64 T.look, .int .i64 T.top, .int .i64 T.bot, .int .i64 T.sx, .int .i64 T.sy, .string T.title, .slice u1 T.cells.length v1, .slice u2 T.hist.length v2]] W fun e w' => e = .returned (.bool true) ∧ Below W.heap.size W w') := zz (fun W h => Zh1 T T HOT.out.1 HOT.out.1 a1 c1 a2 d2 u1 v1 u2 v2 W (HLA.out.rd.below h) (HLZ.out.rd.below h) rfl)
   have HSQ : Hid (∀ W, Below yc.heap.size yc W → Calls Tryz.prog 20 #[.agg #[.int .i64 Q.state, .slice aq Q.args.length cq, .bool Q.priv, .string Q.text, .string Q.utf], .agg #[.int .i64 Q.state, .slice u3 Q.args.length v3, .bool Q.priv, .string Q.text, .string Q.utf]] W fun e w' => e = .returned (.bool true) ∧ Below W.heap.size W w') := zz (fun W h => Zl1 aq u3 cq v3 Q W (HLA.out.ar.keep h) (HLZ.out.ar.keep h) (Zj6 HOQ.out).args)
   clear HC
   obtain ⟨k_0, k_1, k_2, k_3, k_4, k_5, k_6, k_7, k_8, k_9, k_10, k_11⟩ := HLA.out.x9.all12
   have k_l := HLA.out.x9.lt
   obtain ⟨q_0, q_1, q_2, q_3, q_4, q_5, q_6, q_7, q_8, q_9, q_10, q_11⟩ := HLZ.out.x9.all12
   have q_l := HLZ.out.x9.lt
   go_wp2_with fail
   refine (HSA.out _ (Below.refl _ _)).mono ?_
   rintro e yd ⟨rfl, hbn⟩
   have HBD := zz hbn
   clear k_0 k_1 k_2 k_3 k_4 k_5 k_6 k_7 k_8 k_9 k_10 k_11 q_0 q_1 q_2 q_3 q_4 q_5 q_6 q_7 q_8 q_9 q_10 q_11 k_l q_l hbn
   obtain ⟨p_0, p_1, p_2, p_3, p_4⟩ := (HLA.out.x10.below HBD.out).all5
   have p_l := (HLA.out.x10.below HBD.out).lt
   obtain ⟨r_0, r_1, r_2, r_3, r_4⟩ := (HLZ.out.x10.below HBD.out).all5
   have r_l := (HLZ.out.x10.below HBD.out).lt
   go_wp2_with fail
   refine (HSQ.out _ HBD.out).mono ?_
   rintro e ye ⟨rfl, hbn⟩
   have HBE : Hid (Below yc.heap.size yc ye) := zz (HBD.out.trans (hbn.mono HBD.out.size))
   have HBF : Hid (Below x0.heap.size x0 ye) := zz (HBU.out.trans (HBE.out.mono HBU.out.size))
   clear p_0 p_1 p_2 p_3 p_4 r_0 r_1 r_2 r_3 r_4 p_l r_l hbn
   go_upto_region 12 with fail
   obtain ⟨p_0, p_1, p_2, p_3, p_4⟩ := (HXP.out.below HBF.out).all5
   have p_l := (HXP.out.below HBF.out).lt
   go_wp2_with fail
   refine (HPB.out _ HBF.out).mono ?_
   rintro e yf ⟨ap9, cp9, al, cl, LA, rfl, hf9, hro, hdis, hmap, hbn⟩
   have hmap : LA.map (·.A) = (prun p l).2 := hmap
   have HRO := zz hro
   have HMAP := zz hmap
   have HBG : Hid (Below x0.heap.size x0 yf) := zz (HBF.out.trans (hbn.mono HBF.out.size))
   have HLA := zz ((HLA.out.below HBE.out).below hbn)
   have HRB : Hid (∀ k ∈ acB al LA, ye.heap.size ≤ k ∧ k < yf.heap.size) := zz (fun k hk => hro.bd actL k hk)
   have HYE : Hid (x0.heap.size ≤ ye.heap.size) := zz HBF.out.size
   have hlm : LA.length ≤ 1048576 := by
    have h1 := congrArg List.length hmap
    rw [List.length_map] at h1
    have h2 := Yh5 l p
    have h3 := HLN.out
    omega
   clear p_0 p_1 p_2 p_3 p_4 p_l hf9 hdis hmap hro hbn
   go_upto_region 14 with fail
   obtain ⟨B18, yl, hb18, hw18, HX18, HZ18, hbn⟩ := aB yf [.int .i64 (prun p l).1.state, .slice ap9 (prun p l).1.args.length cp9, .bool (prun p l).1.priv, .string (prun p l).1.text, .string (prun p l).1.utf] 42
   rw [hw18, hb18]
   have HBL : Hid (Below x0.heap.size x0 yl) := zz (HBG.out.trans (hbn.mono HBG.out.size))
   have HLA := zz (HLA.out.below hbn)
   have HRO := zz (HRO.out.keep actL hbn)
   have HBSL : Hid (BS < x0.heap.size) := zz HXS.out.lt
   clear hw18 hb18 hbn
   go_wp2_with fail
   go_loopw [21] (fun iv wr => ∃ j : Nat, j ≤ LA.length ∧ iv = .int .i64 j ∧ Hid (∃ S a c h d, actsI s ((LA.map (·.A)).take j) = S ∧ Bx wr BS [.int .i64 S.w, .int .i64 S.h, .int .i64 S.x, .int .i64 S.y, .int .i64 S.look, .int .i64 S.top, .int .i64 S.bot, .int .i64 S.sx, .int .i64 S.sy, .string S.title, .slice a S.cells.length c, .slice h S.hist.length d] ∧ sS S a h wr ∧ (∀ k, k ∈ bO a ∨ k ∈ bO h → k ≠ BS ∧ k < wr.heap.size) ∧ Ch (fun k => k = BS) yl wr)) (fun iv _ => LA.length - (intOf iv).toNat)
   case atStart => exact ⟨0, Nat.zero_le _, rfl, zz ⟨s, ac, cc, ah, dh, rfl, HXS.out.below HBL.out, HSS.out.below HBL.out, fun k hk => by have := HNB.out.2 k hk; have := HBSL.out; have := HBL.out.size; omega, Ch.refl⟩⟩
   case round =>
    obtain ⟨j, hj, rfl, HR⟩ := hrel
    by_cases hjl : j < LA.length
    ·have hjl' : (j : Int) < (LA.length : Int) := by omega
     obtain ⟨S, a, c, h, d, hS, hbx, hrd, hnb, hch⟩ := HR.out
     have hjm : j < (LA.map (·.A)).length := by simpa using hjl
     have hsn := Zm8 s (LA.map (·.A)) hjm
     have hlow : ∀ k ∈ acB al LA, ¬ k = BS := fun k hk => by have := HRB.out k hk; have := HYE.out; have := HBSL.out; omega
     have hro := HRO.out.ch actL hch hlow
     obtain ⟨b2, q2_, rfl, hb2, hc2⟩ := (Fr.sl (enc := actE) (fun _ => rfl) hro.row).at hjl
     have how := hro.ow LA[j] (List.getElem_mem _)
     have hkb : ∀ k ∈ bO (LA[j]).aa, k < wr.heap.size := fun k hk => (hro.bd actL k (List.mem_append.2 (.inr (List.mem_flatMap.2 ⟨LA[j], List.getElem_mem _, hk⟩)))).2
     have hac : AcOK (LA[j]).A := Zd4 l HPK.out _ (by rw [← HMAP.out]; exact List.mem_map.2 ⟨LA[j], List.getElem_mem _, rfl⟩)
     have hok : sK S := by rw [← hS]; exact HOK.out.actsI (fun a ha => Zd4 l HPK.out a (by rw [← HMAP.out]; exact List.mem_of_mem_take ha))
     obtain ⟨r, hr⟩ := eX (LA[j])
     rw [hr] at how hkb hac
     have hsl : Sl iE 1 wr r.aa r.A.args := Fr.sl (enc := iE) (fun _ => rfl) how
     obtain ⟨S', hS'⟩ := eX (actI S r.A)
     have HSN : Hid (actsI s ((LA.map (·.A)).take (j + 1)) = S') := zz (by rw [hsn, hS, ← hS', ← hr]; simp)
     have HAP : Hid (∀ W, Below wr.heap.size wr W → Calls Tryz.prog 15 #[.agg #[.int .i64 S.w, .int .i64 S.h, .int .i64 S.x, .int .i64 S.y, .int .i64 S.look, .int .i64 S.top, .int .i64 S.bot, .int .i64 S.sx, .int .i64 S.sy, .string S.title, .slice a S.cells.length c, .slice h S.hist.length d], .agg #[.int .i64 r.A.kind, .int .i64 r.A.n, .bool r.A.priv, .slice r.aa r.A.args.length r.ca, .string r.A.text]] W (ScrM S' W)) := zz (fun W hW => by rw [← hS']; exact Zi3 S hok a c h d r.A r.aa r.ca W (hrd.below hW) hac (hsl.keep hW) (fun k hk => Nat.lt_of_lt_of_le (hkb k hk) hW.size))
     have c_0 := hc2 j hjl 0 (by omega)
     have c_1 := hc2 j hjl 1 (by omega)
     have c_2 := hc2 j hjl 2 (by omega)
     have c_3 := hc2 j hjl 3 (by omega)
     have c_4 := hc2 j hjl 4 (by omega)
     simp only [hr, actE, Nat.add_zero, List.getElem?_cons_zero, List.getElem?_cons_succ] at c_0 c_1 c_2 c_3 c_4
     obtain ⟨ln, hln⟩ := eX (r.A.args.length)
     rw [hln] at c_3 HAP
     have HBX := zz hbx
     have HCH := zz hch
     have HNBJ := zz hnb
     clear hbx hrd hnb hch hS hjm hsn hlow hro hc2 how hkb hac hok hr hsl hS' hln HR
     obtain ⟨k_0, k_1, k_2, k_3, k_4, k_5, k_6, k_7, k_8, k_9, k_10, k_11⟩ := HBX.out.all12
     have k_l := HBX.out.lt
     go_upto_region 16 with fail
     go_cut [22, 23] (fun v22 v23 wx => ∃ b22 e1 f1 e2 f2, v22 = .pointer (some ⟨b22, 0, none⟩) ∧ v23 = .int .i64 0 ∧ Hid (Bx wx b22 [.int .i64 S'.w, .int .i64 S'.h, .int .i64 S'.x, .int .i64 S'.y, .int .i64 S'.look, .int .i64 S'.top, .int .i64 S'.bot, .int .i64 S'.sx, .int .i64 S'.sy, .string S'.title, .slice e1 S'.cells.length f1, .slice e2 S'.hist.length f2] ∧ sF wr.heap.size S' e1 f1 e2 f2 wx ∧ wr.heap.size ≤ b22 ∧ Below wr.heap.size wr wx))
     case first =>
      refine (?step16 : (∀ (b22 : Nat) (e1 : Option Addr) (f1 : Nat) (e2 : Option Addr) (f2 : Nat) (x : World), Below wr.heap.size wr x → (Bx x b22 [.int .i64 0, .int .i64 0, .int .i64 0, .int .i64 0, .int .i64 0, .int .i64 0, .int .i64 0, .int .i64 0, .int .i64 0, .string ⟨#[]⟩, .slice none 0 0, .slice none 0 0] ∧ sF wr.heap.size S' e1 f1 e2 f2 x ∧ (∀ k, k ∈ bO e1 ∨ k ∈ bO e2 → k ≠ b22) ∧ wr.heap.size ≤ b22) → wpO _ _ _ (Below wr.heap.size wr) [] [10,11] ((?A16 : Nat → Option Addr → Nat → Option Addr → Nat → Act) b22 e1 f1 e2 f2) x) → _) ?key16
      case step16 =>
       intro key
       refine rB [] [0,1,2,3,4,5,6,7,8,9,10,11] ?_
       obtain ⟨x, hx0⟩ := eX (wr.drew)
       have hB : Below wr.heap.size wr x := by rw [← hx0]; exact (Below.refl _ _).drew
       rw [hx0]
       clear hx0
       have hz := hB.size
       repeat (first | refine oW (h := ?_) | refine oL (h := ?_))
       all_goals first
        | refine oE [5,9] (aC ⟨_, rfl, fun K' hK => ?_⟩ (aC ⟨_, rfl, fun K' hK => ?_⟩ aN))
       all_goals (go_simp; first
        | (obtain ⟨b22, x, hb, hx, HN9, HZ9, hbn⟩ := aB x [.int .i64 0, .int .i64 0, .int .i64 0, .int .i64 0, .int .i64 0, .int .i64 0, .int .i64 0, .int .i64 0, .int .i64 0, .string ⟨#[]⟩, .slice none 0 0, .slice none 0 0] 26; rw [hx, hb]; clear hx hb; have hz := hbn.size; have hB : Below wr.heap.size wr x := hB.trans (hbn.mono hB.size); (try have HFa := zz (HFa.out.below hbn)); (try have HX9 := zz (HX9.out.below hbn)); have HX9 := HN9; refine oN hK (hS := .inr hB) (h := ?_); clear hK K' hbn)
        | (go_at_call 15; refine (HAP.out _ hB).mono ?_; rintro e x ⟨e1, f1, e2, f2, rfl, hf1, hbn⟩; have hz := hbn.size; have hB : Below wr.heap.size wr x := hB.trans (hbn.mono hB.size); (try have HFa := zz (HFa.out.below hbn)); (try have HX9 := zz (HX9.out.below hbn)); have HFa := zz hf1; have HQ : Hid (∀ k, k ∈ bO e1 ∨ k ∈ bO e2 → _ ≤ k ∧ k < _) := zz (fun k hk => hf1.bd hk); unfold scrV; clear hf1; refine oN hK (hS := .inr hB) (h := ?_); clear hK K' hbn))
       all_goals repeat (first | refine oW (h := ?_) | refine oL (h := ?_))
       all_goals first
        | refine oE [5] (aC ⟨_, rfl, fun K' hK => ?_⟩ aN)
        | refine oE [9] (aC ⟨_, rfl, fun K' hK => ?_⟩ aN)
       all_goals (go_simp; first
        | (obtain ⟨b22, x, hb, hx, HN9, HZ9, hbn⟩ := aB x [.int .i64 0, .int .i64 0, .int .i64 0, .int .i64 0, .int .i64 0, .int .i64 0, .int .i64 0, .int .i64 0, .int .i64 0, .string ⟨#[]⟩, .slice none 0 0, .slice none 0 0] 26; rw [hx, hb]; clear hx hb; have hz := hbn.size; have hB : Below wr.heap.size wr x := hB.trans (hbn.mono hB.size); (try have HFa := zz (HFa.out.below hbn)); (try have HX9 := zz (HX9.out.below hbn)); have HX9 := HN9; refine oN hK (hS := .inr hB) (h := ?_); clear hK K' hbn)
        | (go_at_call 15; refine (HAP.out _ hB).mono ?_; rintro e x ⟨e1, f1, e2, f2, rfl, hf1, hbn⟩; have hz := hbn.size; have hB : Below wr.heap.size wr x := hB.trans (hbn.mono hB.size); (try have HFa := zz (HFa.out.below hbn)); (try have HX9 := zz (HX9.out.below hbn)); have HFa := zz hf1; have HQ : Hid (∀ k, k ∈ bO e1 ∨ k ∈ bO e2 → _ ≤ k ∧ k < _) := zz (fun k hk => hf1.bd hk); unfold scrV; clear hf1; refine oN hK (hS := .inr hB) (h := ?_); clear hK K' hbn))
       all_goals repeat (first | refine oW (h := ?_) | refine oL (h := ?_))
       all_goals exact key b22 e1 f1 e2 f2 x hB ⟨HX9.out, HFa.out.low (by omega), fun k hk => by have := HQ.out k hk; have := HZ9.out; omega, by have := HZ9.out; omega⟩
      case key16 =>
       intro b22 e1 f1 e2 f2 x hB hc
       have HC := zz hc
       obtain ⟨e_0, e_1, e_2, e_3, e_4, e_5, e_6, e_7, e_8, e_9, e_10, e_11⟩ := hc.1.all12
       have e_l := hc.1.lt
       have e_f := hc.1.fz
       obtain ⟨x6, hx6, hbs⟩ := hc.1.st12 (.int .i64 S'.w) (.int .i64 S'.h) (.int .i64 S'.x) (.int .i64 S'.y) (.int .i64 S'.look) (.int .i64 S'.top) (.int .i64 S'.bot) (.int .i64 S'.sx) (.int .i64 S'.sy) (.string S'.title) (.slice e1 S'.cells.length f1) (.slice e2 S'.hist.length f2)
       clear hc
       refine oO (hS := .inr hB) (h := ?_)
       intro K' hK
       go_simp
       try rw [hx6]
       have hB6 : Below wr.heap.size wr x6 := hB.trans (hbs.2.below hB.size (fun k h => by have := HC.out.2.2.2; omega))
       refine oN hK (hS := .inr hB6) (h := ?_)
       clear hK K' hx6 e_0 e_1 e_2 e_3 e_4 e_5 e_6 e_7 e_8 e_9 e_10 e_11 e_l e_f hB
       repeat (first | refine oW (h := ?_) | refine oL (h := ?_))
       refine oD ?_
       have HS9 := zz hbs
       clear hbs
       go_wp2_with fail
       go_meet
       case rel => exact ⟨b22, e1, f1, e2, f2, rfl, rfl, zz ⟨HS9.out.1, HC.out.2.1.ch HS9.out.2 (fun k hk => HC.out.2.2.1 k (.inl hk)) (fun k hk => HC.out.2.2.1 k (.inr hk)), HC.out.2.2.2, hB6⟩⟩
     case rest =>
      obtain ⟨b22, e1, f1, e2, f2, rfl, rfl, HC⟩ := hcut
      obtain ⟨yx, hyx⟩ : ∃ x : World, x = wc := ⟨_, rfl⟩
      subst hyx
      clear k_0 k_1 k_2 k_3 k_4 k_5 k_6 k_7 k_8 k_9 k_10 k_11 k_l
      obtain ⟨k_0, k_1, k_2, k_3, k_4, k_5, k_6, k_7, k_8, k_9, k_10, k_11⟩ := HC.out.1.all12
      have k_l := HC.out.1.lt
      have hbo := HBX.out.below HC.out.2.2.2
      obtain ⟨e_0, e_1, e_2, e_3, e_4, e_5, e_6, e_7, e_8, e_9, e_10, e_11⟩ := hbo.all12
      have e_l := hbo.lt
      have e_f := hbo.fz
      have HBS := zz (hbo.sets12 (.int .i64 S'.w) (.int .i64 S'.h) (.int .i64 S'.x) (.int .i64 S'.y) (.int .i64 S'.look) (.int .i64 S'.top) (.int .i64 S'.bot) (.int .i64 S'.sx) (.int .i64 S'.sy) (.string S'.title) (.slice e1 S'.cells.length f1) (.slice e2 S'.hist.length f2))
      have hz22 := HC.out.2.2.2.size
      have hbl := HBX.out.lt
      have HLB := zz hbl
      clear hbo hbl
      go_wp2_with fail
      go_roundw
      case rel =>
       have h1 := HC.out.2.1.ch HBS.out.2 (fun k hk e => by have := (HC.out.2.1.bd (.inl hk)).1; have := HLB.out; omega) (fun k hk e => by have := (HC.out.2.1.bd (.inr hk)).1; have := HLB.out; omega)
       exact ⟨j + 1, by omega, by go_num, zz ⟨S', e1, f1, e2, f2, HSN.out, HBS.out.1, h1.rd, fun k hk => by have := h1.bd hk; have := HLB.out; omega, (HCH.out.below1 HC.out.2.2.2).trans HBS.out.2 (fun _ h => .inl h)⟩⟩
      case measure => simp [intOf]; omega
    ·obtain rfl : j = LA.length := by omega
     obtain ⟨S, a, c, h, d, hS, hbx, hrd, hnb, hch⟩ := HR.out
     rw [List.take_of_length_le (by simp), HMAP.out, HT.out] at hS
     subst hS
     have hn1 : ∀ k, k ∈ bO a1 ∨ k ∈ bO a2 → ¬ k = BS := fun k hk => by have := HNA.out k hk; have := HBSL.out; omega
     have hrA : sS T a1 a2 wr := ⟨HLA.out.rd.cs.ch hch (fun k hk => hn1 k (.inl hk)), HLA.out.rd.hs.ch hch (fun k hk => hn1 k (.inr hk))⟩
     have HBA := zz (HLA.out.x9.ch hch (by have := HNBA.out; omega))
     have HSZ : Hid (∀ W, Below wr.heap.size wr W → Calls Tryz.prog 10 #[.agg #[.int .i64 T.w, .int .i64 T.h, .int .i64 T.x, .int .i64 T.y, .int .i64 T.look, .int .i64 T.top, .int .i64 T.bot, .int .i64 T.sx, .int .i64 T.sy, .string T.title, .slice a1 T.cells.length c1, .slice a2 T.hist.length d2], .agg #[.int .i64 T.w, .int .i64 T.h, .int .i64 T.x, .int .i64 T.y, .int .i64 T.look, .int .i64 T.top, .int .i64 T.bot, .int .i64 T.sx, .int .i64 T.sy, .string T.title, .slice a T.cells.length c, .slice h T.hist.length d]] W fun e w' => e = .returned (.bool true) ∧ Below W.heap.size W w') := zz (fun W hW => Zh1 T T HOT.out.1 HOT.out.1 a1 c1 a2 d2 a c h d W (hrA.below hW) (hrd.below hW) rfl)
     have HBX := zz hbx
     have HBZ : Hid (Below w.heap.size w wr) := zz (by
      have h1 : Below w.heap.size w yl := HB0.out.trans (HBL.out.mono HB0.out.size)
      exact h1.trans (hch.below h1.size (fun k h => by have := HNB.out.1; omega)))
     clear hbx hrd hnb hch hn1 hrA HR
     obtain ⟨k_0, k_1, k_2, k_3, k_4, k_5, k_6, k_7, k_8, k_9, k_10, k_11⟩ := HBA.out.all12
     have k_l := HBA.out.lt
     obtain ⟨q_0, q_1, q_2, q_3, q_4, q_5, q_6, q_7, q_8, q_9, q_10, q_11⟩ := HBX.out.all12
     have q_l := HBX.out.lt
     go_wp2_with fail
     refine (HSZ.out _ (Below.refl _ _)).mono ?_
     rintro e wz ⟨rfl, hbn⟩
     have HBN := zz hbn
     clear hbn
     go_wp2_with fail
     go_ret
     exact ⟨rfl, HBZ.out.trans (HBN.out.mono HBZ.out.size)⟩
end
section
open Go.ChangeShapes Go.WideShapes Go.ChangeAt Go.RowKit
theorem Tryz.own : ownKnob Tryz.prog.godebug = none := by kernel_rfl
theorem Tryz.laidOut : laidOutB Tryz.prog = true := by kernel_rfl
theorem Zh8 {H : Type} {enc : TypeId × Value → H} {P : Program} (hl : laidOutB P = true) {W W' : World} (hb : Below W.heap.size W W') :
 ∀ {ts : List TypeId} {vs : List Value} {ds : List (DataW H)} {ps : List MemPlace}, (ts.all fun t => P.readableRec t && decide (t < P.types.size)) = true → (∀ x ∈ ps, x.block < W.heap.size) →
  DataW.TrodAll enc P W 0 (fun _ => true) true ts vs ds ps → DataW.TrodAll enc P W' 0 (fun b => decide (b < W.heap.size)) true ts vs ds ps
 | [], vs, ds, ps, _, _, h => by
   obtain ⟨rfl, rfl, rfl⟩ := trodAll_nil h
   exact trodAll_mk0
 | t :: ts, vs, ds, ps, hr, hlt, h => by
   obtain ⟨v, vs', d, ds', p, q, rfl, rfl, rfl, h1, h2⟩ := trodAll_cons h
   simp only [List.all_cons, Bool.and_eq_true, decide_eq_true_eq] at hr
   exact trodAll_cons_mk (Below.trod hl hr.1.1 hr.1.2 h1 hb (fun x hx => hlt x (List.mem_append_left _ hx)))
    (Zh8 hl hb hr.2 (fun x hx => hlt x (List.mem_append_right _ hx)) h2)
theorem Yf7 {H : Type} {enc : TypeId × Value → H} {F : Nat} {fn : Func} {s : ChangeSpec} {W : World} {args : Array Value} {ds gs : List (DataW H)} {before : List MemPlace}
 (hvars : s.vars = []) (hrt : fn.resultTypes = #[4])
 (hread : (fn.params.toList.all fun t => Tryz.prog.readableRec t && decide (t < Tryz.prog.types.size)) = true)
 (hW : DataW.Whole enc Tryz.checked.prog fn.params.toList s.vars false W args.toList ds gs before)
 (hsp : s.fn H (ds ++ gs) = { results := [.lit (.bool true)], args := ds })
 (hc : Calls Tryz.prog F args W fun e W' => e = .returned (.bool true) ∧ Below W.heap.size W W') :
 Calls Tryz.checked.prog F args W fun e W' => ∃ v, e = .returned v ∧ s.post enc Tryz.checked.prog fn false true false false W args v W' := by
 refine Calls.mono (P := Tryz.prog) hc fun e W' ⟨he, hb⟩ => ?_
 subst he
 have hlt : ∀ x ∈ before, x.block < W.heap.size := fun x hx => hW.lt x hx
 have hW' := hW
 obtain ⟨p, q, hA, hV, rfl, _, _⟩ := hW
 rw [hvars] at hV
 obtain ⟨rfl, rfl⟩ := trodVars_none hV
 refine ⟨_, rfl, _, _, _, [], p, [], hW', ?_, ?_, ?_, hb.frame _, fun h => by cases h⟩
 ·rw [hsp, hrt]
  exact trodAll_mk1 (shut_bool Tryz.underlying4 _)
 ·rw [hsp]
  exact Zh8 Tryz.laidOut hb hread (fun x hx => hlt x (List.mem_append_left _ hx)) hA
 ·rw [hsp, hvars]
  rfl
/-! slices -/
theorem open_slc {H : Type} {enc' : TypeId × Value → H} {α : Type} {enc : α → List Value} {sz : Nat} {Q : α → Prop} {W : World} {fuel : Nat} {t e : TypeId} {cs : List Value} {x : DataW H × List MemPlace}
 (ht : Tryz.prog.underlying t = some (.slice e)) (hc : Tryz.prog.cellsOf e = sz) (hsz : 0 < sz)
 (hel : ∀ (n : Nat) (cs : List Value) (x : DataW H × List MemPlace), DataW.trod enc' Tryz.prog W 0 (fun _ => true) true n e cs = some x → ∃ y : α, cs = enc y ∧ Q y)
 (hf : DataW.trod enc' Tryz.prog W 0 (fun _ => true) true fuel t cs = some x) :
 ∃ (a : Option Addr) (cap : Nat) (xs : List α), cs = [.slice a xs.length cap] ∧ xs.length ≤ 9223372036854775807 ∧ (∀ x ∈ xs, Q x) ∧ Sl enc sz W a xs := by
 rcases Deep.open_slice ht hf with ⟨hcs, _⟩ | ⟨a, len, cap, m, n, D, Pl, hcs, _, hl, hm, hmm, _, hx⟩
 ·subst hcs
  exact ⟨none, 0, [], rfl, by simp, by simp, .inl rfl⟩
 ·subst hcs
  simp only [if_true] at hmm
  subst hmm
  have each : ∀ i, i < len → ∃ y : α, W.cells? 0 (a.add (i * sz)) sz = some (enc y) ∧ Q y := by
   intro i hi
   obtain ⟨cs', h1, h2⟩ := hx i (by omega)
   obtain ⟨y, rfl, hq⟩ := hel n cs' _ h2
   exact ⟨y, by rw [← hc]; exact h1, hq⟩
  by_cases h0 : len = 0
  ·subst h0
   exact ⟨_, _, [], rfl, by simp, by simp, .inl rfl⟩
  ·obtain ⟨y0, _⟩ := each 0 (by omega)
   obtain ⟨f, hf'⟩ := @Deep.choose_lt α ⟨y0⟩ len (fun i y => W.cells? 0 (a.add (i * sz)) sz = some (enc y) ∧ Q y) each
   have cellAt : ∀ i, i < len → ∀ j, j < sz → W.cell? ((a.add (i * sz)).add j) = (enc (f i))[j]? := by
    intro i hi j hj
    obtain ⟨_, hlen, hcell⟩ := World.cells?_some (hf' i hi).1
    exact hcell j hj
   have hc00 := cellAt 0 (by omega) 0 hsz
   have hlen0 : (enc (f 0)).length = sz := (World.cells?_some (hf' 0 (by omega)).1).2.1
   rw [List.getElem?_eq_getElem (by omega)] at hc00
   simp only [Nat.zero_mul] at hc00
   have hadd0 : (a.add 0).add 0 = a := by simp [Addr.add]
   rw [hadd0] at hc00
   obtain ⟨b, off, spot⟩ := a
   have hspot : spot = none := by simpa using World.cell?_spot hc00
   subst hspot
   have hb := World.block_lt_of_cell? W _ hc00
   refine ⟨some ⟨b, off, none⟩, m, (List.range len).map f, by simp, by simp; unfold maxLen at hm; omega, ?_, .inr ⟨b, off, rfl, hb, ?_⟩⟩
   ·intro x hx'
    obtain ⟨i, hi, rfl⟩ := List.mem_map.1 hx'
    exact (hf' i (List.mem_range.1 hi)).2
   ·intro i hi j hj
    have hi' : i < len := by simpa using hi
    have := cellAt i hi' j hj
    rw [Deep.add_add] at this
    have hadd : (⟨b, off, none⟩ : Addr).add (i * sz + j) = ⟨b, off + i * sz + j, none⟩ := by
     unfold Addr.add; split <;> simp_all [Nat.add_assoc]
    rw [hadd] at this
    rw [this]
    simp
theorem open_sl {H : Type} {enc' : TypeId × Value → H} {α : Type} {enc : α → List Value} {sz : Nat} {Q : α → Prop} {W : World} {base : Nat} {t e : TypeId} {v : Value} {d : DataW H} {p : List MemPlace}
 (ht : Tryz.prog.underlying t = some (.slice e)) (hc : Tryz.prog.cellsOf e = sz) (hsz : 0 < sz)
 (hel : ∀ (n : Nat) (cs : List Value) (x : DataW H × List MemPlace), DataW.trod enc' Tryz.prog W 0 (fun _ => true) true n e cs = some x → ∃ y : α, cs = enc y ∧ Q y)
 (hv : Value.okWide Tryz.prog W .any base t v) (h : DataW.Trod enc' Tryz.prog W 0 (fun _ => true) true t v d p) :
 ∃ (a : Option Addr) (cap : Nat) (xs : List α), v = .slice a xs.length cap ∧ xs.length ≤ 9223372036854775807 ∧ (∀ x ∈ xs, Q x) ∧ Sl enc sz W a xs := by
 obtain ⟨a0, len, cap, rfl⟩ := okWide_slice ht hv
 obtain ⟨fuel, hf⟩ := h
 obtain ⟨a, c, xs, hcs, h1, h2, h3⟩ := open_slc (enc := enc) ht hc hsz hel hf
 simp [Value.cells] at hcs
 obtain ⟨rfl, rfl, rfl⟩ := hcs
 exact ⟨_, _, xs, rfl, h1, h2, h3⟩
/-! entries, states -/
/-! stores -/
section
open Go.Joins
end
end
section
open Go.ChangeShapes Go.WideShapes Go.ChangeAt Go.RowKit
theorem Zl0 {H : Type} {enc' : TypeId × Value → H} {W : World} {base : Nat} {v : Value} {d : DataW H} {p : List MemPlace} (hv : Value.okWide Tryz.prog W .any base 22 v)
 (h : DataW.Trod enc' Tryz.prog W 0 (fun _ => true) true 22 v d p) : ∃ (a : Option Addr) (cap : Nat) (xs : List UInt8), v = .slice a xs.length cap ∧ xs.length ≤ 9223372036854775807 ∧ (∀ s ∈ xs, (fun _ : UInt8 => True) s) ∧ Sl yE 1 W a xs :=
 open_sl Tryz.underlying22 (by kernel_rfl) (by decide) (fun n cs x hx => by
  obtain ⟨s, rfl, _, hs⟩ := DataW.trod_int Tryz.underlying5 hx
  have h0 : 0 ≤ s ∧ s < 256 := by
   simp [Lit.wf, IntKind.min, IntKind.max, IntKind.bits, IntKind.signed] at hs
   omega
  exact ⟨UInt8.ofNat s.toNat, by simp [yE]; omega, trivial⟩) hv h
end
section
open Go.ChangeShapes Go.WideShapes Go.ChangeAt Go.RowKit Go.Lib Go.Shelf
theorem u8types : U8Types Tryz.prog Tryz.lays197_ren := { Tryz.lays197 with }
theorem u8extra : U8Extra Tryz.prog Tryz.lays197_ren := ⟨by kernel_rfl, by kernel_rfl, by kernel_rfl, by kernel_rfl, by kernel_rfl, by kernel_rfl, by kernel_rfl⟩
theorem acceptEq : (Rows.laid_unicode_utf8_acceptRanges : DataW Unit) = acceptData := by kernel_rfl
theorem utLaid {W : World} {l : List (String × DataW Unit)} (h : laidMet Tryz.prog l W) (h1 : ("unicode/utf8.first", (Rows.laid_unicode_utf8_first : DataW Unit)) ∈ l) (h2 : ("unicode/utf8.acceptRanges", (Rows.laid_unicode_utf8_acceptRanges : DataW Unit)) ∈ l) : UT W := by
 have t := utf8Tabs_of_readsT u8types u8extra (w := W) (Pinned.utf8First_eq ▸ Lib.laidMet.reads h h1) (acceptEq ▸ Lib.laidMet.reads h h2)
 have lt : ∀ (g o : Nat) (v : Value), W.cell? ⟨g, o, none⟩ = some v → g < W.heap.size := fun g o v hv => by
  rcases Nat.lt_or_ge g W.heap.size with h | h
  ·exact h
  ·simp [World.cell?, Array.getElem?_eq_none h] at hv
 exact ⟨t, lt _ 0 _ (t.1 0 (by decide)), lt _ 0 _ (t.2 0 (by decide)).1⟩
end
section
open Go.ChangeShapes Go.WideShapes Go.ChangeAt Go.RowKit
theorem Zo9 (os : Os) (started : os.Started) (H : Type) (enc : TypeId × Value → H) :
 ReturnsInHanded {} Tryz.checked os 5 .any (fun w args => (Rows.fnFeedSpec.pre enc Tryz.prog Tryz.f5 [] false w args ∧ laidMetH Tryz.prog Rows.fnFeedRow.laid w) ∧ sizedMet enc Tryz.prog Tryz.f5 (OpenSpec.ofChange Rows.fnFeedSpec) false w args)
  (Rows.fnFeedSpec.post enc Tryz.prog Tryz.f5 false true false false) := by
 refine returnsInHanded_of_change_and (C := Tryz.checked) (X := fun w _ => laidMetH Tryz.prog Rows.fnFeedRow.laid w) (fun _ _ _ hh h => h.of_heap hh) Tryz.own started (by kernel_rfl) Tryz.func5
  (ChangeSpec.witness_shaped (enc := enc) (C := Tryz.checked) (os := os) (X := fun w _ => laidMetH Tryz.prog Rows.fnFeedRow.laid w) false (World.laidAll Tryz.prog os Rows.fnFeedRow.laid) #[.slice none 0 0, .slice none 0 0] 8 (World.laidAll_os _ _ _)
    (World.shaped_of_ZipB (by kernel_rfl) (by kernel_rfl)) (by kernel_rfl) (by kernel_rfl) (by kernel_rfl)
    (by rw [MakeChecks.laidMetH_plain _ _ _ (by kernel_rfl)]; exact laidMet_laidAll _ (by kernel_rfl) (by kernel_rfl))) ?_
 intro W base args ds gs before hval0 hW hc _ hL0 _
 have hval : ∀ (j : Nat) t v, Tryz.f5.params[j]? = some t → args[j]? = some v → Value.okWide Tryz.prog W .any base t v := hval0
 have hW' := hW
 obtain ⟨p, q, hA0, hV, rfl, _, _⟩ := hW
 have hA : DataW.TrodAll enc Tryz.prog W 0 (fun _ => true) true Tryz.f5.params.toList args.toList ds p := hA0
 rw [Tryz.params5] at hA hval
 rw [MakeChecks.laidMetH_plain _ _ _ (by kernel_rfl)] at hL0
 have hL : laidMet Tryz.prog Rows.fnFeedRow.laid W := hL0
 obtain ⟨v0, v1, d0, d1, p0, p1, rfl, rfl, rfl, h0, h1⟩ := trodAll_two hA
 obtain ⟨rfl, rfl⟩ := trodVars_none hV
 obtain ⟨a, ca, xs, rfl, la, _, ha⟩ := Zl0 (hval 0 22 v0 rfl rfl) h0
 obtain ⟨b, cb, ys, rfl, lb, _, hb⟩ := Zl0 (hval 1 22 v1 rfl rfl) h1
 have hut : UT W := utLaid hL (.tail _ (.head _)) (.head _)
 exact Yf7 rfl rfl (by kernel_rfl) hW' rfl (Yf1 a b ca cb xs ys W ha hb la lb hut)
theorem Zw6 : Rows.FnFeedSaid :=
 OpenClaim.holds_of_wide 5 Tryz.f5 rfl rfl rfl rfl rfl rfl rfl ⟨rfl, rfl, rfl, rfl, rfl⟩ rfl rfl rfl rfl rfl (by kernel_rfl) Tryz.func5 (by kernel_rfl)
  (of_decide_eq_true (by kernel_rfl)) (by unfold Func.isWrapper; first | (rw [if_pos (by decide +kernel)]; kernel_rfl) | (rw [if_neg (by decide +kernel)]; exact ⟨rfl, rfl⟩))
  (fun os started H enc _ => Zo9 os started H enc)
theorem fnFeed_holds : Rows.FnFeedCardSaid :=
 Claim7.holds_tied_plain_at .later [] [.data, .pinned] true (true, "ffbd75a9134906c58089c102deb558f93b5b8d6148756965b8f25dfd65a36cee") false Zw6 (fun _ h => by cases h) (by kernel_rfl) (fun _ h => by cases h) fnFeed_row_tie rfl ⟨rfl, rfl⟩ (by kernel_rfl) rfl
  (fun f fn hf hfn => by
    obtain rfl : f = 5 := Option.some.inj ((show Tryz.prog.funcNamed "loop.example/g00308/laws.FnFeed" = some 5 by kernel_rfl).symm.trans hf) |>.symm
    obtain rfl : fn = Tryz.f5 := (Option.some.inj (Tryz.func5.symm.trans hfn)).symm
    exact ⟨by kernel_rfl, fun j t ht => by
     rw [Tryz.params5] at ht
     have hm : t ∈ [22, 22] := by simpa using Array.mem_of_getElem? ht
     have hall : ([22, 22].all fun u => !Tryz.prog.wantsStandIn u) = true := by kernel_rfl
     exact (show Tryz.prog.wantsStandIn t = false by simpa using List.all_eq_true.1 hall t hm)⟩)
  (by kernel_rfl)
end
end Go.Proofs.YtjmpgeffkdjpdaaGreatDoor
