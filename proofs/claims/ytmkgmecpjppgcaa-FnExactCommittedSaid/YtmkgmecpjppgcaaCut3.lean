/- The law FnExactCutChunks: its walk. -/
import Derived.Test.YtmkgmecpjppgcaaCut2
import Derived.Test.YtmkgmecpjppgcaaMark3
namespace Go.Proofs.Ytmkgmecpjppgcaa
set_option linter.unusedVariables false
set_option linter.unusedSimpArgs false
open Go.RowKit
theorem chF_length (f : Nat) : ∀ (l : List UInt8) (z : Nat), (chF f l z).length ≤ f := by
  induction f with
  | zero => intro l z; simp [chF]
  | succ f ih =>
    intro l z
    unfold chF
    split
    · simp
    · have := ih (l.drop z) z
      simp
      omega
theorem cutL_length (xs : List UInt8) (z : Int) (h : xs.length ≤ 1048576) : (cutL xs z).length ≤ 1048576 := by
  unfold cutL
  split
  · simp
  · split
    · exact Nat.le_trans (chF_length _ _ _) h
    · simp
theorem FreshIn.slm {lo hi n K ca : Nat} {a : Option Addr} {e : TypeId} {w : World} (h : FreshIn strE e 1 lo hi (.slice a n ca) (marks K n) w) : Sl strE 1 w a (marks K n) := by
  have h' : FreshIn strE e 1 lo hi (.slice a (marks K n).length ca) (marks K n) w := by rw [marks_length]; exact h
  exact h'.sl fun _ => rfl
set_option maxRecDepth 100000 in
set_option maxHeartbeats 8000000 in
theorem lawCut_c (a : Option Addr) (ca : Nat) (xs : List UInt8) (z : Int) (w : World) (ha : Sl byteE 1 w a xs) (la : xs.length ≤ 9223372036854775807) :
    Calls Try.prog 9 #[.slice a xs.length ca, .int .i64 z] w fun e w' => e = .returned (.bool true) ∧ Below w.heap.size w w' := by
  by_cases h20 : 1048576 < xs.length
  · go_enter Try.func9, Try.ntmps9
    go_wp2_with fail
    go_ret
    exact ⟨rfl, Below.refl _ _⟩
  have l20 : xs.length ≤ 1048576 := by omega
  have hcl := cutL_length xs z l20
  generalize hgL : cutL xs z = R at *
  generalize hgC : cutC xs z = C at *
  have HL := Lib.hid hgL
  have HC := Lib.hid hgC
  clear h20 hgL hgC la
  have hrw : Hid (cutL xs z = R ∧ cutC xs z = C) := ⟨HL.out, HC.out⟩
  go_enter Try.func9, Try.ntmps9
  go_wp2_with fail
  refine (toByteS_c a ca xs _ ha l20).mono ?_
  rintro e w1 ⟨v1, rfl, hf1, hb1⟩
  obtain ⟨a1, c1, rfl, hc1, ho1⟩ := id hf1
  have HX11 := Lib.hid hf1.here
  clear hf1 ho1
  have hz1 := hb1.size
  have HB1 := Lib.hid hb1
  clear hb1
  go_wp2_with fail
  refine (specCut_c a1 c1 xs z _ (HX11.out.sl fun _ => rfl) hc1 l20).mono ?_
  rw [hrw.out.1, hrw.out.2]
  rintro e w2 ⟨a2, c2, rfl, hf2, hb2⟩
  have HG22 := Lib.hid hf2.here
  clear hf2
  have hz2 := hb2.size
  have HX12 := Lib.hid (HX11.out.below hb2)
  clear HX11
  have HB2 : Hid (Below w.heap.size w w2) := HB1.out.trans (hb2.mono (by (try simp) <;> (try omega)))
  clear hb2
  clear HX12
  go_wp2_with fail
  refine (toByteS_c a ca xs _ (ha.keep HB2.out) l20).mono ?_
  rintro e w3 ⟨v3, rfl, hf3, hb3⟩
  obtain ⟨a3, c3, rfl, hc3, ho3⟩ := id hf3
  have HX33 := Lib.hid hf3.here
  clear hf3 ho3
  have hz3 := hb3.size
  have HG23 := Lib.hid (HG22.out.below hb3)
  clear HG22
  have HB3 : Hid (Below w.heap.size w w3) := HB2.out.trans (hb3.mono (by (try simp) <;> (try omega)))
  clear hb3
  go_wp2_with fail
  refine (implCut_c a3 c3 xs z _ (HX33.out.sl fun _ => rfl) l20).mono ?_
  rw [hrw.out.1, hrw.out.2]
  rintro e w4 ⟨a4, c4, rfl, hf4, hb4⟩
  have HG44 := Lib.hid hf4.here
  clear hf4
  have hz4 := hb4.size
  have HG24 := Lib.hid (HG23.out.below hb4)
  clear HG23
  have HX34 := Lib.hid (HX33.out.below hb4)
  clear HX33
  have HB4 : Hid (Below w.heap.size w w4) := HB3.out.trans (hb4.mono (by (try simp) <;> (try omega)))
  clear hb4
  go_wp2_with fail
  refine (eqStringS_c a4 a2 c4 c2 R R _ (HG44.out.sl fun _ => rfl) (HG24.out.sl fun _ => rfl) hcl hcl).mono ?_
  rintro e w5 ⟨rfl, hb5⟩
  simp only [decide_true]
  have hz5 := hb5.size
  have HG25 := Lib.hid (HG24.out.below hb5)
  clear HG24
  have HX35 := Lib.hid (HX34.out.below hb5)
  clear HX34
  have HG45 := Lib.hid (HG44.out.below hb5)
  clear HG44
  have HB5 : Hid (Below w.heap.size w w5) := HB4.out.trans (hb5.mono (by (try simp) <;> (try omega)))
  clear hb5
  go_wp2_with fail
  refine (toByteS_c a ca xs _ (ha.keep HB5.out) l20).mono ?_
  rintro e w6 ⟨v6, rfl, hf6, hb6⟩
  obtain ⟨a6, c6, rfl, hc6, ho6⟩ := id hf6
  have HX66 := Lib.hid hf6.here
  clear hf6 ho6
  have hz6 := hb6.size
  have HG26 := Lib.hid (HG25.out.below hb6)
  clear HG25
  have HX36 := Lib.hid (HX35.out.below hb6)
  clear HX35
  have HG46 := Lib.hid (HG45.out.below hb6)
  clear HG45
  have HB6 : Hid (Below w.heap.size w w6) := HB5.out.trans (hb6.mono (by (try simp) <;> (try omega)))
  clear hb6
  go_wp2_with fail
  refine (eqByteS_c a3 a6 c3 c6 xs xs _ (HX36.out.sl fun _ => rfl) (HX66.out.sl fun _ => rfl) l20 l20).mono ?_
  rintro e w7 ⟨rfl, hb7⟩
  simp only [decide_true]
  have hz7 := hb7.size
  have HG27 := Lib.hid (HG26.out.below hb7)
  clear HG26
  have HX37 := Lib.hid (HX36.out.below hb7)
  clear HX36
  have HG47 := Lib.hid (HG46.out.below hb7)
  clear HG46
  have HX67 := Lib.hid (HX66.out.below hb7)
  clear HX66
  have HB7 : Hid (Below w.heap.size w w7) := HB6.out.trans (hb7.mono (by (try simp) <;> (try omega)))
  clear hb7
  clear HX67
  go_wp2_with fail
  refine (markByteS_c a3 c3 xs 1 w2.heap.size w3.heap.size _ HX37.out (by omega) (by omega)).mono ?_
  rintro e w8 ⟨rfl, _, hb8⟩
  have hz8 := hb8.size
  have HG28 := Lib.hid (HG27.out.mid hb8 (by omega))
  clear HG27
  have HG48 := Lib.hid (HG47.out.mid hb8 (by omega))
  clear HG47
  have HB8 : Hid (Below w.heap.size w w8) := HB7.out.trans (hb8.below (by omega) (by (try simp) <;> (try omega)))
  clear hb8
  clear HX37
  go_wp2_with fail
  refine (eqStringS_c a4 a2 c4 c2 R R _ (HG48.out.sl fun _ => rfl) (HG28.out.sl fun _ => rfl) hcl hcl).mono ?_
  rintro e w9 ⟨rfl, hb9⟩
  simp only [decide_true]
  have hz9 := hb9.size
  have HG29 := Lib.hid (HG28.out.below hb9)
  clear HG28
  have HG49 := Lib.hid (HG48.out.below hb9)
  clear HG48
  have HB9 : Hid (Below w.heap.size w w9) := HB8.out.trans (hb9.mono (by (try simp) <;> (try omega)))
  clear hb9
  go_wp2_with fail
  refine (markStringS_c a4 c4 R 1 w3.heap.size w4.heap.size _ HG49.out (by omega) (by omega)).mono ?_
  rintro e w10 ⟨rfl, hf10, hb10⟩
  have HM10 := Lib.hid hf10
  clear hf10
  have hz10 := hb10.size
  have HG210 := Lib.hid (HG29.out.mid hb10 (by omega))
  clear HG29
  have HB10 : Hid (Below w.heap.size w w10) := HB9.out.trans (hb10.below (by omega) (by (try simp) <;> (try omega)))
  clear hb10
  clear HG49
  go_wp2_with fail
  refine (heldStringS_c a4 c4 R.length 1 _ (HM10.out.slm) (by omega)).mono ?_
  rintro e w11 ⟨rfl, hb11⟩
  have hz11 := hb11.size
  have HG211 := Lib.hid (HG210.out.below hb11)
  clear HG210
  have HM11 := Lib.hid (HM10.out.below hb11)
  clear HM10
  have HB11 : Hid (Below w.heap.size w w11) := HB10.out.trans (hb11.mono (by (try simp) <;> (try omega)))
  clear hb11
  go_wp2_with fail
  refine (toByteS_c a ca xs _ (ha.keep HB11.out) l20).mono ?_
  rintro e w12 ⟨v12, rfl, hf12, hb12⟩
  obtain ⟨a12, c12, rfl, hc12, ho12⟩ := id hf12
  have HX1212 := Lib.hid hf12.here
  clear hf12 ho12
  have hz12 := hb12.size
  have HG212 := Lib.hid (HG211.out.below hb12)
  clear HG211
  have HM12 := Lib.hid (HM11.out.below hb12)
  clear HM11
  have HB12 : Hid (Below w.heap.size w w12) := HB11.out.trans (hb12.mono (by (try simp) <;> (try omega)))
  clear hb12
  go_wp2_with fail
  refine (implCut_c a12 c12 xs z _ (HX1212.out.sl fun _ => rfl) l20).mono ?_
  rw [hrw.out.1, hrw.out.2]
  rintro e w13 ⟨a13, c13, rfl, hf13, hb13⟩
  have HG1313 := Lib.hid hf13.here
  clear hf13
  have hz13 := hb13.size
  have HG213 := Lib.hid (HG212.out.below hb13)
  clear HG212
  have HM13 := Lib.hid (HM12.out.below hb13)
  clear HM12
  have HX1213 := Lib.hid (HX1212.out.below hb13)
  clear HX1212
  have HB13 : Hid (Below w.heap.size w w13) := HB12.out.trans (hb13.mono (by (try simp) <;> (try omega)))
  clear hb13
  go_wp2_with fail
  refine (eqStringS_c a13 a2 c13 c2 R R _ (HG1313.out.sl fun _ => rfl) (HG213.out.sl fun _ => rfl) hcl hcl).mono ?_
  rintro e w14 ⟨rfl, hb14⟩
  simp only [decide_true]
  have hz14 := hb14.size
  have HG214 := Lib.hid (HG213.out.below hb14)
  clear HG213
  have HM14 := Lib.hid (HM13.out.below hb14)
  clear HM13
  have HX1214 := Lib.hid (HX1213.out.below hb14)
  clear HX1213
  have HG1314 := Lib.hid (HG1313.out.below hb14)
  clear HG1313
  have HB14 : Hid (Below w.heap.size w w14) := HB13.out.trans (hb14.mono (by (try simp) <;> (try omega)))
  clear hb14
  go_wp2_with fail
  refine (heldStringS_c a4 c4 R.length 1 _ (HM14.out.slm) (by omega)).mono ?_
  rintro e w15 ⟨rfl, hb15⟩
  have hz15 := hb15.size
  have HG215 := Lib.hid (HG214.out.below hb15)
  clear HG214
  have HM15 := Lib.hid (HM14.out.below hb15)
  clear HM14
  have HX1215 := Lib.hid (HX1214.out.below hb15)
  clear HX1214
  have HG1315 := Lib.hid (HG1314.out.below hb15)
  clear HG1314
  have HB15 : Hid (Below w.heap.size w w15) := HB14.out.trans (hb15.mono (by (try simp) <;> (try omega)))
  clear hb15
  go_wp2_with fail
  go_ret
  exact ⟨rfl, HB15.out⟩
end Go.Proofs.Ytmkgmecpjppgcaa
