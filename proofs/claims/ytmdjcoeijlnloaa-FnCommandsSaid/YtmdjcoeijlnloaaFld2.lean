/- Fields and numbers as bytes: spec.l02Numbers, spec.l02Fields. No conditions but sizes. -/
import Derived.Test.YtmdjcoeijlnloaaFld
import Derived.Test.YtmdjcoeijlnloaaOwn2
namespace Go.Proofs.Ytmdjcoeijlnloaa
set_option linter.unusedVariables false
set_option linter.unusedSimpArgs false
open Go.RowKit
theorem intOne : ∀ (x : Int), ∀ u ∈ intE x, u.oneCell' = true := fun x u hu => by simp [intE] at hu; subst hu; rfl
set_option maxRecDepth 100000 in
set_option maxHeartbeats 2000000 in
theorem l02Numbers_c (a : Option Addr) (ca : Nat) (ns : List Int) (w : World) (ha : Sl intE 1 w a ns) (la : ns.length ≤ 1048576) (hn : ∀ n ∈ ns, -1 ≤ n ∧ n ≤ 1099511627775) :
    Calls Try.prog 120 #[.slice a ns.length ca] w (FreshR byteE 5 1 w (numL ns)) := by
  obtain ⟨i0, hi, hz0, hz1, hz2⟩ := info_parts Try.infoByte
  have HN := Lib.hid hn
  clear hn
  go_enter Try.func120, Try.ntmps120
  go_wp2_with fail
  go_loopw [3, 4] (fun v i wr => ∃ (k : Nat) (av : Option Addr) (cv : Nat) (L : List UInt8), k ≤ ns.length ∧ i = .int .i64 k ∧ v = .slice av L.length cv ∧ Hid (L = numL (ns.take k)) ∧ L.length ≤ 3145728 ∧ Fresh byteE 5 1 w.heap.size (.slice av L.length cv) L wr ∧ Below w.heap.size w wr) (fun _ i _ => ns.length - (intOf i).toNat)
  case atStart => exact ⟨0, _, _, [], Nat.zero_le _, rfl, rfl, rfl, by simp, Fresh.of_own (World.ownsRow_made _ #[] 0 (Nat.le_refl _) (by decide) rfl) rfl rfl, (by repeat (first | exact Below.refl _ _ | (refine Below.alloc ?_ (by (try simp) <;> (try omega)) _) | (refine Below.setCell ?_ (by (try simp) <;> (try omega)) _) | (refine Below.drew ?_) | (refine Below.trans ?_ (Below.mono (by assumption) (by (try simp) <;> (try omega))))))⟩
  case round =>
    obtain ⟨k, av, cv, L, hk, rfl, rfl, hL, hl, hf, hbel⟩ := hrel
    have hz := hbel.size
    have HF := Lib.hid hf.here
    have HBW := Lib.hid hbel
    clear hf
    by_cases hlt : k < ns.length
    · have HSN := Lib.hid (numL_snoc ns k hlt)
      obtain ⟨b1, o1, rfl, hb1, hc1⟩ := (ha.keep hbel).at hlt
      have c1 := hc1 k hlt 0 (by omega)
      simp only [intE, Nat.mul_one, Nat.add_zero, List.getElem?_cons_zero] at c1
      have hin := HN.out ns[k] (List.getElem_mem _)
      obtain ⟨n, hn⟩ : ∃ n : Nat, ns[k] = (n : Int) - 1 := ⟨(ns[k] + 1).toNat, by omega⟩
      have hn40 : n ≤ 1099511627776 := by omega
      have hnn : (ns[k] + 1).toNat = n := by omega
      rw [hnn] at HSN
      rw [hn] at c1
      have E1 : Hid ((n : Int) - 1 + 1 = (n : Int)) := by show _ = _; omega
      clear hc1 hbel hin hn hnn
      go_wp2_with fail
      try rw [E1.out]
      refine (l02Number_c n 3 _ (by omega) (by omega)).mono ?_
      rintro e w2 ⟨v2, rfl, hf2, hb2⟩
      obtain ⟨a2, c2, rfl, hc2, ho2⟩ := id hf2
      have hs2 : Sl byteE 1 w2 a2 (be n 3) := Sl.of_own (fun _ => rfl) ho2
      have hy2 := hb2.size
      have HB2 := Lib.hid hb2
      have HF2 := Lib.hid (HF.out.below hb2)
      have hlb : (be n 3).length ≤ 3 := by rw [be_length]; omega
      clear hb2 hf2 ho2
      generalize hE : be n 3 = E at *
      have HE := Lib.hid hE
      clear hE
      go_wp2_with (first
        | (skip
           at_builtin
           refine wpList_append_fresh rfl (.tmp 12) (.tmp 18) 41 41 rfl (w.heap.size) (wr.heap.size) 5 i0 (.int .u8 0) 1 1 Try.underlying41 hi hz0 hz1 hz2 rfl (by decide) (.slice av L.length cv) (L) rfl (HF2.out) _ (E) rfl (Src.ofSl (enc := byteE) Try.underlying41 (fun _ => rfl) byteOne hs2 _) (by (try simp) <;> (try omega)) (by (try simp) <;> (try omega)) ?_
           intro a3 c3 w3 L3 hL3 hf3 hm3
           skip))
      go_roundw
      case rel =>
        have hl3 := numL_length (ns.take (k + 1))
        have e3 : L3 = numL (ns.take (k + 1)) := by rw [hL3.out, hL.out, HSN.out]
        refine ⟨k + 1, a3, c3, L3, by omega, by go_num, rfl, e3, by rw [e3, hl3, List.length_take]; omega, hf3.1, (HBW.out.trans (HB2.out.mono hz)).trans (hm3.below (Nat.le_refl _) (by omega))⟩
      case measure => simp [intOf]; omega
    · obtain rfl : k = ns.length := by omega
      have e1 : L = numL ns := by rw [hL.out, List.take_length]
      have E1 := Lib.hid e1
      clear hbel e1
      go_wp2_with fail
      go_ret
      rw [← E1.out]
      exact ⟨_, rfl, HF.out.1, HBW.out⟩
set_option maxRecDepth 100000 in
set_option maxHeartbeats 4000000 in
theorem l02Fields_c (a : Option Addr) (ca : Nat) (fs : List ByteArray) (w : World) (ha : Sl strE 1 w a fs) (la : fs.length ≤ 4096) (hs : ∀ s ∈ fs, s.size ≤ 1048576) :
    Calls Try.prog 119 #[.slice a fs.length ca] w (FreshR byteE 5 1 w (fldL fs)) := by
  obtain ⟨i0, hi, hz0, hz1, hz2⟩ := info_parts Try.infoByte
  have HS := Lib.hid hs
  clear hs
  go_enter Try.func119, Try.ntmps119
  go_wp2_with fail
  go_loopw [3, 4] (fun v i wr => ∃ (k : Nat) (av : Option Addr) (cv : Nat) (L : List UInt8), k ≤ fs.length ∧ i = .int .i64 k ∧ v = .slice av L.length cv ∧ Hid (L = UInt8.ofNat fs.length :: fldB (fs.take k)) ∧ L.length ≤ 5000000000 ∧ Fresh byteE 5 1 w.heap.size (.slice av L.length cv) L wr ∧ Below w.heap.size w wr) (fun _ i _ => fs.length - (intOf i).toNat)
  case atStart =>
    refine ⟨0, some ⟨w.heap.size, 0, none⟩, 1, [UInt8.ofNat fs.length], Nat.zero_le _, rfl, rfl, rfl, by simp, ⟨_, _, rfl, by simp, ?_⟩, (by repeat (first | exact Below.refl _ _ | (refine Below.alloc ?_ (by (try simp) <;> (try omega)) _) | (refine Below.setCell ?_ (by (try simp) <;> (try omega)) _) | (refine Below.drew ?_) | (refine Below.trans ?_ (Below.mono (by assumption) (by (try simp) <;> (try omega))))))⟩
    refine ⟨by simp [byteE], .inr ⟨w.heap.size, 1, _, rfl, Nat.le_refl _, heap_alloc_new w _, Nat.le_refl _, by unfold maxLen; omega, rfl, ?_⟩⟩
    have hu8 : (fs.length : Int) % 256 = ((UInt8.ofNat fs.length).toNat : Int) := by rw [UInt8.toNat_ofNat']; omega
    simp [byteE, ← hu8]
  case round =>
    obtain ⟨k, av, cv, L, hk, rfl, rfl, hL, hl, hf, hbel⟩ := hrel
    have hz := hbel.size
    have HF := Lib.hid hf.here
    have HBW := Lib.hid hbel
    clear hf
    by_cases hlt : k < fs.length
    · have HSN := Lib.hid (fldB_snoc fs k hlt)
      obtain ⟨b1, o1, rfl, hb0, _⟩ := ha.at hlt
      obtain ⟨b1', o1', he, hb1, hc1⟩ := (ha.keep hbel).at hlt
      cases he
      have c1 := hc1 k hlt 0 (by omega)
      simp only [strE, Nat.mul_one, Nat.add_zero, List.getElem?_cons_zero] at c1
      have hsz := HS.out fs[k] (List.getElem_mem _)
      have hi0 : (0 : Int) ≤ (k : Int) := by omega
      have hi1 : (k : Int) < (fs.length : Int) := by omega
      generalize fs[k] = G at *
      have hdl := sizeData G
      have HDL := Lib.hid hdl
      have hdl' : G.data.toList.length ≤ 1048576 := by omega
      clear hc1 hbel hdl
      go_wp2_with fail
      go_region_held3 (fun w' => w'.cell? ⟨b1, o1 + k, none⟩ = some (.string G))
        (first | go_keep | assumption)
        (first
          | (go_at_call 162
             refine (l02Number_c G.size 2 _ (by omega) (by omega)).mono ?_
             rintro e w2 ⟨v2, rfl, hf2, hb2⟩
             obtain ⟨a2, c2, rfl, hc2, ho2⟩ := id hf2
             have hs2 : Sl byteE 1 w2 a2 (be G.size 2) := Sl.of_own (fun _ => rfl) ho2
             have hy2 := hb2.size
             simp at hy2
             have HB2 := Lib.hid hb2
             have HF2 := Lib.hid (HF.out.drew.below hb2)
             have hlb : (be G.size 2).length ≤ 2 := by rw [be_length]; omega
             have g2 : w2.cell? ⟨b1, o1 + k, none⟩ = some (.string G) := by
               rw [hb2.cell (p := ⟨b1, o1 + k, none⟩) (by show b1 < _; simp; omega)]
               simpa using c1
             clear hb2 hf2 ho2)
          | (have tok1 := HF2
             clear HF2
             refine step_append_fresh (by rfl) (.tmp 15) (.tmp 21) 41 41 (by rfl) w.heap.size wr.heap.size 5 i0 (.int .u8 0) 1 1 Try.underlying41 hi hz0 hz1 hz2 rfl (by decide) (.slice av L.length cv) L (by rfl) tok1.out _ (be G.size 2) (by rfl) (Src.ofSl (enc := byteE) Try.underlying41 (fun _ => rfl) byteOne hs2 _) (by omega) (by omega) ?_
             intro a3 c3 w3 L3 hL3 hf3 hm3
             have hy3 := hm3.size
             have hl3 : L3.length ≤ 5000000002 := by rw [hL3.out, List.length_append]; omega
             have g3 : w3.cell? ⟨b1, o1 + k, none⟩ = some (.string G) := by
               rw [hm3.cell (p := ⟨b1, o1 + k, none⟩) (by show b1 < _; omega) (.inl (by show b1 < _; omega))]
               exact g2)
          | (have tok2 := hf3
             refine step_append_fresh (by rfl) (.tmp 22) (.tmp 26) 41 9 (by rfl) w.heap.size w3.heap.size 5 i0 (.int .u8 0) 1 1 Try.underlying41 hi hz0 hz1 hz2 rfl (by decide) (.slice a3 L3.length c3) L3 (by rfl) tok2 _ G.data.toList (by rfl) (Src.ofStr Try.underlying9 G) (by omega) (by omega) ?_
             intro a4 c4 w4 L4 hL4 hf4 hm4
             have g4 : w4.cell? ⟨b1, o1 + k, none⟩ = some (.string G) := by
               rw [hm4.cell (p := ⟨b1, o1 + k, none⟩) (by show b1 < _; omega) (.inl (by show b1 < _; omega))]
               exact g3))
      go_wp2_with fail
      go_roundw
      case rel =>
        have e4 : L4 = UInt8.ofNat fs.length :: fldB (fs.take (k + 1)) := by
          rw [hL4.out, hL3.out, hL.out, HSN.out]
          simp [fieldL]
        have hle := fldB_le (fs.take (k + 1)) 1048576 (fun s hs => HS.out s (List.mem_of_mem_take hs))
        refine ⟨k + 1, a4, c4, L4, by omega, by go_num, rfl, e4, ?_, hf4.1, ?_⟩
        · rw [e4]
          simp only [List.length_cons, List.length_take] at hle ⊢
          have : min (k + 1) fs.length * (2 + 1048576) ≤ 4096 * (2 + 1048576) := Nat.mul_le_mul_right _ (by omega)
          omega
        · exact (((HBW.out.drew).trans (HB2.out.mono (by simp; omega))).trans (hm3.below (Nat.le_refl _) (by omega))).trans (hm4.below (Nat.le_refl _) (by omega))
      case measure => simp [intOf]; omega
    · obtain rfl : k = fs.length := by omega
      have e1 : L = fldL fs := by rw [hL.out, List.take_length]; rfl
      have E1 := Lib.hid e1
      clear hbel e1
      go_wp2_with fail
      go_ret
      rw [← E1.out]
      exact ⟨_, rfl, HF.out.1, HBW.out⟩
end Go.Proofs.Ytmdjcoeijlnloaa
