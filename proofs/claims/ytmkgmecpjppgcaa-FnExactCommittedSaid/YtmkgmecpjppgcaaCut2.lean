/- spec.CutChunks. No conditions but sizes. -/
import Derived.Test.YtmkgmecpjppgcaaCut
namespace Go.Proofs.Ytmkgmecpjppgcaa
set_option linter.unusedVariables false
set_option linter.unusedSimpArgs false
open Go.RowKit
theorem Sl.sub {α : Type} {enc : α → List Value} {sz : Nat} {w : World} {b off : Nat} {xs : List α} (h : Sl enc sz w (some ⟨b, off, none⟩) xs) (k j : Nat) (hk : k < xs.length) : Sl enc sz w (some ⟨b, off + k * sz, none⟩) ((xs.drop k).take j) := by
  obtain ⟨b', off', he, hb, hc⟩ := h.at hk
  cases he
  refine .inr ⟨b, off + k * sz, rfl, hb, fun i hi j' hj => ?_⟩
  have hi' : i < j ∧ i < xs.length - k := by simp at hi; omega
  have := hc (k + i) (by omega) j' hj
  rw [show off + k * sz + i * sz + j' = off + (k + i) * sz + j' by rw [Nat.add_mul]; omega, this]
  simp
theorem conv_at {b off ca n : Nat} {xs : List UInt8} {w : World} (h : Sl byteE 1 w (some ⟨b, off, none⟩) xs) (hn : n = xs.length) : (convert 55 9 (.slice (some ⟨b, off, none⟩) n ca)).run Try.prog w = .ok (.string (strOf xs)) w := by
  subst hn
  exact conv_sl h
set_option maxRecDepth 100000 in
set_option maxHeartbeats 4000000 in
theorem specCut_c (a : Option Addr) (ca : Nat) (xs : List UInt8) (z : Int) (w : World) (ha : Sl byteE 1 w a xs) (hca : xs.length ≤ ca) (la : xs.length ≤ 1048576) :
    Calls Try.prog 36 #[.slice a xs.length ca, .int .i64 z] w (TupR (cutL xs z) (cutC xs z) w) := by
  obtain ⟨i0, hi, hz0, hz1, hz2⟩ := info_parts Try.infoString
  unfold cutL cutC
  cases hlong : longP xs.length
  · simp only [Bool.false_eq_true, if_false]
    have h65 : xs.length ≤ 65536 := by simp [longP] at hlong; omega
    cases hin : inB z 16 4096
    · have HI := Lib.hid hin
      simp only [Bool.false_eq_true, if_false]
      clear hlong hin
      go_enter Try.func36, Try.ntmps36
      go_wp2_with (go_at_call 58; refine (l01In_c _ _ _ _).mono ?_; rw [HI.out]; rintro e w' ⟨rfl, rfl⟩)
      go_ret2
      exact ⟨_, _, rfl, Fresh.of_own (World.ownsRow_made _ #[] 0 (Nat.le_refl _) (by decide) rfl) rfl rfl, (by repeat (first | exact Below.refl _ _ | (refine Below.alloc ?_ (by (try simp) <;> (try omega)) _) | (refine Below.setCell ?_ (by (try simp) <;> (try omega)) _) | (refine Below.drew ?_) | (refine Below.trans ?_ (Below.mono (by assumption) (by (try simp) <;> (try omega))))))⟩
    · have hb : 16 ≤ z ∧ z ≤ 4096 := by simpa [inB] using hin
      obtain ⟨n, rfl⟩ : ∃ n : Nat, z = n := ⟨z.toNat, by omega⟩
      have h1 : 16 ≤ n := by omega
      have h2 : n ≤ 4096 := by omega
      have HI := Lib.hid hin
      simp only [if_true, Int.toNat_natCast]
      clear hlong hin hb
      go_enter Try.func36, Try.ntmps36
      go_wp2_with (go_at_call 58; refine (l01In_c _ _ _ _).mono ?_; rw [HI.out]; rintro e w' ⟨rfl, rfl⟩)
      go_loopw [6, 7] (fun v i wr => ∃ (f k : Nat) (L : List ByteArray) (av : Option Addr) (cv : Nat), xs.length - k ≤ f ∧ k ≤ 70000 ∧ L.length ≤ k ∧ i = .int .i64 k ∧ v = .slice av L.length cv ∧ Hid (L ++ chF f (xs.drop k) n = chF xs.length xs n) ∧ Fresh strE 9 1 w.heap.size (.slice av L.length cv) L wr ∧ Below w.heap.size w wr) (fun _ i _ => xs.length - (intOf i).toNat)
      case atStart => exact ⟨xs.length, 0, [], _, _, by omega, by omega, by simp, rfl, rfl, rfl, Fresh.of_own (World.ownsRow_made _ #[] 0 (Nat.le_refl _) (by decide) rfl) rfl rfl, (by repeat (first | exact Below.refl _ _ | (refine Below.alloc ?_ (by (try simp) <;> (try omega)) _) | (refine Below.setCell ?_ (by (try simp) <;> (try omega)) _) | (refine Below.drew ?_) | (refine Below.trans ?_ (Below.mono (by assumption) (by (try simp) <;> (try omega))))))⟩
      case round =>
        obtain ⟨f, k, L, av, cv, hlf, hk7, hLl, rfl, rfl, hT, hf, hbel⟩ := hrel
        have HF := Lib.hid hf.here
        have hz := hbel.size
        clear hf
        by_cases hlt : k < xs.length
        · have hne : xs.drop k ≠ [] := fun h => by have := congrArg List.length h; simp at this; omega
          obtain ⟨b1, o1, rfl, hb1, hc1⟩ := (ha.keep hbel).at hlt
          clear hc1
          have hsub := (ha.keep hbel).sub k n hlt
          rw [Nat.mul_one] at hsub
          have HN := Lib.hid hne
          have HSUB := Lib.hid hsub
          clear hne hsub
          have hfs : (strOf ((xs.drop k).take n)).size ≤ 1048576 := by rw [strOf_size]; simp; omega
          have hkn : k + n < xs.length ∨ xs.length ≤ k + n := by omega
          rcases hkn with hkn | hkn
          · have hcv := fun c => conv_at (n := n) (ca := c) HSUB.out (by simp; omega)
            go_wp2_with fail
            refine (l02Frame_c (strOf ((xs.drop k).take n)) _ hfs).mono ?_
            rintro e w1 ⟨v1, rfl, hf1, hb1'⟩
            obtain ⟨a1, c1, rfl, hc1, ho1⟩ := id hf1
            have HB1 := Lib.hid hb1'
            have hy1 := hb1'.size
            have HF1 := Lib.hid (HF.out.below hb1')
            have hcv2 := fun c => conv_sl (ca := c) (hf1.here.sl fun _ => rfl)
            rw [show strOf (frmL (strOf ((xs.drop k).take n))) = frmB (strOf ((xs.drop k).take n)) from rfl] at hcv2
            generalize frmL (strOf ((xs.drop k).take n)) = G' at *
            generalize hG : frmB (strOf ((xs.drop k).take n)) = G at *
            have HG := Lib.hid hG
            clear hG hb1' hf1 ho1 hcv
            go_wp2_with (first
              | (skip
                 at_builtin
                 go_must (refine wpList_append_fresh rfl (.tmp 24) (.tmp 37) 34 34 rfl (w.heap.size) (wr.heap.size) 9 i0 (.string ⟨#[]⟩) 1 16 Try.underlying34 hi hz0 hz1 hz2 rfl (by decide) (.slice av L.length cv) (L) rfl (HF1.out.alloc _) _ ([G]) rfl (Src.ofBox (enc := strE) (w := w1) Try.underlying34 (fun _ => rfl) strOne G #[.string G] 9 rfl w1.heap.size rfl) (by (try simp) <;> (try omega)) (by (try simp) <;> (try omega)) ?_)
                 intro a2 c2 w2 L2 hL2 hf2 hm2
                 skip))
            go_roundw
            case rel =>
              obtain ⟨g, h3, h4⟩ := chF_cons (z := n) HN.out (show (xs.drop k).length ≤ f by simp; omega)
              rw [List.drop_drop] at h3
              refine ⟨g, k + n, L2, a2, c2, by omega, by omega, by rw [hL2.out]; simp; omega, by go_num, rfl, ?_, hf2.1, ?_⟩
              · show _ = _
                rw [hL2.out, ← hT.out, h3, ← HG.out, List.append_assoc]
                rfl
              · exact (((hbel.trans (HB1.out.mono hz)).alloc (by omega) (.cells #[.string G] 9)).trans (hm2.below (Nat.le_refl _) (by simp; omega)))
            case measure => simp [intOf]; omega
          · have hcv := fun c => conv_at (n := xs.length - k) (ca := c) HSUB.out (by simp; omega)
            go_wp2_with fail
            refine (l02Frame_c (strOf ((xs.drop k).take n)) _ hfs).mono ?_
            rintro e w1 ⟨v1, rfl, hf1, hb1'⟩
            obtain ⟨a1, c1, rfl, hc1, ho1⟩ := id hf1
            have HB1 := Lib.hid hb1'
            have hy1 := hb1'.size
            have HF1 := Lib.hid (HF.out.below hb1')
            have hcv2 := fun c => conv_sl (ca := c) (hf1.here.sl fun _ => rfl)
            rw [show strOf (frmL (strOf ((xs.drop k).take n))) = frmB (strOf ((xs.drop k).take n)) from rfl] at hcv2
            generalize frmL (strOf ((xs.drop k).take n)) = G' at *
            generalize hG : frmB (strOf ((xs.drop k).take n)) = G at *
            have HG := Lib.hid hG
            clear hG hb1' hf1 ho1 hcv
            go_wp2_with (first
              | (skip
                 at_builtin
                 go_must (refine wpList_append_fresh rfl (.tmp 24) (.tmp 37) 34 34 rfl (w.heap.size) (wr.heap.size) 9 i0 (.string ⟨#[]⟩) 1 16 Try.underlying34 hi hz0 hz1 hz2 rfl (by decide) (.slice av L.length cv) (L) rfl (HF1.out.alloc _) _ ([G]) rfl (Src.ofBox (enc := strE) (w := w1) Try.underlying34 (fun _ => rfl) strOne G #[.string G] 9 rfl w1.heap.size rfl) (by (try simp) <;> (try omega)) (by (try simp) <;> (try omega)) ?_)
                 intro a2 c2 w2 L2 hL2 hf2 hm2
                 skip))
            go_roundw
            case rel =>
              obtain ⟨g, h3, h4⟩ := chF_cons (z := n) HN.out (show (xs.drop k).length ≤ f by simp; omega)
              rw [List.drop_drop] at h3
              refine ⟨g, k + n, L2, a2, c2, by omega, by omega, by rw [hL2.out]; simp; omega, by go_num, rfl, ?_, hf2.1, ?_⟩
              · show _ = _
                rw [hL2.out, ← hT.out, h3, ← HG.out, List.append_assoc]
                rfl
              · exact (((hbel.trans (HB1.out.mono hz)).alloc (by omega) (.cells #[.string G] 9)).trans (hm2.below (Nat.le_refl _) (by simp; omega)))
            case measure => simp [intOf]; omega
        · have hnil : xs.drop k = [] := List.drop_eq_nil_of_le (by omega)
          have hT' : L = chF xs.length xs n := by
            have := hT.out
            rwa [hnil, chF_nil, List.append_nil] at this
          have HT := Lib.hid hT'
          clear hnil hT'
          go_wp2_with fail
          go_ret2
          rw [← HT.out]
          exact ⟨_, _, rfl, HF.out.1, hbel⟩
  · have h65 : 65536 < xs.length := by simp [longP] at hlong; omega
    simp only [if_true]
    clear hlong
    go_enter Try.func36, Try.ntmps36
    go_wp2_with fail
    go_ret2
    exact ⟨_, _, rfl, Fresh.of_own (World.ownsRow_made _ #[] 0 (Nat.le_refl _) (by decide) rfl) rfl rfl, (by repeat (first | exact Below.refl _ _ | (refine Below.alloc ?_ (by (try simp) <;> (try omega)) _) | (refine Below.setCell ?_ (by (try simp) <;> (try omega)) _) | (refine Below.drew ?_) | (refine Below.trans ?_ (Below.mono (by assumption) (by (try simp) <;> (try omega))))))⟩
end Go.Proofs.Ytmkgmecpjppgcaa
