/- CutChunks: both cut bytes into frames alike. No conditions but sizes. -/
import Derived.Test.YtmkgmecpjppgcaaFrm
import Derived.Test.YtmkgmecpjppgcaaLong
import Derived.WalkLawsBesides
import Derived.WalkSpells
import Derived.Lib.Strings
namespace Go.Proofs.Ytmkgmecpjppgcaa
set_option linter.unusedVariables false
set_option linter.unusedSimpArgs false
open Go.RowKit
theorem conv_sl {a : Option Addr} {ca : Nat} {xs : List UInt8} {w : World} (ha : Sl byteE 1 w a xs) : (convert 55 9 (.slice a xs.length ca)).run Try.prog w = .ok (.string (strOf xs)) w := by
  rcases ha with rfl | ⟨b, off, rfl, hlt, hc⟩
  · cases a with
    | none =>
      show (convert 55 9 (.slice none 0 ca)).run Try.prog w = _
      rw [run_convert_bytes_string w 55 9 5 none 0 ca Try.underlying55 Try.underlying5 Try.underlying9]
      rfl
    | some a => exact run_convert_bytes_back w _ _ 5 a ca [] Try.underlying55 Try.underlying5 Try.underlying9 (fun j hj => by simp at hj)
  · refine run_convert_bytes_back w _ _ 5 ⟨b, off, none⟩ ca xs Try.underlying55 Try.underlying5 Try.underlying9 (fun j hj => ?_)
    have := hc j hj 0 (by omega)
    simpa [byteE, Addr.add_lit] using this
def chF : Nat → List UInt8 → Nat → List ByteArray
  | 0, _, _ => []
  | f + 1, l, z => if l = [] then [] else frmB (strOf (l.take z)) :: chF f (l.drop z) z
theorem chF_nil (f z : Nat) : chF f [] z = [] := by cases f <;> simp [chF]
theorem chF_cons {f z : Nat} {l : List UInt8} (h : l ≠ []) (hf : l.length ≤ f) : ∃ g, chF f l z = frmB (strOf (l.take z)) :: chF g (l.drop z) z ∧ f ≤ g + 1 := by
  cases f with
  | zero => exact absurd (List.eq_nil_of_length_eq_zero (by omega)) h
  | succ f => exact ⟨f, by simp [chF, h], by omega⟩
theorem extract_take (l : List UInt8) (n : Nat) : (strOf l).extract 0 n = strOf (l.take n) := by
  apply ByteArray.ext
  apply Array.toList_inj.1
  rw [Lib.extract_data]
  rfl
theorem extract_drop (l : List UInt8) (n : Nat) : (strOf l).extract n (strOf l).size = strOf (l.drop n) := by
  apply ByteArray.ext
  apply Array.toList_inj.1
  rw [Lib.extract_data, List.take_of_length_le (by rw [List.length_drop]; exact Nat.le_refl _)]
  rfl
theorem strOf_toL (l : List UInt8) : (strOf l).toList = l := Lib.toList_data _
def lenOf : Value → Nat
  | .string s => s.size
  | _ => 0
def TupR (L : List ByteArray) (code : Int) (w : World) (e : Ending) (w' : World) : Prop :=
  ∃ a c, e = .returned (.tuple #[.slice a L.length c, .int .i64 code]) ∧ Fresh strE 9 1 w.heap.size (.slice a L.length c) L w' ∧ Below w.heap.size w w'
theorem strOne : ∀ (x : ByteArray), ∀ u ∈ strE x, u.oneCell' = true := fun x u hu => by simp [strE] at hu; subst hu; rfl
def cutL (xs : List UInt8) (z : Int) : List ByteArray := if longP xs.length then [] else if inB z 16 4096 then chF xs.length xs z.toNat else []
def cutC (xs : List UInt8) (z : Int) : Int := if longP xs.length then 2 else if inB z 16 4096 then 0 else 4
set_option maxRecDepth 100000 in
set_option maxHeartbeats 4000000 in
theorem implCut_c (a : Option Addr) (ca : Nat) (xs : List UInt8) (z : Int) (w : World) (ha : Sl byteE 1 w a xs) (la : xs.length ≤ 1048576) :
    Calls Try.prog 38 #[.slice a xs.length ca, .int .i64 z] w (TupR (cutL xs z) (cutC xs z) w) := by
  obtain ⟨i0, hi, hz0, hz1, hz2⟩ := info_parts Try.infoString
  unfold cutL cutC
  cases hlong : longP xs.length
  · simp only [Bool.false_eq_true, if_false]
    cases hin : inB z 16 4096
    · have HL := Lib.hid hlong
      have HI := Lib.hid hin
      simp only [Bool.false_eq_true, if_false]
      clear hlong hin
      go_enter Try.func38, Try.ntmps38
      go_wp2_with fail
      refine Calls.mono (isLong1_c _ (xs.length) _ _ ?_ ?_) ?_
      · simp
      · simp [go_sem]
      rw [HL.out]
      rintro e w1 ⟨rfl, rfl⟩
      go_wp2_with (go_at_call 74; refine (within_c _ _ _ _).mono ?_; rw [HI.out]; rintro e w' ⟨rfl, rfl⟩)
      go_ret2
      exact ⟨none, 0, rfl, (FreshIn.nil _ _ _ _ 0 _).1, (by repeat (first | exact Below.refl _ _ | (refine Below.alloc ?_ (by (try simp) <;> (try omega)) _) | (refine Below.setCell ?_ (by (try simp) <;> (try omega)) _) | (refine Below.drew ?_) | (refine Below.trans ?_ (Below.mono (by assumption) (by (try simp) <;> (try omega))))))⟩
    · have hb : 16 ≤ z ∧ z ≤ 4096 := by simpa [inB] using hin
      obtain ⟨n, rfl⟩ : ∃ n : Nat, z = n := ⟨z.toNat, by omega⟩
      have h1 : 16 ≤ n := by omega
      have h2 : n ≤ 4096 := by omega
      have h65 : xs.length ≤ 65536 := by simp [longP] at hlong; omega
      have HL := Lib.hid hlong
      have HI := Lib.hid hin
      simp only [if_true, Int.toNat_natCast]
      clear hlong hin hb
      have hconv : ∀ o : Obj, (convert 55 9 (.slice a xs.length ca)).run Try.prog (w.alloc o) = .ok (.string (strOf xs)) (w.alloc o) := fun o => conv_sl (ha.alloc o)
      have hsz : (strOf xs).size ≤ 65536 := h65
      go_enter Try.func38, Try.ntmps38
      go_wp2_with fail
      refine Calls.mono (isLong1_c _ (xs.length) _ _ ?_ ?_) ?_
      · simp
      · simp [go_sem]
      rw [HL.out]
      rintro e w1 ⟨rfl, rfl⟩
      go_wp2_with (go_at_call 74; refine (within_c _ _ _ _).mono ?_; rw [HI.out]; rintro e w' ⟨rfl, rfl⟩)
      clear hconv
      go_loopw [6, 7, 8] (fun v s _ wr => ∃ (f : Nat) (l : List UInt8) (L : List ByteArray) (av : Option Addr) (cv : Nat), l.length ≤ f ∧ l.length ≤ 65536 ∧ L.length + l.length ≤ 65536 ∧ s = .string (strOf l) ∧ v = .slice av L.length cv ∧ Hid (L ++ chF f l n = chF xs.length xs n) ∧ Fresh strE 9 1 w.heap.size (.slice av L.length cv) L wr ∧ Below w.heap.size w wr) (fun _ s _ _ => lenOf s)
      case atStart => exact ⟨xs.length, xs, [], none, 0, Nat.le_refl _, h65, by simpa using h65, rfl, rfl, rfl, (FreshIn.nil _ _ _ _ 0 _).1, (by repeat (first | exact Below.refl _ _ | (refine Below.alloc ?_ (by (try simp) <;> (try omega)) _) | (refine Below.setCell ?_ (by (try simp) <;> (try omega)) _) | (refine Below.drew ?_) | (refine Below.trans ?_ (Below.mono (by assumption) (by (try simp) <;> (try omega))))))⟩
      case round =>
        obtain ⟨f, l, L, av, cv, hlf, hl, hLl, rfl, rfl, hT, hf, hbel⟩ := hrel
        have hsl : (strOf l).size = l.length := rfl
        have HSL := Lib.hid hsl
        have hsl1 : (strOf l).size ≤ 65536 := by omega
        have HF := Lib.hid hf.here
        have hz := hbel.size
        clear hsl hf
        by_cases hnil : l = []
        · have e1 : (!(strOf l).toList.isEmpty) = false := by rw [strOf_toL, hnil]; rfl
          have hT' : L = chF xs.length xs n := by
            have := hT.out
            rwa [hnil, chF_nil, List.append_nil] at this
          have HT := Lib.hid hT'
          clear hnil hT'
          go_wp2_with fail
          go_ret2
          rw [← HT.out]
          exact ⟨_, _, rfl, HF.out.1, hbel⟩
        have e1 : (!(strOf l).toList.isEmpty) = true := by rw [strOf_toL]; simpa using hnil
        have hl0 : 0 < l.length := by
          rcases l with _ | ⟨b, l⟩
          · exact absurd rfl hnil
          · simp
        by_cases hmn : l.length < n
        · have hmn' : (strOf l).size < n := hmn
          have hfs : (strOf (l)).size ≤ 1048576 := by rw [strOf_size]; omega
          go_wp2_with fail
          refine (frameOf_c (strOf l) _ hfs).mono ?_
          rintro e w1 ⟨rfl, hb1⟩
          have HB1 := Lib.hid hb1
          have hy1 := hb1.size
          have HF1 := Lib.hid (HF.out.below hb1)
          generalize hG : frmB (strOf (l)) = G at *
          have HG := Lib.hid hG
          clear hG hb1
          go_wp2_with (first
            | (skip
               at_builtin
               refine wpList_append_fresh rfl (.tmp 26) (.tmp 31) 34 34 rfl (w.heap.size) (wr.heap.size) 9 i0 (.string ⟨#[]⟩) 1 16 Try.underlying34 hi hz0 hz1 hz2 rfl (by decide) (.slice av L.length cv) (L) rfl (HF1.out.alloc _) _ ([G]) rfl (Src.ofBox (enc := strE) (w := w1) Try.underlying34 (fun _ => rfl) strOne G #[.string G] 9 rfl w1.heap.size rfl) (by (try simp) <;> (try omega)) (by (try simp) <;> (try omega)) ?_
               intro a2 c2 w2 L2 hL2 hf2 hm2
               skip))
          go_roundw
          case rel =>
            obtain ⟨g, h3, h4⟩ := chF_cons (z := n) hnil hlf
            refine ⟨g, l.drop n, L2, a2, c2, by simp; omega, by simp; omega, by rw [hL2.out]; simp; omega, by rw [show l.drop n = [] from List.drop_eq_nil_of_le (by omega)]; simp; rfl, rfl, ?_, hf2.1, ?_⟩
            · show _ = _
              rw [hL2.out, ← hT.out, h3, ← HG.out, List.append_assoc, List.take_of_length_le (by omega)]
              rfl
            · exact (((hbel.trans (HB1.out.mono hz)).alloc (by omega) (.cells #[.string G] 9)).trans (hm2.below (Nat.le_refl _) (by simp; omega)))
          case measure => simp [lenOf, strOf_size]; omega
        · have hmn' : n ≤ (strOf l).size := by rw [strOf_size]; omega
          have hmn2 : n ≤ l.length := by omega
          clear hmn
          have hfs : (strOf (l.take n)).size ≤ 1048576 := by rw [strOf_size]; simp; omega
          go_wp2_with fail
          refine (frameOf_c ((strOf l).extract 0 n) _ (by rw [extract_take]; exact hfs)).mono ?_
          rw [extract_take]
          rintro e w1 ⟨rfl, hb1⟩
          have HB1 := Lib.hid hb1
          have hy1 := hb1.size
          have HF1 := Lib.hid (HF.out.below hb1)
          generalize hG : frmB (strOf (l.take n)) = G at *
          have HG := Lib.hid hG
          clear hG hb1
          go_wp2_with (first
            | (skip
               at_builtin
               refine wpList_append_fresh rfl (.tmp 26) (.tmp 31) 34 34 rfl (w.heap.size) (wr.heap.size) 9 i0 (.string ⟨#[]⟩) 1 16 Try.underlying34 hi hz0 hz1 hz2 rfl (by decide) (.slice av L.length cv) (L) rfl (HF1.out.alloc _) _ ([G]) rfl (Src.ofBox (enc := strE) (w := w1) Try.underlying34 (fun _ => rfl) strOne G #[.string G] 9 rfl w1.heap.size rfl) (by (try simp) <;> (try omega)) (by (try simp) <;> (try omega)) ?_
               intro a2 c2 w2 L2 hL2 hf2 hm2
               skip))
          go_roundw
          case rel =>
            obtain ⟨g, h3, h4⟩ := chF_cons (z := n) hnil hlf
            refine ⟨g, l.drop n, L2, a2, c2, by simp; omega, by simp; omega, by rw [hL2.out]; simp; omega, by rw [← extract_drop], rfl, ?_, hf2.1, ?_⟩
            · show _ = _
              rw [hL2.out, ← hT.out, h3, ← HG.out, List.append_assoc]
              rfl
            · exact (((hbel.trans (HB1.out.mono hz)).alloc (by omega) (.cells #[.string G] 9)).trans (hm2.below (Nat.le_refl _) (by simp; omega)))
          case measure => simp [lenOf, strOf_size]; omega
  · have HL := Lib.hid hlong
    simp only [if_true]
    clear hlong
    go_enter Try.func38, Try.ntmps38
    go_wp2_with fail
    refine Calls.mono (isLong1_c _ (xs.length) _ _ ?_ ?_) ?_
    · simp
    · simp [go_sem]
    rw [HL.out]
    rintro e w1 ⟨rfl, rfl⟩
    go_wp2_with fail
    go_ret2
    exact ⟨none, 0, rfl, (FreshIn.nil _ _ _ _ 0 _).1, (by repeat (first | exact Below.refl _ _ | (refine Below.alloc ?_ (by (try simp) <;> (try omega)) _) | (refine Below.setCell ?_ (by (try simp) <;> (try omega)) _) | (refine Below.drew ?_) | (refine Below.trans ?_ (Below.mono (by assumption) (by (try simp) <;> (try omega))))))⟩
end Go.Proofs.Ytmkgmecpjppgcaa
