/- impl.recordsOf: the records from one state to another. No conditions but sizes. -/
import Derived.Test.YtmdjcoeijlnloaaFld2
import Derived.Test.YtmdjcoeijlnloaaCut2
import Derived.Test.YtmdjcoeijlnloaaOwn2
import Derived.Deep.CutBlock
import Derived.Test.YtmdjcoeijlnloaaSame
import Derived.Deep.DeepCutAuto
import Derived.Deep.RegionHeld3
namespace Go.Proofs.Ytmdjcoeijlnloaa
set_option linter.unusedVariables false
set_option linter.unusedSimpArgs false
open Go.RowKit
def str1 (c : UInt8) : ByteArray := strOf [c]
def recT (t v : Int) : ByteArray := strOf (fldL [str1 116, strOf (numL [t, v])])
def recC (k : Nat) : ByteArray := strOf (fldL [str1 99, strOf (numL [(k : Int)])])
def recE (e : Ent) : ByteArray := strOf (fldL [str1 101, strOf (numL [e.1]), e.2])
def chg (t v t' v' : Int) : Bool := t != t' || v != v'
def rec1 (t v t' v' : Int) : List ByteArray := if chg t v t' v' then [recT t' v'] else []
def rec2 (xs ys : List Ent) : List ByteArray := if commonN xs ys < xs.length then [recC (commonN xs ys)] else []
def rec3 (xs ys : List Ent) : List ByteArray := (ys.drop (commonN xs ys)).map recE
def recsL (t v : Int) (xs : List Ent) (t' v' : Int) (ys : List Ent) : List ByteArray := rec1 t v t' v' ++ rec2 xs ys ++ rec3 xs ys
def TextsR (L : List ByteArray) (w : World) (e : Ending) (w' : World) : Prop :=
  ∃ a c, e = .returned (.slice a L.length c) ∧ Fresh strE 9 1 w.heap.size (.slice a L.length c) L w' ∧ Below w.heap.size w w'
theorem Sl.boxL {α : Type} {enc : α → List Value} {sz : Nat} {w : World} (hs : ∀ x, (enc x).length = sz) (xs : List α) (cs : Array Value) (T : TypeId) (hc : cs.toList = xs.flatMap enc) (b : Nat) (hb : b = w.heap.size) : Sl enc sz (w.alloc (.cells cs T)) (some ⟨b, 0, none⟩) xs := by
  subst hb
  refine .inr ⟨w.heap.size, 0, rfl, by simp, fun i hi j hj => ?_⟩
  rw [Nat.zero_add, World.cell?_alloc_new, ← Array.getElem?_toList, hc, flat_get enc sz hs xs i hi j hj]
theorem fldL_length (fs : List ByteArray) : (fldL fs).length = 1 + (fldB fs).length := by simp [fldL]; omega
theorem fldV2 {x y : ByteArray} (h1 : x.size ≤ 20000) (h2 : y.size ≤ 20000) : (fldV [x, y]).1 = fldL [x, y] := by
  rw [fldV_ok (by simp) (by simp; exact ⟨h1, h2⟩) (by rw [fldL_length]; simp [fldB, fieldL_length]; omega)]
theorem fldV3 {x y z : ByteArray} (h1 : x.size ≤ 20000) (h2 : y.size ≤ 20000) (h3 : z.size ≤ 20000) : (fldV [x, y, z]).1 = fldL [x, y, z] := by
  rw [fldV_ok (by simp) (by simp; exact ⟨h1, h2, h3⟩) (by rw [fldL_length]; simp [fldB, fieldL_length]; omega)]
theorem Sl.drop' {α : Type} {enc : α → List Value} {sz : Nat} {w : World} {b off : Nat} {xs : List α} (h : Sl enc sz w (some ⟨b, off, none⟩) xs) (k : Nat) (hk : k < xs.length) : Sl enc sz w (some ⟨b, off + k * sz, none⟩) (xs.drop k) := by
  have := h.sub k xs.length hk
  rwa [List.take_of_length_le (by simp)] at this
theorem commonN_le2 (xs ys : List Ent) : commonN xs ys ≤ ys.length := by
  induction xs generalizing ys with
  | nil => simp [commonN]
  | cons x xs ih =>
    cases ys with
    | nil => simp [commonN]
    | cons y ys =>
      simp only [commonN]
      split
      · have := ih ys; simp; omega
      · simp
set_option maxRecDepth 100000 in
set_option maxHeartbeats 16000000 in
theorem implRecordsOf_c (a b : Option Addr) (ca cb : Nat) (t v t' v' : Int) (xs ys : List Ent) (w : World) (ha : Sl entE 2 w a xs) (hb : Sl entE 2 w b ys) (hx : xs.length ≤ 60) (hy : ys.length ≤ 60) (hcb : ys.length ≤ cb)
    (ht0 : 0 ≤ t') (ht1 : t' ≤ 1000) (hv0 : -1 ≤ v') (hv1 : v' ≤ 4) (hys : ∀ e ∈ ys, 1 ≤ e.1 ∧ e.1 ≤ 1000 ∧ e.2.size ≤ 400) :
    Calls Try.prog 64 #[.agg #[.int .i64 t, .int .i64 v, .slice a xs.length ca], .agg #[.int .i64 t', .int .i64 v', .slice b ys.length cb]] w (TextsR (recsL t v xs t' v' ys) w) := by
  obtain ⟨i0, hi, hz0, hz1, hz2⟩ := info_parts Try.infoString
  have HYS := Lib.hid hys
  clear hys
  go_enter Try.func64, Try.ntmps64
  go_upto_region 2 with fail
  go_cut [20] (fun s wx => s = .bool (chg t v t' v') ∧ wx = (w.alloc (.cells #[.int .i64 t, .int .i64 v, .slice a xs.length ca] 31)).alloc (.cells #[.int .i64 t', .int .i64 v', .slice b ys.length cb] 31))
  case first =>
    by_cases h1 : t = t'
    · have g1 : (t != t') = false := by simpa using h1
      have H1 := Lib.hid h1
      clear h1
      by_cases h2 : v = v'
      · have g2 : (v != v') = false := by simpa using h2
        have H2 := Lib.hid h2
        clear h2
        go_wp2_with fail
        go_meet
        exact ⟨by simp [chg, g1, g2], rfl⟩
      · have g2 : (v != v') = true := by simpa using h2
        go_wp2_with fail
        go_meet
        exact ⟨by simp [chg, g1, g2], rfl⟩
    · have g1 : (t != t') = true := by simpa using h1
      go_wp2_with fail
      go_meet
      exact ⟨by simp [chg, g1], rfl⟩
  case rest =>
    obtain ⟨rfl, rfl⟩ := hcut
    have k0 : ((w.alloc (.cells #[.int .i64 t, .int .i64 v, .slice a xs.length ca] 31)).alloc (.cells #[.int .i64 t', .int .i64 v', .slice b ys.length cb] 31)).cell? ⟨w.heap.size, 0, none⟩ = some (.int .i64 t) := by simp [go_sem]
    have k1 : ((w.alloc (.cells #[.int .i64 t, .int .i64 v, .slice a xs.length ca] 31)).alloc (.cells #[.int .i64 t', .int .i64 v', .slice b ys.length cb] 31)).cell? ⟨w.heap.size, 1, none⟩ = some (.int .i64 v) := by simp [go_sem]
    have k2 : ((w.alloc (.cells #[.int .i64 t, .int .i64 v, .slice a xs.length ca] 31)).alloc (.cells #[.int .i64 t', .int .i64 v', .slice b ys.length cb] 31)).cell? ⟨w.heap.size, 2, none⟩ = some (.slice a xs.length ca) := by simp [go_sem]
    have k3 : ((w.alloc (.cells #[.int .i64 t, .int .i64 v, .slice a xs.length ca] 31)).alloc (.cells #[.int .i64 t', .int .i64 v', .slice b ys.length cb] 31)).cell? ⟨w.heap.size + 1, 0, none⟩ = some (.int .i64 t') := by simp [go_sem]
    have k4 : ((w.alloc (.cells #[.int .i64 t, .int .i64 v, .slice a xs.length ca] 31)).alloc (.cells #[.int .i64 t', .int .i64 v', .slice b ys.length cb] 31)).cell? ⟨w.heap.size + 1, 1, none⟩ = some (.int .i64 v') := by simp [go_sem]
    have k5 : ((w.alloc (.cells #[.int .i64 t, .int .i64 v, .slice a xs.length ca] 31)).alloc (.cells #[.int .i64 t', .int .i64 v', .slice b ys.length cb] 31)).cell? ⟨w.heap.size + 1, 2, none⟩ = some (.slice b ys.length cb) := by simp [go_sem]
    have HW2 : Hid (Below w.heap.size w ((w.alloc (.cells #[.int .i64 t, .int .i64 v, .slice a xs.length ca] 31)).alloc (.cells #[.int .i64 t', .int .i64 v', .slice b ys.length cb] 31))) := (by repeat (first | exact Below.refl _ _ | (refine Below.alloc ?_ (by (try simp) <;> (try omega)) _) | (refine Below.setCell ?_ (by (try simp) <;> (try omega)) _) | (refine Below.drew ?_) | (refine Below.trans ?_ (Below.mono (by assumption) (by (try simp) <;> (try omega))))))
    have hs2 : ((w.alloc (.cells #[.int .i64 t, .int .i64 v, .slice a xs.length ca] 31)).alloc (.cells #[.int .i64 t', .int .i64 v', .slice b ys.length cb] 31)).heap.size = w.heap.size + 2 := by simp
    generalize (w.alloc (.cells #[.int .i64 t, .int .i64 v, .slice a xs.length ca] 31)).alloc (.cells #[.int .i64 t', .int .i64 v', .slice b ys.length cb] 31) = W2 at *
    have hs3 : w.heap.size + 2 ≤ W2.heap.size := by omega
    have HA2 := Lib.hid (ha.keep HW2.out)
    have HB2 := Lib.hid (hb.keep HW2.out)
    clear hs2
    go_upto_if 20 with fail
    go_cut [5] (fun s wx => ∃ (av : Option Addr) (cv : Nat) (L : List ByteArray), s = .slice av L.length cv ∧ L.length ≤ 1 ∧ Hid (L = rec1 t v t' v') ∧ Fresh strE 9 1 (w.heap.size + 2) (.slice av L.length cv) L wx ∧ Below (w.heap.size + 2) W2 wx)
    case first =>
      cases hch : chg t v t' v'
      · go_wp2_with fail
        go_meet
        exact ⟨none, 0, [], rfl, by simp, by show _ = _; simp [rec1, hch], (FreshIn.nil _ _ _ _ 0 _).1, Below.refl _ _⟩
      · have HCH := Lib.hid hch
        clear hch
        go_wp2_with fail
        refine (numbersOf_c (some ⟨W2.heap.size, 0, none⟩) 2 [t', v'] _ (Sl.boxL (enc := intE) (fun _ => rfl) [t', v'] #[.int .i64 (t'), .int .i64 (v')] 3 rfl W2.heap.size rfl) (by simp) (by intro n hn; simp at hn; omega)).mono ?_
        rintro e w1a ⟨rfl, hb1a⟩
        have hz1a := hb1a.size
        simp only [World.size_alloc] at hz1a
        have HB1a := Lib.hid hb1a
        have hn1 : (strOf (numL [t', v'])).size ≤ 6 := by rw [strOf_size, numL_length]; simp
        clear hb1a
        go_wp2_with fail
        refine (fields_c (some ⟨w1a.heap.size, 0, none⟩) 2 [str1 116, strOf (numL [t', v'])] _ (Sl.boxL (enc := strE) (fun _ => rfl) [str1 116, strOf (numL [t', v'])] #[.string (str1 116), .string (strOf (numL [t', v']))] 9 rfl w1a.heap.size rfl) (by simp)).mono ?_
        rw [fldV2 (by decide) (by omega)]
        rintro e w1b ⟨rfl, hb1b⟩
        have hz1b := hb1b.size
        simp only [World.size_alloc] at hz1b
        have HB1b := Lib.hid hb1b
        have HF1 := Lib.hid ((((FreshIn.nil strE 9 1 (w.heap.size + 2) W2.heap.size W2).alloc (.cells #[.int .i64 (t'), .int .i64 (v')] 3)).below HB1a.out).alloc (.cells #[.string (str1 116), .string (strOf (numL [t', v']))] 9) |>.below HB1b.out)
        generalize hR1 : strOf (fldL [str1 116, strOf (numL [t', v'])]) = R1 at *
        have HR1 := Lib.hid hR1
        clear hb1b hR1
        go_wp2_with (first
          | (skip
             at_builtin
             refine wpList_append_fresh rfl (.tmp 21) (.tmp 30) 26 26 rfl (w.heap.size + 2) (W2.heap.size) 9 i0 (.string ⟨#[]⟩) 1 16 Try.underlying26 hi hz0 hz1 hz2 rfl (by decide) (.slice none 0 0) ([]) rfl (HF1.out.alloc _) _ ([R1]) rfl (Src.ofBox (enc := strE) (w := w1b) Try.underlying26 (fun _ => rfl) strOne R1 #[.string R1] 9 rfl w1b.heap.size rfl) (by (try simp) <;> (try omega)) (by (try simp) <;> (try omega)) ?_
             intro a1 c1 w1 L1 hL1 hf1 hm1
             skip))
        have HBB1 : Hid (Below (w.heap.size + 2) W2 w1) := (((((((Below.refl (w.heap.size + 2) W2).alloc (by omega) (.cells #[.int .i64 (t'), .int .i64 (v')] 3)).trans (HB1a.out.mono (by simp; omega))).alloc (by omega) (.cells #[.string (str1 116), .string (strOf (numL [t', v']))] 9)).trans (HB1b.out.mono (by simp; omega))).alloc (by omega) (.cells #[.string R1] 9)).trans (hm1.below (Nat.le_refl _) (by simp; omega)))
        go_meet
        exact ⟨a1, c1, L1, rfl, by rw [hL1.out]; simp, by show _ = _; rw [hL1.out, rec1, HCH.out, ← HR1.out]; rfl, hf1.1, HBB1.out⟩
    case rest =>
      obtain ⟨av, cv, L, rfl, hLl, hL, hf, hbel⟩ := hcut
      have hzc := hbel.size
      have HBC := Lib.hid hbel
      have HFC := Lib.hid hf
      have qw3_0 : wc.cell? ⟨w.heap.size, 0, none⟩ = some (.int .i64 t) := by rw [hbel.cell (p := ⟨w.heap.size, 0, none⟩) (by show w.heap.size < _; omega)]; exact k0
      have qw3_1 : wc.cell? ⟨w.heap.size, 1, none⟩ = some (.int .i64 v) := by rw [hbel.cell (p := ⟨w.heap.size, 1, none⟩) (by show w.heap.size < _; omega)]; exact k1
      have qw3_2 : wc.cell? ⟨w.heap.size, 2, none⟩ = some (.slice a xs.length ca) := by rw [hbel.cell (p := ⟨w.heap.size, 2, none⟩) (by show w.heap.size < _; omega)]; exact k2
      have qw3_3 : wc.cell? ⟨w.heap.size + 1, 0, none⟩ = some (.int .i64 t') := by rw [hbel.cell (p := ⟨w.heap.size + 1, 0, none⟩) (by show w.heap.size + 1 < _; omega)]; exact k3
      have qw3_4 : wc.cell? ⟨w.heap.size + 1, 1, none⟩ = some (.int .i64 v') := by rw [hbel.cell (p := ⟨w.heap.size + 1, 1, none⟩) (by show w.heap.size + 1 < _; omega)]; exact k4
      have qw3_5 : wc.cell? ⟨w.heap.size + 1, 2, none⟩ = some (.slice b ys.length cb) := by rw [hbel.cell (p := ⟨w.heap.size + 1, 2, none⟩) (by show w.heap.size + 1 < _; omega)]; exact k5
      have HBW : Hid (Below w.heap.size w wc) := HW2.out.trans (hbel.mono (by omega))
      have HA := Lib.hid (ha.keep HBW.out)
      have HB := Lib.hid (hb.keep HBW.out)
      have K5 := Lib.hid k5
      clear hf hbel k0 k1 k2 k3 k4 k5
      go_upto_block 0 with fail
      obtain ⟨w3, hw3⟩ : ∃ x, x = wc := ⟨_, rfl⟩
      subst hw3
      go_cut [6] (fun s wx => s = .int .i64 (commonN xs ys) ∧ Below w3.heap.size w3 wx)
      case first =>
        go_wp2_with fail
        go_loopw [6] (fun i wr => ∃ k : Nat, k ≤ xs.length ∧ k ≤ ys.length ∧ i = .int .i64 k ∧ xs.take k = ys.take k ∧ Below w3.heap.size w3 wr) (fun i _ => xs.length - (intOf i).toNat)
        case atStart => exact ⟨0, Nat.zero_le _, Nat.zero_le _, rfl, rfl, Below.refl _ _⟩
        case round =>
          obtain ⟨k, hk, hk2, rfl, ht, hbel⟩ := hrel
          have HT := Lib.hid ht
          have r2 : wr.cell? ⟨w.heap.size, 2, none⟩ = some (.slice a xs.length ca) := by rw [hbel.cell (p := ⟨w.heap.size, 2, none⟩) (by show w.heap.size < _; omega)]; exact qw3_2
          have r5 : wr.cell? ⟨w.heap.size + 1, 2, none⟩ = some (.slice b ys.length cb) := by rw [hbel.cell (p := ⟨w.heap.size + 1, 2, none⟩) (by show w.heap.size + 1 < _; omega)]; exact qw3_5
          clear ht qw3_0 qw3_1 qw3_2 qw3_3 qw3_4 qw3_5
          have hmn : k < min xs.length ys.length ∨ min xs.length ys.length ≤ k := by omega
          rcases hmn with hlt | hlt
          · have hlt1 : k < xs.length := by omega
            have hlt2 : k < ys.length := by omega
            obtain ⟨b1, o1, rfl, hb1, hc1⟩ := (HA.out.keep hbel).at hlt1
            obtain ⟨b2, o2, rfl, hb2, hc2⟩ := (HB.out.keep hbel).at hlt2
            have c1 := hc1 k hlt1 0 (by omega)
            have c2 := hc2 k hlt2 0 (by omega)
            have d1 := hc1 k hlt1 1 (by omega)
            have d2 := hc2 k hlt2 1 (by omega)
            simp only [entE, Nat.add_zero, List.getElem?_cons_zero, List.getElem?_cons_succ] at c1 c2 d1 d2
            have HBL := Lib.hid hbel
            clear hc1 hc2 hbel
            have g0 : decide ((k : Int) < min (xs.length : Int) (ys.length : Int)) = true := by simp; omega
            by_cases e1 : xs[k].1 = ys[k].1
            · have f1 : (xs[k].1 == ys[k].1) = true := by rw [e1]; simp
              have E1 := Lib.hid e1
              clear e1
              by_cases e2 : xs[k].2 = ys[k].2
              · have f2 : (xs[k].2.toList == ys[k].2.toList) = true := by rw [e2]; simp
                have E2 := Lib.hid e2
                clear e2
                go_wp2_with fail
                go_quiet (fail)
                go_wp2_with fail
                go_roundw
                case rel =>
                  refine ⟨k + 1, by omega, by omega, by go_num, ?_, HBL.out.trans (below_drewN _ _ _)⟩
                  rw [List.take_succ_eq_append_getElem hlt1, List.take_succ_eq_append_getElem hlt2, HT.out, Prod.ext E1.out E2.out]
                case measure => simp [intOf]; omega
              · have f2 : (xs[k].2.toList == ys[k].2.toList) = false := by simp [toList_eq, e2]
                have E2 := Lib.hid e2
                clear e2
                go_wp2_with fail
                go_quiet (fail)
                go_wp2_with fail
                go_meet
                exact ⟨by rw [commonN_at xs ys k hk hk2 HT.out (.inr (.inr ⟨hlt1, hlt2, fun h => E2.out (by rw [h])⟩))], HBL.out.trans (below_drewN _ _ _)⟩
            · have f1 : (xs[k].1 == ys[k].1) = false := by simpa using e1
              have E1 := Lib.hid e1
              clear e1
              go_wp2_with fail
              go_quiet (fail)
              go_wp2_with fail
              go_meet
              exact ⟨by rw [commonN_at xs ys k hk hk2 HT.out (.inr (.inr ⟨hlt1, hlt2, fun h => E1.out (by rw [h])⟩))], HBL.out.trans (below_drewN _ _ _)⟩
          · have g0 : decide ((k : Int) < min (xs.length : Int) (ys.length : Int)) = false := by simp; omega
            have HC : Hid (commonN xs ys = k) := commonN_at xs ys k hk hk2 HT.out (by omega)
            have HBL := Lib.hid hbel
            clear hbel
            go_wp2_with fail
            go_quiet (fail)
            go_wp2_with fail
            go_meet
            exact ⟨by rw [HC.out], HBL.out.trans (below_drewN _ _ _)⟩
      case rest =>
        obtain ⟨rfl, hbd⟩ := hcut
        have hze := hbd.size
        have HBE : Hid (Below (w.heap.size + 2) W2 wc) := HBC.out.trans (hbd.mono (by omega))
        have HBW2 : Hid (Below w.heap.size w wc) := HBW.out.trans (hbd.mono (by omega))
        have HF2 := Lib.hid (HFC.out.below hbd)
        have qw5_0 : wc.cell? ⟨w.heap.size, 0, none⟩ = some (.int .i64 t) := by rw [hbd.cell (p := ⟨w.heap.size, 0, none⟩) (by show w.heap.size < _; omega)]; exact qw3_0
        have qw5_1 : wc.cell? ⟨w.heap.size, 1, none⟩ = some (.int .i64 v) := by rw [hbd.cell (p := ⟨w.heap.size, 1, none⟩) (by show w.heap.size < _; omega)]; exact qw3_1
        have qw5_2 : wc.cell? ⟨w.heap.size, 2, none⟩ = some (.slice a xs.length ca) := by rw [hbd.cell (p := ⟨w.heap.size, 2, none⟩) (by show w.heap.size < _; omega)]; exact qw3_2
        have qw5_3 : wc.cell? ⟨w.heap.size + 1, 0, none⟩ = some (.int .i64 t') := by rw [hbd.cell (p := ⟨w.heap.size + 1, 0, none⟩) (by show w.heap.size + 1 < _; omega)]; exact qw3_3
        have qw5_4 : wc.cell? ⟨w.heap.size + 1, 1, none⟩ = some (.int .i64 v') := by rw [hbd.cell (p := ⟨w.heap.size + 1, 1, none⟩) (by show w.heap.size + 1 < _; omega)]; exact qw3_4
        have qw5_5 : wc.cell? ⟨w.heap.size + 1, 2, none⟩ = some (.slice b ys.length cb) := by rw [hbd.cell (p := ⟨w.heap.size + 1, 2, none⟩) (by show w.heap.size + 1 < _; omega)]; exact qw3_5
        have HD := Lib.hid (hb.keep HBW2.out)
        have HCL := commonN_le xs ys
        have HCL2 := commonN_le2 xs ys
        have hR2 : Hid (rec2 xs ys = if commonN xs ys < xs.length then [recC (commonN xs ys)] else []) := rfl
        have hR3 : Hid (rec3 xs ys = (ys.drop (commonN xs ys)).map recE) := rfl
        have hRR : Hid (recsL t v xs t' v' ys = rec1 t v t' v' ++ rec2 xs ys ++ rec3 xs ys) := rfl
        clear qw3_0 qw3_1 qw3_2 qw3_3 qw3_4 qw3_5 hbd HBC HBW HFC HA HB
        have hrc : recC (commonN xs ys) = strOf (fldL [str1 99, strOf (numL [((commonN xs ys : Nat) : Int)])]) := rfl
        have HRC := Lib.hid hrc
        clear hrc
        generalize commonN xs ys = c at *
        obtain ⟨w5, hw5⟩ : ∃ x, x = wc := ⟨_, rfl⟩
        subst hw5
        go_upto_if 60 with fail
        go_cut [5] (fun s wx => ∃ (av : Option Addr) (cv : Nat) (L : List ByteArray), s = .slice av L.length cv ∧ L.length ≤ 2 ∧ Hid (L = rec1 t v t' v' ++ rec2 xs ys) ∧ Fresh strE 9 1 (w.heap.size + 2) (.slice av L.length cv) L wx ∧ Below (w.heap.size + 2) W2 wx)
        case first =>
          by_cases hc : c < xs.length
          · have HRE : Hid (rec2 xs ys = [recC c]) := by show _ = _; rw [hR2.out, if_pos hc]
            go_wp2_with fail
            refine (numbersOf_c (some ⟨w5.heap.size, 0, none⟩) 1 [((c : Nat) : Int)] _ (Sl.boxL (enc := intE) (fun _ => rfl) [((c : Nat) : Int)] #[.int .i64 (((c : Nat) : Int))] 3 rfl w5.heap.size rfl) (by simp) (by intro n hn; simp at hn; omega)).mono ?_
            rintro e w2a ⟨rfl, hb2a⟩
            have hz2a := hb2a.size
            simp only [World.size_alloc] at hz2a
            have HB2a := Lib.hid hb2a
            have hn2 : (strOf (numL [((c : Nat) : Int)])).size ≤ 3 := by rw [strOf_size, numL_length]; simp
            clear hb2a
            go_wp2_with fail
            refine (fields_c (some ⟨w2a.heap.size, 0, none⟩) 2 [str1 99, strOf (numL [((c : Nat) : Int)])] _ (Sl.boxL (enc := strE) (fun _ => rfl) [str1 99, strOf (numL [((c : Nat) : Int)])] #[.string (str1 99), .string (strOf (numL [((c : Nat) : Int)]))] 9 rfl w2a.heap.size rfl) (by simp)).mono ?_
            rw [fldV2 (by decide) (by omega)]
            rintro e w2b ⟨rfl, hb2b⟩
            have hz2b := hb2b.size
            simp only [World.size_alloc] at hz2b
            have HB2b := Lib.hid hb2b
            have HF2 := Lib.hid (((HF2.out.here.alloc (.cells #[.int .i64 (((c : Nat) : Int))] 3)).below HB2a.out).alloc (.cells #[.string (str1 99), .string (strOf (numL [((c : Nat) : Int)]))] 9) |>.below HB2b.out)
            generalize hR2 : strOf (fldL [str1 99, strOf (numL [((c : Nat) : Int)])]) = R2 at *
            have HR2 := Lib.hid hR2
            clear hb2b hR2
            go_wp2_with (first
              | (skip
                 at_builtin
                 refine wpList_append_fresh rfl (.tmp 61) (.tmp 67) 26 26 rfl (w.heap.size + 2) (w5.heap.size) 9 i0 (.string ⟨#[]⟩) 1 16 Try.underlying26 hi hz0 hz1 hz2 rfl (by decide) (.slice av L.length cv) (L) rfl (HF2.out.alloc _) _ ([R2]) rfl (Src.ofBox (enc := strE) (w := w2b) Try.underlying26 (fun _ => rfl) strOne R2 #[.string R2] 9 rfl w2b.heap.size rfl) (by (try simp) <;> (try omega)) (by (try simp) <;> (try omega)) ?_
                 intro a2 c2 w2 L2 hL2 hf2 hm2
                 skip))
            have HBB2 : Hid (Below (w.heap.size + 2) W2 w2) := ((((((HBE.out.alloc (by omega) (.cells #[.int .i64 (((c : Nat) : Int))] 3)).trans (HB2a.out.mono (by simp; omega))).alloc (by omega) (.cells #[.string (str1 99), .string (strOf (numL [((c : Nat) : Int)]))] 9)).trans (HB2b.out.mono (by simp; omega))).alloc (by omega) (.cells #[.string R2] 9)).trans (hm2.below (Nat.le_refl _) (by simp; omega)))
            go_meet
            exact ⟨a2, c2, L2, rfl, by rw [hL2.out]; simp; omega, by show _ = _; rw [hL2.out, hL.out, HRE.out, HRC.out, ← HR2.out], hf2.1, HBB2.out⟩
          · have HRE : Hid (rec2 xs ys = []) := by show _ = _; rw [hR2.out, if_neg hc]
            go_wp2_with fail
            go_meet
            exact ⟨av, cv, L, rfl, by omega, by show _ = _; rw [HRE.out, List.append_nil]; exact hL.out, HF2.out, HBE.out⟩
        case rest =>
          obtain ⟨w6, hw6⟩ : ∃ x, x = wc := ⟨_, rfl⟩
          subst hw6
          obtain ⟨av2, cv2, M, rfl, hMl, hM, hfM, hbM⟩ := hcut
          have hz6 := hbM.size
          have q65 : w6.cell? ⟨w.heap.size + 1, 2, none⟩ = some (.slice b ys.length cb) := by rw [hbM.cell (p := ⟨w.heap.size + 1, 2, none⟩) (by show w.heap.size + 1 < _; omega)]; exact K5.out
          have HBM := Lib.hid hbM
          have HFM := Lib.hid hfM
          have HBW6 : Hid (Below w.heap.size w w6) := HW2.out.trans (hbM.mono (by omega))
          clear hbM hfM qw5_0 qw5_1 qw5_2 qw5_3 qw5_4 qw5_5
          obtain ⟨zs, hzs⟩ : ∃ zs, zs = ys.drop c := ⟨_, rfl⟩
          have hzl : zs.length = ys.length - c := by rw [hzs]; simp
          have hz1' : zs.length + c ≤ ys.length := by omega
          have hz2' : ys.length ≤ zs.length + c := by omega
          have HZS := Lib.hid hzs
          have HYZ : Hid (∀ e ∈ zs, 1 ≤ e.1 ∧ e.1 ≤ 1000 ∧ e.2.size ≤ 400) := fun e he => HYS.out e (by rw [hzs] at he; exact List.mem_of_mem_drop he)
          have HR3 : Hid (rec3 xs ys = zs.map recE) := by show _ = _; rw [hR3.out, hzs]
          have hgo : c < ys.length ∨ (c = ys.length ∧ c = cb) ∨ (c = ys.length ∧ c < cb) := by omega
          rcases hgo with hcc | ⟨hcc, hcb2⟩ | ⟨hcc, hcb2⟩
          · obtain ⟨b2, o2, rfl, hb2, _⟩ := hb.at hcc
            have hS := (hb.keep HBW6.out).drop' c hcc
            rw [← hzs] at hS
            have HS := Lib.hid hS
            have hccb : c < cb := by omega
            clear hS hzs hzl
            go_wp2_with fail
            go_loopw [5, 74] (fun v i wr => ∃ (k : Nat) (av : Option Addr) (cv : Nat) (L : List ByteArray), k ≤ zs.length ∧ L.length ≤ k + 2 ∧ i = .int .i64 k ∧ v = .slice av L.length cv ∧ Hid (L = M ++ (zs.take k).map recE) ∧ Fresh strE 9 1 (w.heap.size + 2) (.slice av L.length cv) L wr ∧ Below (w.heap.size + 2) W2 wr) (fun _ i _ => zs.length - (intOf i).toNat)
            case atStart => exact ⟨0, _, _, M, Nat.zero_le _, by omega, rfl, rfl, by show _ = _; simp, HFM.out, HBM.out⟩
            case round =>
              obtain ⟨k, av, cv, L, hk, hLk, rfl, rfl, hLe, hf, hbel⟩ := hrel
              have HF := Lib.hid hf.here
              have HBL := Lib.hid hbel
              have hzr := hbel.size
              clear hf hbel
              by_cases hlt : k < zs.length
              · have hSr := (hb.keep (HW2.out.trans (HBL.out.mono (by omega)))).drop' c hcc
                rw [← HZS.out] at hSr
                obtain ⟨b3, o3, he, hb3, hc1⟩ := hSr.at hlt
                cases he
                have e0 := hc1 k hlt 0 (by omega)
                have e1 := hc1 k hlt 1 (by omega)
                simp only [entE, Nat.add_zero, List.getElem?_cons_zero, List.getElem?_cons_succ] at e0 e1
                obtain ⟨hr1, hr2, hr3⟩ := HYZ.out zs[k] (List.getElem_mem _)
                have HTK : Hid ((zs.take (k + 1)).map recE = (zs.take k).map recE ++ [recE zs[k]]) := by show _ = _; rw [List.take_succ_eq_append_getElem hlt, List.map_append]; rfl
                generalize zs[k] = z at *
                clear hc1 hSr
                go_wp2_with fail
                go_region_held3 (fun w' => w'.cell? ⟨wr.heap.size, 0, none⟩ = some (.int .i64 z.1) ∧ w'.cell? ⟨wr.heap.size, 1, none⟩ = some (.string z.2))
                  (first | go_keep | (repeat' apply And.intro) <;> assumption)
                  (first
                    | (go_at_call 125
                       refine (numbersOf_c (some ⟨wr.heap.size + 1, 0, none⟩) 1 [z.1] _ (Sl.boxL (enc := intE) (w := (wr.alloc (.cells #[.int .i64 z.1, .string z.2] 109)).drew) (fun _ => rfl) [z.1] #[.int .i64 z.1] 3 rfl (wr.heap.size + 1) (by simp)) (by simp) (by intro n hn; simp at hn; omega)).mono ?_
                       rintro e wa ⟨rfl, hba⟩
                       have hza := hba.size
                       simp at hza
                       have g0 : wa.cell? ⟨wr.heap.size, 0, none⟩ = some (.int .i64 z.1) := by
                         rw [hba.cell (p := ⟨wr.heap.size, 0, none⟩) (by show wr.heap.size < _; simp; omega)]
                         simp [go_sem]
                       have g1 : wa.cell? ⟨wr.heap.size, 1, none⟩ = some (.string z.2) := by
                         rw [hba.cell (p := ⟨wr.heap.size, 1, none⟩) (by show wr.heap.size < _; simp; omega)]
                         simp [go_sem]
                       have hna : (strOf (numL [z.1])).size ≤ 3 := by rw [strOf_size, numL_length]; simp
                       have HBa := Lib.hid hba
                       clear hba)
                    | (go_at_call 124
                       refine (fields_c (some ⟨wa.heap.size, 0, none⟩) 3 [str1 101, strOf (numL [z.1]), z.2] _ (Sl.boxL (enc := strE) (w := wa) (fun _ => rfl) [str1 101, strOf (numL [z.1]), z.2] #[.string (str1 101), .string (strOf (numL [z.1])), .string z.2] 9 rfl wa.heap.size rfl) (by simp)).mono ?_
                       rw [fldV3 (by decide) (by omega) (by omega), show strOf (fldL [str1 101, strOf (numL [z.1]), z.2]) = recE z from rfl]
                       rintro e wb ⟨rfl, hbb⟩
                       have hzb := hbb.size
                       simp at hzb
                       have g2 : wb.cell? ⟨wr.heap.size, 0, none⟩ = some (.int .i64 z.1) := by
                         rw [hbb.cell (p := ⟨wr.heap.size, 0, none⟩) (by show wr.heap.size < _; simp; omega), World.cell?_alloc_lt _ _ _ (by show wr.heap.size < _; omega)]
                         exact g0
                       have g3 : wb.cell? ⟨wr.heap.size, 1, none⟩ = some (.string z.2) := by
                         rw [hbb.cell (p := ⟨wr.heap.size, 1, none⟩) (by show wr.heap.size < _; simp; omega), World.cell?_alloc_lt _ _ _ (by show wr.heap.size < _; omega)]
                         exact g1
                       have HBb := Lib.hid hbb
                       have HFb := Lib.hid (((((HF.out.alloc (.cells #[.int .i64 z.1, .string z.2] 109)).drew).alloc (.cells #[.int .i64 z.1] 3)).below HBa.out |>.alloc (.cells #[.string (str1 101), .string (strOf (numL [z.1])), .string z.2] 9)).below hbb)
                       clear hbb)
                    | (have tok1 := HFb
                       refine step_append_fresh (by rfl) (.tmp 78) (.tmp 87) 26 26 (by rfl) (w.heap.size + 2) wr.heap.size 9 i0 (.string ⟨#[]⟩) 1 16 Try.underlying26 hi hz0 hz1 hz2 rfl (by decide) (.slice av L.length cv) L (by rfl) (tok1.out.alloc _) _ [recE z] (by rfl) (Src.ofBox (enc := strE) (w := wb) Try.underlying26 (fun _ => rfl) strOne (recE z) #[.string (recE z)] 9 rfl wb.heap.size rfl) (by simp; omega) (by simp; omega) ?_
                       intro a7 c7 w7 L7 hL7 hf7 hm7
                       have hy7 := hm7.size
                       simp at hy7
                       have g4 : w7.cell? ⟨wr.heap.size, 0, none⟩ = some (.int .i64 z.1) := by
                         rw [hm7.cell (p := ⟨wr.heap.size, 0, none⟩) (by show wr.heap.size < _; simp; omega) (.inr (Nat.le_refl _)), World.cell?_alloc_lt _ _ _ (by show wr.heap.size < _; omega)]
                         exact g2
                       have g5 : w7.cell? ⟨wr.heap.size, 1, none⟩ = some (.string z.2) := by
                         rw [hm7.cell (p := ⟨wr.heap.size, 1, none⟩) (by show wr.heap.size < _; simp; omega) (.inr (Nat.le_refl _)), World.cell?_alloc_lt _ _ _ (by show wr.heap.size < _; omega)]
                         exact g3))
                go_wp2_with fail
                go_roundw
                case rel =>
                  have hx : Below wr.heap.size wr wb := (((((Below.refl wr.heap.size wr).alloc (Nat.le_refl _) (.cells #[.int .i64 z.1, .string z.2] 109)).drew).alloc (by simp) (.cells #[.int .i64 z.1] 3)).trans (HBa.out.mono (by simp; omega)) |>.alloc (by omega) (.cells #[.string (str1 101), .string (strOf (numL [z.1])), .string z.2] 9)).trans (HBb.out.mono (by simp; omega))
                  have hx7 : Below (w.heap.size + 2) wr w7 := ((hx.mono (by omega)).alloc (by omega) (.cells #[.string (recE z)] 9)).trans (hm7.below (Nat.le_refl _) (by simp; omega))
                  refine ⟨k + 1, a7, c7, L7, by omega, by rw [hL7.out]; simp; omega, by go_num, rfl, ?_, hf7.1, HBL.out.trans hx7⟩
                  show _ = _
                  rw [hL7.out, hLe.out, HTK.out, List.append_assoc]
                case measure => simp [intOf]; omega
              · obtain rfl : k = zs.length := by omega
                have e1 : L = recsL t v xs t' v' ys := by rw [hLe.out, List.take_length, hM.out, hRR.out, HR3.out]
                have E1 := Lib.hid e1
                clear e1
                go_wp2_with fail
                go_ret
                rw [← E1.out]
                exact ⟨_, _, rfl, HF.out.1.mono (by omega), HW2.out.trans (HBL.out.mono (by omega))⟩
          · have hnil : zs = [] := by rw [hzs, hcc, List.drop_length]
            have HS : ∀ ad, Hid (Sl entE 2 w6 ad zs) := fun ad => .inl hnil
            have h0 : zs.length ≤ 0 := by rw [hnil]; simp
            have h00 : ys.length ≤ c := by omega
            clear hzs hzl hcc hnil
            go_wp2_with fail
            go_loopw [5, 74] (fun v i wr => ∃ (k : Nat) (av : Option Addr) (cv : Nat) (L : List ByteArray), k ≤ zs.length ∧ L.length ≤ k + 2 ∧ i = .int .i64 k ∧ v = .slice av L.length cv ∧ Hid (L = M ++ (zs.take k).map recE) ∧ Fresh strE 9 1 (w.heap.size + 2) (.slice av L.length cv) L wr ∧ Below (w.heap.size + 2) W2 wr) (fun _ i _ => zs.length - (intOf i).toNat)
            case atStart => exact ⟨0, _, _, M, Nat.zero_le _, by omega, rfl, rfl, by show _ = _; simp, HFM.out, HBM.out⟩
            case round =>
              obtain ⟨k, av, cv, L, hk, hLk, rfl, rfl, hLe, hf, hbel⟩ := hrel
              have HF := Lib.hid hf.here
              have HBL := Lib.hid hbel
              have hzr := hbel.size
              clear hf hbel
              by_cases hlt : k < zs.length
              · omega
              · obtain rfl : k = zs.length := by omega
                have e1 : L = recsL t v xs t' v' ys := by rw [hLe.out, List.take_length, hM.out, hRR.out, HR3.out]
                have E1 := Lib.hid e1
                clear e1
                go_wp2_with fail
                go_ret
                rw [← E1.out]
                exact ⟨_, _, rfl, HF.out.1.mono (by omega), HW2.out.trans (HBL.out.mono (by omega))⟩
          · have hnil : zs = [] := by rw [hzs, hcc, List.drop_length]
            have HS : ∀ ad, Hid (Sl entE 2 w6 ad zs) := fun ad => .inl hnil
            have h0 : zs.length ≤ 0 := by rw [hnil]; simp
            have h00 : ys.length ≤ c := by omega
            clear hzs hzl hcc hnil
            go_wp2_with fail
            go_loopw [5, 74] (fun v i wr => ∃ (k : Nat) (av : Option Addr) (cv : Nat) (L : List ByteArray), k ≤ zs.length ∧ L.length ≤ k + 2 ∧ i = .int .i64 k ∧ v = .slice av L.length cv ∧ Hid (L = M ++ (zs.take k).map recE) ∧ Fresh strE 9 1 (w.heap.size + 2) (.slice av L.length cv) L wr ∧ Below (w.heap.size + 2) W2 wr) (fun _ i _ => zs.length - (intOf i).toNat)
            case atStart => exact ⟨0, _, _, M, Nat.zero_le _, by omega, rfl, rfl, by show _ = _; simp, HFM.out, HBM.out⟩
            case round =>
              obtain ⟨k, av, cv, L, hk, hLk, rfl, rfl, hLe, hf, hbel⟩ := hrel
              have HF := Lib.hid hf.here
              have HBL := Lib.hid hbel
              have hzr := hbel.size
              clear hf hbel
              by_cases hlt : k < zs.length
              · omega
              · obtain rfl : k = zs.length := by omega
                have e1 : L = recsL t v xs t' v' ys := by rw [hLe.out, List.take_length, hM.out, hRR.out, HR3.out]
                have E1 := Lib.hid e1
                clear e1
                go_wp2_with fail
                go_ret
                rw [← E1.out]
                exact ⟨_, _, rfl, HF.out.1.mono (by omega), HW2.out.trans (HBL.out.mono (by omega))⟩
end Go.Proofs.Ytmdjcoeijlnloaa
