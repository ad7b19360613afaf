/- NodePropose: what its parts compute, and impl's parts. No conditions but sizes. -/
import Derived.Test.YtcakldgbhjkkfaaUp
import Derived.Test.YtcakldgbhjkkfaaMid
import Derived.Test.YtcakldgbhjkkfaaOwn2
import Derived.Test.YtcakldgbhjkkfaaTo
import Derived.Test.YtcakldgbhjkkfaaClu
import Derived.Lib.LazyBuf
import Derived.Deep.RegionHeld3
import Derived.Deep.RegionHeldLaw
import Derived.Test.YtcakldgbhjkkfaaClu3r
import Derived.Test.YtcakldgbhjkkfaaMarkNode4
import Derived.Test.YtcakldgbhjkkfaaHeldG
import Derived.Test.YtcakldgbhjkkfaaLong
namespace Go.Proofs.Ytcakldgbhjkkfaa
set_option linter.unusedVariables false
set_option linter.unusedSimpArgs false
section
open Go.RowKit
/-- How many of the first k nodes have position p, the node itself counted. -/
def haveN (id : Int) (M : List Int) (p : Int) : Nat → Nat
  | 0 => 1
  | k + 1 => haveN id M p k + (if (k : Int) ≠ id ∧ p ≤ M.getD k 0 then 1 else 0)
theorem haveN_le (id : Int) (M : List Int) (p : Int) (k : Nat) : haveN id M p k ≤ k + 1 := by
  induction k with
  | zero => simp [haveN]
  | succ k ih => simp only [haveN]; split <;> omega
/-- The node may commit position p. -/
def majB (N : NodeV) (p : Nat) : Bool := decide (N.nodes < 2 * (haveN N.id N.mtch p N.mtch.length : Int))
/-- What impl's advance leaves as the commit, from position p downwards. -/
def advI (N : NodeV) : Nat → Int
  | 0 => N.commit
  | p + 1 => if N.commit < (p : Int) + 1 then (if termOf N.log (p + 1) = N.term ∧ majB N (p + 1) = true then (p : Int) + 1 else advI N p) else N.commit
/-- .. and the reference's. -/
def advS (N : NodeV) : Nat → Int
  | 0 => N.commit
  | p + 1 => if N.commit < (p : Int) + 1 ∧ termOf N.log (p + 1) = N.term then (if majB N (p + 1) = true then (p : Int) + 1 else advS N p) else N.commit
theorem advI_none {N : NodeV} (p : Nat) (h : ∀ q, 1 ≤ q → q ≤ p → termOf N.log q ≠ N.term) : advI N p = N.commit := by
  induction p with
  | zero => rfl
  | succ p ih =>
    simp only [advI]
    rw [if_neg (c := termOf N.log (p + 1) = N.term ∧ _) (fun k => h (p + 1) (by omega) (Nat.le_refl _) k.1), ih (fun q h1 h2 => h q h1 (by omega))]
    simp
/-- Terms do not fall along the log, and none is above t. -/
def MonoAt (xs : List Ent) (t : Int) (k : Nat) : Prop := ∃ h : k < xs.length, xs[k].1 ≤ t ∧ ∀ h0 : 0 < k, xs[k - 1].1 ≤ xs[k].1
theorem EntAt.mono {xs : List Ent} {t : Int} {k : Nat} (h : EntAt xs t k) : MonoAt xs t k := by
  obtain ⟨h1, _, _, h4, h5⟩ := h
  exact ⟨h1, h4, h5⟩
theorem term_mono {xs : List Ent} {t : Int} (h : ∀ k, k < xs.length → MonoAt xs t k) (q p : Nat) (h1 : 1 ≤ q) (h2 : q ≤ p) (h3 : p ≤ xs.length) : termOf xs q ≤ termOf xs p := by
  induction p with
  | zero => omega
  | succ p ih =>
    rcases Nat.lt_or_ge p q with hq | hq
    · obtain rfl : q = p + 1 := by omega
      exact Int.le_refl _
    · refine Int.le_trans (ih hq (by omega)) ?_
      obtain ⟨h4, _, h5⟩ := h p (by omega)
      rw [termOf_pos (by omega) (by omega), termOf_pos (by omega) (by omega)]
      exact h5 (by omega)
theorem term_le {xs : List Ent} {t : Int} (h : ∀ k, k < xs.length → MonoAt xs t k) (p : Nat) (h1 : 1 ≤ p) (h3 : p ≤ xs.length) : termOf xs p ≤ t := by
  obtain ⟨h4, h5, _⟩ := h (p - 1) (by omega)
  rw [termOf_pos (by omega) (by omega)]
  exact h5
theorem adv_same {N : NodeV} (h : ∀ k, k < N.log.length → MonoAt N.log N.term k) (p : Nat) (hp : p ≤ N.log.length) : advI N p = advS N p := by
  induction p with
  | zero => rfl
  | succ p ih =>
    have ih := ih (by omega)
    by_cases hc : N.commit < (p : Int) + 1
    · by_cases ht : termOf N.log (p + 1) = N.term
      · simp only [advI, advS, hc, ht, true_and, and_self, if_true, ih]
      · have hn : advI N p = N.commit := advI_none p (fun q h1 h2 e => by
          have e1 := term_mono h q (p + 1) h1 (by omega) hp
          have e2 := term_le h (p + 1) (by omega) hp
          omega)
        simp only [advI, advS, hc, ht, false_and, and_false, if_false, if_true, hn]
    · simp [advI, advS, hc]
/-- The log with the new entry. -/
theorem mono_snoc {xs : List Ent} {t : Int} (h : ∀ k, k < xs.length → MonoAt xs t k) (d : ByteArray) : ∀ k, k < (xs ++ [(t, d)]).length → MonoAt (xs ++ [(t, d)]) t k := by
  intro k hk
  refine ⟨hk, ?_⟩
  by_cases hkl : k < xs.length
  · obtain ⟨h4, h7, h8⟩ := h k hkl
    rw [List.getElem_append_left hkl]
    refine ⟨h7, fun h0 => ?_⟩
    rw [List.getElem_append_left (by omega)]
    exact h8 h0
  · have hk2 : k = xs.length := by simp at hk; omega
    subst hk2
    simp only [List.getElem_append_right (Nat.le_refl _), Nat.sub_self, List.getElem_cons_zero]
    refine ⟨Int.le_refl _, fun h0 => ?_⟩
    rw [List.getElem_append_left (by omega)]
    obtain ⟨_, h7, _⟩ := h (xs.length - 1) (by omega)
    exact h7
end
section
open Go.RowKit
structure AdvR (B : Nat) (v : Int) (w w' : World) : Prop where
  mid : Mid B (B + 1) w w'
  cell : ∀ o, o ≠ 7 → w'.cell? ⟨B, o, none⟩ = w.cell? ⟨B, o, none⟩
  c7 : w'.cell? ⟨B, 7, none⟩ = some (.int .i64 v)
  fz : ∀ o, w'.frozen? ⟨B, o, none⟩ = w.frozen? ⟨B, o, none⟩
theorem AdvR.same {B : Nat} {v : Int} {w w' : World} (hB : B < w.heap.size) (hb : Below w.heap.size w w') (h7 : w'.cell? ⟨B, 7, none⟩ = some (.int .i64 v)) : AdvR B v w w' :=
  ⟨Mid.of_below _ _ hb, fun o _ => hb.cell (p := ⟨B, o, none⟩) hB, h7, fun o => hb.frozen (p := ⟨B, o, none⟩) hB⟩
theorem AdvR.set {B : Nat} {v v0 : Int} {w w' : World} (hB : B < w.heap.size) (hb : Below w.heap.size w w') (h7 : w'.cell? ⟨B, 7, none⟩ = some (.int .i64 v0)) : AdvR B v w (w'.setCell ⟨B, 7, none⟩ (.int .i64 v)) :=
  ⟨(Mid.of_below B (B + 1) hb).setCell (p := ⟨B, 7, none⟩) (Nat.le_refl B) (Nat.lt_succ_self B) _, fun o ho => (World.cell?_setCell_other _ _ _ _ (fun e => by cases e; exact ho rfl)).trans (hb.cell (p := ⟨B, o, none⟩) hB), by simp [go_sem, h7], fun o => (World.frozen?_setCell _ _ _ _).trans (hb.frozen (p := ⟨B, o, none⟩) hB)⟩
theorem advI_stop {N : NodeV} {q : Nat} (h : ¬ N.commit < (q : Int)) : advI N q = N.commit := by
  cases q with
  | zero => rfl
  | succ q => simp only [advI]; rw [if_neg (by simpa using h)]
theorem advI_yes {N : NodeV} {q : Nat} (h0 : 0 ≤ N.commit) (h : N.commit < (q : Int)) (h1 : termOf N.log q = N.term) (h2 : majB N q = true) : advI N q = q := by
  cases q with
  | zero => simp at h; omega
  | succ q => simp only [advI]; rw [if_pos (by simpa using h), if_pos ⟨h1, h2⟩]; simp
theorem advI_no {N : NodeV} {q : Nat} (h0 : 0 ≤ N.commit) (h : N.commit < (q : Int)) (h1 : termOf N.log q = N.term → majB N q = false) : advI N q = advI N (q - 1) := by
  cases q with
  | zero => simp at h; omega
  | succ q =>
    simp only [advI]
    rw [if_pos (by simpa using h), if_neg (fun k => by rw [h1 k.1] at k; simp at k)]
    rfl
set_option maxRecDepth 100000 in
set_option maxHeartbeats 8000000 in
theorem advance_c (B : Nat) (N : NodeV) (al am : Option Addr) (cl cm : Nat) (w : World) (hB : B < w.heap.size)
    (h0 : w.cell? ⟨B, 0, none⟩ = some (.int .i64 N.id)) (h1 : w.cell? ⟨B, 1, none⟩ = some (.int .i64 N.nodes)) (h2 : w.cell? ⟨B, 2, none⟩ = some (.int .i64 N.term)) (h6 : w.cell? ⟨B, 6, none⟩ = some (.slice al N.log.length cl)) (h7 : w.cell? ⟨B, 7, none⟩ = some (.int .i64 N.commit)) (h12 : w.cell? ⟨B, 12, none⟩ = some (.slice am N.mtch.length cm))
    (hf : ∀ o, w.frozen? ⟨B, o, none⟩ = false) (hL : Sl entE 2 w al N.log) (hM : Sl intE 1 w am N.mtch) (hZ : N.log.length ≤ 1048576) (hml : N.mtch.length ≤ 5) (hc : 0 ≤ N.commit) :
    Calls Try.prog 26 #[.pointer (some ⟨B, 0, none⟩)] w fun e w' => e = .returned (.tuple #[]) ∧ AdvR B (advI N N.log.length) w w' := by
  have HL := Lib.hid hL
  have HM := Lib.hid hM
  have HF := Lib.hid hf
  obtain ⟨V, hV⟩ : ∃ v, advI N N.log.length = v := ⟨_, rfl⟩
  have HV := Lib.hid hV
  rw [hV]
  clear hL hM hf hV
  go_enter Try.func26, Try.ntmps26
  go_wp2_with fail
  go_loopw [2] (fun p wr => ∃ q : Nat, q ≤ N.log.length ∧ p = .int .i64 q ∧ Hid (advI N q = V) ∧ Below w.heap.size w wr) (fun p _ => (intOf p).toNat)
  case atStart => exact ⟨N.log.length, Nat.le_refl _, rfl, HV.out, Below.refl _ _⟩
  case round =>
    obtain ⟨q, hq, rfl, HE, hbel⟩ := hrel
    have HBL := Lib.hid hbel
    have hzr := hbel.size
    have c0 : wr.cell? ⟨B, 0, none⟩ = some (.int .i64 N.id) := (hbel.cell (p := ⟨B, 0, none⟩) hB).trans h0
    have c1 : wr.cell? ⟨B, 1, none⟩ = some (.int .i64 N.nodes) := (hbel.cell (p := ⟨B, 1, none⟩) hB).trans h1
    have c2 : wr.cell? ⟨B, 2, none⟩ = some (.int .i64 N.term) := (hbel.cell (p := ⟨B, 2, none⟩) hB).trans h2
    have c6 : wr.cell? ⟨B, 6, none⟩ = some (.slice al N.log.length cl) := (hbel.cell (p := ⟨B, 6, none⟩) hB).trans h6
    have c7 : wr.cell? ⟨B, 7, none⟩ = some (.int .i64 N.commit) := (hbel.cell (p := ⟨B, 7, none⟩) hB).trans h7
    have c12 : wr.cell? ⟨B, 12, none⟩ = some (.slice am N.mtch.length cm) := (hbel.cell (p := ⟨B, 12, none⟩) hB).trans h12
    have cf : ∀ o, wr.frozen? ⟨B, o, none⟩ = false := fun o => (hbel.frozen (p := ⟨B, o, none⟩) hB).trans (HF.out o)
    clear hbel
    rename World => wo
    by_cases hg : N.commit < (q : Int)
    · go_wp2_with fail
      go_loopw [3, 24] (fun c i wr2 => ∃ k : Nat, k ≤ N.mtch.length ∧ i = .int .i64 k ∧ c = .int .i64 (haveN N.id N.mtch q k : Nat) ∧ Below wo.heap.size wo wr2) (fun _ i _ => N.mtch.length - (intOf i).toNat)
      case atStart => exact ⟨0, Nat.zero_le _, rfl, rfl, Below.refl _ _⟩
      case round =>
        obtain ⟨k, hk, rfl, rfl, hb2⟩ := hrel
        have HB2 := Lib.hid hb2
        have hz2 := hb2.size
        have d0 : wr.cell? ⟨B, 0, none⟩ = some (.int .i64 N.id) := (hb2.cell (p := ⟨B, 0, none⟩) (by show B < _; omega)).trans c0
        have d1 : wr.cell? ⟨B, 1, none⟩ = some (.int .i64 N.nodes) := (hb2.cell (p := ⟨B, 1, none⟩) (by show B < _; omega)).trans c1
        have d2 : wr.cell? ⟨B, 2, none⟩ = some (.int .i64 N.term) := (hb2.cell (p := ⟨B, 2, none⟩) (by show B < _; omega)).trans c2
        have d6 : wr.cell? ⟨B, 6, none⟩ = some (.slice al N.log.length cl) := (hb2.cell (p := ⟨B, 6, none⟩) (by show B < _; omega)).trans c6
        have d7 : wr.cell? ⟨B, 7, none⟩ = some (.int .i64 N.commit) := (hb2.cell (p := ⟨B, 7, none⟩) (by show B < _; omega)).trans c7
        have d12 : wr.cell? ⟨B, 12, none⟩ = some (.slice am N.mtch.length cm) := (hb2.cell (p := ⟨B, 12, none⟩) (by show B < _; omega)).trans c12
        have df : ∀ o, wr.frozen? ⟨B, o, none⟩ = false := fun o => (hb2.frozen (p := ⟨B, o, none⟩) (by show B < _; omega)).trans (cf o)
        have hle := haveN_le N.id N.mtch q k
        have hsu : haveN N.id N.mtch q (k + 1) = haveN N.id N.mtch q k + (if (k : Int) ≠ N.id ∧ (q : Int) ≤ N.mtch.getD k 0 then 1 else 0) := rfl
        have HSU := Lib.hid hsu
        clear hsu hb2
        obtain ⟨cc, hcc⟩ : ∃ cc, haveN N.id N.mtch q k = cc := ⟨_, rfl⟩
        have HCC := Lib.hid hcc
        rw [hcc] at hle HSU ⊢
        clear hcc
        by_cases hlt : k < N.mtch.length
        · obtain ⟨b1, o1, rfl, hb1, hc1⟩ := ((HM.out.keep HBL.out).keep HB2.out).at hlt
          have m1 := hc1 k hlt 0 (by omega)
          simp only [intE, Nat.mul_one, Nat.add_zero, List.getElem?_cons_zero] at m1
          have hgd : N.mtch.getD k 0 = N.mtch[k] := by simp [List.getD, hlt]
          rw [hgd] at HSU
          obtain ⟨mk, hmk⟩ : ∃ x, N.mtch[k] = x := ⟨_, rfl⟩
          rw [hmk] at m1 HSU
          clear hc1 hgd hmk
          by_cases e1 : (k : Int) = N.id
          · have g1 : ((k : Int) != N.id) = false := by simp [e1]
            have e1' : (k : Int) = N.id := e1
            have HE1 := Lib.hid e1'
            clear e1 e1'
            go_wp2_with fail
            go_roundw
            case rel => exact ⟨k + 1, by omega, by simp, by rw [HSU.out, if_neg (fun h => h.1 HE1.out)]; simp, HB2.out⟩
            case measure => simp [intOf]; omega
          · have g1 : ((k : Int) != N.id) = true := by simpa using e1
            have HE1 := Lib.hid e1
            clear e1
            by_cases e2 : (q : Int) ≤ mk
            · go_wp2_with fail
              go_roundw
              case rel => exact ⟨k + 1, by omega, by simp, by rw [HSU.out, if_pos ⟨HE1.out, e2⟩]; simp, HB2.out⟩
              case measure => simp [intOf]; omega
            · go_wp2_with fail
              go_roundw
              case rel => exact ⟨k + 1, by omega, by simp, by rw [HSU.out, if_neg (fun h => e2 h.2)]; simp, HB2.out⟩
              case measure => simp [intOf]; omega
        · have hkn : k = N.mtch.length := by omega
          have HMJ : Hid (majB N q = decide (N.nodes < 2 * (cc : Int))) := Lib.hid (by unfold majB; rw [← hkn, HCC.out])
          have hk' : N.mtch.length ≤ k := by omega
          clear hkn
          have hBr : B < wr.heap.size := by omega
          have HLr := Lib.hid ((HL.out.keep HBL.out).keep HB2.out)
          obtain ⟨tv, htv⟩ : ∃ t, termOf N.log q = t := ⟨_, rfl⟩
          have HTV := Lib.hid htv
          have HTA : Hid (∀ x, Calls Try.prog 47 #[.pointer (some ⟨B, 0, none⟩), .int .i64 q] (extW wr x) fun e w' => e = .returned (.int .i64 tv) ∧ extW wr x = w') := Lib.hid (fun x => by rw [← htv]; exact termAt_c B al cl N.log q _ ((extW_cell hBr _ 6).trans d6) (HLr.out.keep (extW_below _ _)) hZ hq)
          clear htv
          cases t1 : (tv == N.term)
          · have HT1 := Lib.hid t1
            go_wp2_with fail
            have xq0 := extW_cell (w := wr) (b := B) (by (try simp) <;> (try omega))
            refine wp_region_quietx (wr) rfl (by kernel_rfl) (by kernel_rfl) ?_
            repeat (go_big_quiet_step ((go_at_call 47; exact Calls.quietx_same (HTA.out _))))
            refine wpQuiet_nil ?_
            intro _ hw'
            obtain ⟨xq, hw''⟩ := hw'
            subst hw''
            have hbq := extW_below (wr) xq
            generalize extW (wr) xq = wq at hbq ⊢
            clear xq0
            go_wp2_with fail
            go_roundw
            case rel =>
              refine ⟨q - 1, by omega, by rw [show ((q - 1 : Nat) : Int) = (q : Int) - 1 from by omega], ?_, HBL.out.trans ((HB2.out.mono (by omega)).trans (hbq.mono (by omega)))⟩
              show advI N (q - 1) = V
              rw [← HE.out]
              exact (advI_no hc hg (fun e => by have h := HT1.out; rw [← HTV.out, e] at h; simp at h)).symm
            case measure => simp [intOf]; omega
          · cases t2 : decide (N.nodes < 2 * (cc : Int))
            · have HT2 := Lib.hid t2
              go_wp2_with fail
              have xq0 := extW_cell (w := wr) (b := B) (by (try simp) <;> (try omega))
              refine wp_region_quietx (wr) rfl (by kernel_rfl) (by kernel_rfl) ?_
              repeat (go_big_quiet_step ((go_at_call 47; exact Calls.quietx_same (HTA.out _))))
              refine wpQuiet_nil ?_
              intro _ hw'
              obtain ⟨xq, hw''⟩ := hw'
              subst hw''
              have hbq := extW_below (wr) xq
              generalize extW (wr) xq = wq at hbq ⊢
              clear xq0
              go_wp2_with fail
              go_roundw
              case rel =>
                refine ⟨q - 1, by omega, by rw [show ((q - 1 : Nat) : Int) = (q : Int) - 1 from by omega], ?_, HBL.out.trans ((HB2.out.mono (by omega)).trans (hbq.mono (by omega)))⟩
                show advI N (q - 1) = V
                rw [← HE.out]
                exact (advI_no hc hg (fun e => by rw [HMJ.out]; exact HT2.out)).symm
              case measure => simp [intOf]; omega
            · have HT1 := Lib.hid t1
              have HT2 := Lib.hid t2
              go_wp2_with fail
              have xq0 := extW_cell (w := wr) (b := B) (by (try simp) <;> (try omega))
              refine wp_region_quietx (wr) rfl (by kernel_rfl) (by kernel_rfl) ?_
              repeat (go_big_quiet_step ((go_at_call 47; exact Calls.quietx_same (HTA.out _))))
              refine wpQuiet_nil ?_
              intro _ hw'
              obtain ⟨xq, hw''⟩ := hw'
              subst hw''
              have hbq := extW_below (wr) xq
              generalize extW (wr) xq = wq at hbq ⊢
              clear xq0
              have s7 : wq.cell? ⟨B, 7, none⟩ = some (.int .i64 N.commit) := (hbq.cell (p := ⟨B, 7, none⟩) hBr).trans d7
              have sf : ∀ o, wq.frozen? ⟨B, o, none⟩ = false := fun o => (hbq.frozen (p := ⟨B, o, none⟩) hBr).trans (df o)
              have HBQ := Lib.hid (HBL.out.trans ((HB2.out.mono (by omega)).trans (hbq.mono (by omega))))
              clear hbq
              go_wp2_with fail
              refine bodyPost_ret (v := .tuple #[]) (by simp [results, Try.results26]) rfl ?_
              have e1 := advI_yes hc hg (by rw [HTV.out]; simpa using HT1.out) (by rw [HMJ.out]; exact HT2.out)
              rw [HE.out] at e1
              rw [e1]
              exact ⟨rfl, AdvR.set hB HBQ.out s7⟩
    · go_wp2_with fail
      refine bodyPost_end (v := .tuple #[]) (by simp [results, Try.results26]) rfl ?_
      have e1 := advI_stop (N := N) (q := q) (by omega)
      rw [HE.out] at e1
      exact ⟨rfl, AdvR.same hB HBL.out (by rw [e1]; exact c7)⟩
end
section
open Go.RowKit
set_option maxHeartbeats 1000000 in
theorem l01Bit_c (b : Bool) (w : World) : Calls Try.prog 52 #[.bool b] w fun e w' => e = .returned (.int .i64 (if b = true then 1 else 0)) ∧ w = w' := by
  cases b
  all_goals
    go_enter Try.func52, Try.ntmps52
    go_wp2_with fail
    go_ret
    exact ⟨rfl, rfl⟩
theorem advS_stop {N : NodeV} {q : Nat} (h : ¬ (N.commit < (q : Int) ∧ termOf N.log q = N.term)) : advS N q = N.commit := by
  cases q with
  | zero => rfl
  | succ q => simp only [advS]; rw [if_neg (by simpa using h)]
theorem advS_yes {N : NodeV} {q : Nat} (h0 : 0 ≤ N.commit) (h : N.commit < (q : Int)) (h1 : termOf N.log q = N.term) (h2 : majB N q = true) : advS N q = q := by
  cases q with
  | zero => simp at h; omega
  | succ q => simp only [advS]; rw [if_pos ⟨by simpa using h, h1⟩, if_pos h2]; simp
theorem advS_no {N : NodeV} {q : Nat} (h0 : 0 ≤ N.commit) (h : N.commit < (q : Int)) (h1 : termOf N.log q = N.term) (h2 : majB N q = false) : advS N q = advS N (q - 1) := by
  cases q with
  | zero => simp at h; omega
  | succ q => simp only [advS]; rw [if_pos ⟨by simpa using h, h1⟩, if_neg (by rw [h2]; simp)]; rfl
set_option maxRecDepth 100000 in
set_option maxHeartbeats 8000000 in
theorem advanceS_c (B : Nat) (N : NodeV) (al am : Option Addr) (cl cm : Nat) (w : World) (hB : B < w.heap.size)
    (h0 : w.cell? ⟨B, 0, none⟩ = some (.int .i64 N.id)) (h1 : w.cell? ⟨B, 1, none⟩ = some (.int .i64 N.nodes)) (h2 : w.cell? ⟨B, 2, none⟩ = some (.int .i64 N.term)) (h6 : w.cell? ⟨B, 6, none⟩ = some (.slice al N.log.length cl)) (h7 : w.cell? ⟨B, 7, none⟩ = some (.int .i64 N.commit)) (h12 : w.cell? ⟨B, 12, none⟩ = some (.slice am N.mtch.length cm))
    (hf : ∀ o, w.frozen? ⟨B, o, none⟩ = false) (hL : Sl entE 2 w al N.log) (hM : Sl intE 1 w am N.mtch) (hZ : N.log.length ≤ 1048576) (hml : (N.mtch.length : Int) = N.nodes) (hn5 : N.nodes ≤ 5) (hc : 0 ≤ N.commit) :
    Calls Try.prog 39 #[.pointer (some ⟨B, 0, none⟩)] w fun e w' => e = .returned (.tuple #[]) ∧ AdvR B (advS N N.log.length) w w' := by
  have HL := Lib.hid hL
  have HM := Lib.hid hM
  have HF := Lib.hid hf
  have HML := Lib.hid hml
  obtain ⟨V, hV⟩ : ∃ v, advS N N.log.length = v := ⟨_, rfl⟩
  have HV := Lib.hid hV
  rw [hV]
  clear hL hM hf hV hml
  go_enter Try.func39, Try.ntmps39
  go_wp2_with fail
  go_loopw [2] (fun p wr => ∃ q : Nat, q ≤ N.log.length ∧ p = .int .i64 q ∧ Hid (advS N q = V) ∧ Below w.heap.size w wr) (fun p _ => (intOf p).toNat)
  case atStart => exact ⟨N.log.length, Nat.le_refl _, rfl, HV.out, Below.refl _ _⟩
  case round =>
    obtain ⟨q, hq, rfl, HE, hbel⟩ := hrel
    have HBL := Lib.hid hbel
    have hzr := hbel.size
    have c0 : wr.cell? ⟨B, 0, none⟩ = some (.int .i64 N.id) := (hbel.cell (p := ⟨B, 0, none⟩) hB).trans h0
    have c1 : wr.cell? ⟨B, 1, none⟩ = some (.int .i64 N.nodes) := (hbel.cell (p := ⟨B, 1, none⟩) hB).trans h1
    have c2 : wr.cell? ⟨B, 2, none⟩ = some (.int .i64 N.term) := (hbel.cell (p := ⟨B, 2, none⟩) hB).trans h2
    have c6 : wr.cell? ⟨B, 6, none⟩ = some (.slice al N.log.length cl) := (hbel.cell (p := ⟨B, 6, none⟩) hB).trans h6
    have c7 : wr.cell? ⟨B, 7, none⟩ = some (.int .i64 N.commit) := (hbel.cell (p := ⟨B, 7, none⟩) hB).trans h7
    have c12 : wr.cell? ⟨B, 12, none⟩ = some (.slice am N.mtch.length cm) := (hbel.cell (p := ⟨B, 12, none⟩) hB).trans h12
    have cf : ∀ o, wr.frozen? ⟨B, o, none⟩ = false := fun o => (hbel.frozen (p := ⟨B, o, none⟩) hB).trans (HF.out o)
    clear hbel
    rename World => wo
    have hBo : B < wo.heap.size := by omega
    by_cases hg : N.commit < (q : Int)
    · have hlt : q - 1 < N.log.length := by omega
      have h1q : 1 ≤ q := by omega
      obtain ⟨b1, o1, rfl, hb1, hc1⟩ := (HL.out.keep HBL.out).at hlt
      have m0 := hc1 (q - 1) hlt 0 (by omega)
      simp only [entE, Nat.add_zero, List.getElem?_cons_zero] at m0
      obtain ⟨tv, htv⟩ : ∃ t, (N.log[q - 1]'hlt).1 = t := ⟨_, rfl⟩
      have HTV : Hid (termOf N.log q = tv) := Lib.hid (by rw [termOf_pos (by omega) hlt]; exact htv)
      rw [htv] at m0
      clear hc1 htv
      cases t1 : (tv == N.term)
      · have HT1 := Lib.hid t1
        go_wp2_with fail
        have xq0 := extW_cell (w := wo) (b := B) (by (try simp) <;> (try omega))
        have xq1 := extW_cell (w := wo) (b := b1) (by (try simp) <;> (try omega))
        refine wp_region_quietx (wo) rfl (by kernel_rfl) (by kernel_rfl) ?_
        repeat (go_big_quiet_step (fail))
        refine wpQuiet_nil ?_
        intro _ hw'
        obtain ⟨xq, hw''⟩ := hw'
        subst hw''
        have hbq := extW_below (wo) xq
        generalize extW (wo) xq = wq at hbq ⊢
        clear xq0
        clear xq1
        go_wp2_with fail
        refine bodyPost_end (v := .tuple #[]) (by simp [results, Try.results39]) rfl ?_
        have e1 := advS_stop (N := N) (q := q) (fun h => by have h3 := HT1.out; rw [← HTV.out, h.2] at h3; simp at h3)
        rw [HE.out] at e1
        exact ⟨rfl, AdvR.same hB (HBL.out.trans (hbq.mono (by omega))) (by rw [e1]; exact (hbq.cell (p := ⟨B, 7, none⟩) hBo).trans c7)⟩
      · have HT1 := Lib.hid t1
        go_wp2_with fail
        have xq0 := extW_cell (w := wo) (b := B) (by (try simp) <;> (try omega))
        have xq1 := extW_cell (w := wo) (b := b1) (by (try simp) <;> (try omega))
        refine wp_region_quietx (wo) rfl (by kernel_rfl) (by kernel_rfl) ?_
        repeat (go_big_quiet_step (fail))
        refine wpQuiet_nil ?_
        intro _ hw'
        obtain ⟨xq, hw''⟩ := hw'
        subst hw''
        have hbq := extW_below (wo) xq
        generalize extW (wo) xq = wq at hbq ⊢
        clear xq0
        clear xq1
        have hzq := hbq.size
        have x0 : wq.cell? ⟨B, 0, none⟩ = some (.int .i64 N.id) := (hbq.cell (p := ⟨B, 0, none⟩) hBo).trans c0
        have x1 : wq.cell? ⟨B, 1, none⟩ = some (.int .i64 N.nodes) := (hbq.cell (p := ⟨B, 1, none⟩) hBo).trans c1
        have x2 : wq.cell? ⟨B, 2, none⟩ = some (.int .i64 N.term) := (hbq.cell (p := ⟨B, 2, none⟩) hBo).trans c2
        have x6 : wq.cell? ⟨B, 6, none⟩ = some (.slice (some ⟨b1, o1, none⟩) N.log.length cl) := (hbq.cell (p := ⟨B, 6, none⟩) hBo).trans c6
        have x7 : wq.cell? ⟨B, 7, none⟩ = some (.int .i64 N.commit) := (hbq.cell (p := ⟨B, 7, none⟩) hBo).trans c7
        have x12 : wq.cell? ⟨B, 12, none⟩ = some (.slice am N.mtch.length cm) := (hbq.cell (p := ⟨B, 12, none⟩) hBo).trans c12
        have xf : ∀ o, wq.frozen? ⟨B, o, none⟩ = false := fun o => (hbq.frozen (p := ⟨B, o, none⟩) hBo).trans (cf o)
        have HBQ := Lib.hid hbq
        clear hbq
        go_wp2_with fail
        go_loopw [3, 4] (fun c i wr2 => ∃ k : Nat, k ≤ N.mtch.length ∧ i = .int .i64 k ∧ c = .int .i64 (haveN N.id N.mtch q k : Nat) ∧ Below wq.heap.size wq wr2) (fun _ i _ => N.mtch.length - (intOf i).toNat)
        case atStart => exact ⟨0, Nat.zero_le _, rfl, rfl, Below.refl _ _⟩
        case round =>
          obtain ⟨k, hk, rfl, rfl, hb2⟩ := hrel
          have HB2 := Lib.hid hb2
          have hz2 := hb2.size
          have d0 : wr.cell? ⟨B, 0, none⟩ = some (.int .i64 N.id) := (hb2.cell (p := ⟨B, 0, none⟩) (by show B < _; omega)).trans x0
          have d1 : wr.cell? ⟨B, 1, none⟩ = some (.int .i64 N.nodes) := (hb2.cell (p := ⟨B, 1, none⟩) (by show B < _; omega)).trans x1
          have d2 : wr.cell? ⟨B, 2, none⟩ = some (.int .i64 N.term) := (hb2.cell (p := ⟨B, 2, none⟩) (by show B < _; omega)).trans x2
          have d6 : wr.cell? ⟨B, 6, none⟩ = some (.slice (some ⟨b1, o1, none⟩) N.log.length cl) := (hb2.cell (p := ⟨B, 6, none⟩) (by show B < _; omega)).trans x6
          have d7 : wr.cell? ⟨B, 7, none⟩ = some (.int .i64 N.commit) := (hb2.cell (p := ⟨B, 7, none⟩) (by show B < _; omega)).trans x7
          have d12 : wr.cell? ⟨B, 12, none⟩ = some (.slice am N.mtch.length cm) := (hb2.cell (p := ⟨B, 12, none⟩) (by show B < _; omega)).trans x12
          have df : ∀ o, wr.frozen? ⟨B, o, none⟩ = false := fun o => (hb2.frozen (p := ⟨B, o, none⟩) (by show B < _; omega)).trans (xf o)
          have hle := haveN_le N.id N.mtch q k
          have hsu : haveN N.id N.mtch q (k + 1) = haveN N.id N.mtch q k + (if (k : Int) ≠ N.id ∧ (q : Int) ≤ N.mtch.getD k 0 then 1 else 0) := rfl
          have HSU := Lib.hid hsu
          clear hsu hb2
          obtain ⟨cc, hcc⟩ : ∃ cc, haveN N.id N.mtch q k = cc := ⟨_, rfl⟩
          have HCC := Lib.hid hcc
          rw [hcc] at hle HSU ⊢
          clear hcc
          by_cases hln : (k : Int) < N.nodes
          · have hlt2 : k < N.mtch.length := by have := HML.out; omega
            obtain ⟨b2, o2, rfl, hb2, hc2⟩ := (((HM.out.keep HBL.out).keep HBQ.out).keep HB2.out).at hlt2
            have m1 := hc2 k hlt2 0 (by omega)
            simp only [intE, Nat.mul_one, Nat.add_zero, List.getElem?_cons_zero] at m1
            have hgd : N.mtch.getD k 0 = N.mtch[k] := by simp [List.getD, hlt2]
            rw [hgd] at HSU
            obtain ⟨mk, hmk⟩ : ∃ x, N.mtch[k] = x := ⟨_, rfl⟩
            rw [hmk] at m1 HSU
            clear hc2 hgd hmk
            by_cases e1 : (k : Int) = N.id
            · have g1 : ((k : Int) != N.id) = false := by simp [e1]
              have e1' : (k : Int) = N.id := e1
              have HE1 := Lib.hid e1'
              clear e1 e1'
              go_wp2_with (go_at_call 52; refine (l01Bit_c _ _).mono ?_; rintro e w' ⟨rfl, rfl⟩)
              go_roundw
              case rel => exact ⟨k + 1, by omega, by simp, by rw [HSU.out, if_neg (fun h => h.1 HE1.out)]; simp, HB2.out⟩
              case measure => simp [intOf]; omega
            · have g1 : ((k : Int) != N.id) = true := by simpa using e1
              have HE1 := Lib.hid e1
              clear e1
              by_cases e2 : (q : Int) ≤ mk
              · go_wp2_with (go_at_call 52; refine (l01Bit_c _ _).mono ?_; rintro e w' ⟨rfl, rfl⟩)
                go_roundw
                case rel => exact ⟨k + 1, by omega, by simp, by rw [HSU.out, if_pos ⟨HE1.out, e2⟩]; simp, HB2.out⟩
                case measure => simp [intOf]; omega
              · have HE2 := Lib.hid e2
                go_wp2_with (go_at_call 52; refine (l01Bit_c _ _).mono ?_; rintro e w' ⟨rfl, rfl⟩)
                go_roundw
                case rel => exact ⟨k + 1, by omega, by simp, by rw [HSU.out, if_neg (fun h => absurd h.2 (by have := HE2.out; omega))]; simp, HB2.out⟩
                case measure => simp [intOf]; omega
          · have hkn : k = N.mtch.length := by have := HML.out; omega
            have HMJ : Hid (majB N q = decide (N.nodes < 2 * (cc : Int))) := Lib.hid (by unfold majB; rw [← hkn, HCC.out])
            have hcc6 : cc ≤ 6 := by have := HML.out; omega
            have hnk : N.nodes ≤ (k : Int) := by omega
            clear hkn
            cases t2 : decide (N.nodes < 2 * (cc : Int))
            · have HT2 := Lib.hid t2
              go_wp2_with fail
              go_roundw
              case rel =>
                refine ⟨q - 1, by omega, by rw [show ((q - 1 : Nat) : Int) = (q : Int) - 1 from by omega], ?_, HBL.out.trans ((HBQ.out.mono (by omega)).trans (HB2.out.mono (by omega)))⟩
                show advS N (q - 1) = V
                rw [← HE.out]
                exact (advS_no hc hg (by rw [HTV.out]; simpa using HT1.out) (by rw [HMJ.out]; exact HT2.out)).symm
              case measure => simp [intOf]; omega
            · have HT2 := Lib.hid t2
              go_wp2_with fail
              refine bodyPost_ret (v := .tuple #[]) (by simp [results, Try.results39]) rfl ?_
              have e1 := advS_yes hc hg (by rw [HTV.out]; simpa using HT1.out) (by rw [HMJ.out]; exact HT2.out)
              rw [HE.out] at e1
              rw [e1]
              exact ⟨rfl, AdvR.set hB (HBL.out.trans ((HBQ.out.mono (by omega)).trans (HB2.out.mono (by omega)))) d7⟩
    · have hg2 : decide (N.commit < (q : Int)) = false := decide_eq_false hg
      have HG := Lib.hid hg
      clear hg
      go_wp2_with fail
      have xq0 := extW_cell (w := wo) (b := B) (by (try simp) <;> (try omega))
      refine wp_region_quietx (wo) rfl (by kernel_rfl) (by kernel_rfl) ?_
      repeat (go_big_quiet_step (fail))
      refine wpQuiet_nil ?_
      intro _ hw'
      obtain ⟨xq, hw''⟩ := hw'
      subst hw''
      have hbq := extW_below (wo) xq
      generalize extW (wo) xq = wq at hbq ⊢
      clear xq0
      go_wp2_with fail
      refine bodyPost_end (v := .tuple #[]) (by simp [results, Try.results39]) rfl ?_
      have e1 := advS_stop (N := N) (q := q) (fun h => absurd h.1 (by have := HG.out; omega))
      rw [HE.out] at e1
      exact ⟨rfl, AdvR.same hB (HBL.out.trans (hbq.mono (by omega))) (by rw [e1]; exact (hbq.cell (p := ⟨B, 7, none⟩) hBo).trans c7)⟩
end
section
open Go.RowKit
theorem entOne : ∀ (x : Ent), ∀ u ∈ entE x, u.oneCell' = true := fun x u hu => by simp [entE] at hu; rcases hu with rfl | rfl <;> rfl
theorem intOne : ∀ (x : Int), ∀ u ∈ intE x, u.oneCell' = true := fun x u hu => by simp [intE] at hu; subst hu; rfl
theorem fresh_mdE (w : World) (B : Nat) (hB : B ≤ w.heap.size) : Fresh entE 48 2 B (.slice (some ⟨w.heap.size, 0, none⟩) 0 0) [] (w.alloc (.cells #[] 48)) :=
  Fresh.of_own (World.ownsRow_made (base := B) w #[] 0 hB (by decide) rfl) rfl rfl
theorem fresh_mdI (w : World) (B : Nat) (hB : B ≤ w.heap.size) : Fresh intE 3 1 B (.slice (some ⟨w.heap.size, 0, none⟩) 0 0) [] (w.alloc (.cells #[] 3)) :=
  Fresh.of_own (World.ownsRow_made (base := B) w #[] 0 hB (by decide) rfl) rfl rfl
set_option maxRecDepth 100000 in
set_option maxHeartbeats 4000000 in
theorem cloneE_c (a : Option Addr) (ca : Nat) (xs : List Ent) (w : World) (ha : Sl entE 2 w a xs) (la : xs.length ≤ 1048576) :
    Calls Try.prog 45 #[.slice a xs.length ca] w (FreshR entE 48 2 w xs) := by
  obtain ⟨i0, hi, hz0, hz1, hz2⟩ := info_parts Try.infoEntry
  cases a with
  | none =>
    obtain rfl : xs = [] := by
      rcases ha with h | ⟨b, o, h, _⟩
      · exact h
      · cases h
    clear ha
    have hnil : ∀ w, (binOp .eql 27 (.slice none 0 ca) (.slice none 0 0)).run Try.prog w = .ok (.bool true) w := fun w => Lib.run_eql_slice_nil w _ _ _ _ _ _ _ Try.underlying27
    go_enter Try.func45, Try.ntmps45
    go_wp2_with fail
    go_ret
    exact ⟨_, rfl, (FreshIn.nil _ _ _ _ 0 _).1, Below.refl _ _⟩
  | some p =>
    have HA := Lib.hid (ha.alloc (.cells #[] 48))
    have h0 := (fresh_mdE w w.heap.size (Nat.le_refl _)).here
    simp only [World.size_alloc] at h0
    have HF := Lib.hid h0
    clear h0
    have hnil : ∀ w, (binOp .eql 27 (.slice (some p) xs.length ca) (.slice none 0 0)).run Try.prog w = .ok (.bool false) w := fun w => Lib.run_eql_slice_nil w _ _ _ _ _ _ _ Try.underlying27
    go_enter Try.func45, Try.ntmps45
    go_wp2_with (first
      | (skip
         at_builtin
         refine wpList_append_fresh rfl (.tmp 5) (.tmp 6) 27 27 rfl (w.heap.size) (w.heap.size + 1) 48 i0 (.agg #[.int .i64 0, .string ⟨#[]⟩]) 2 24 Try.underlying27 hi hz0 hz1 hz2 rfl (by decide) (.slice (some ⟨w.heap.size, 0, none⟩) 0 0) ([]) rfl (HF.out) _ (xs) rfl (Src.ofSl (enc := entE) (sz := 2) (xs := xs) Try.underlying27 (fun _ => rfl) entOne HA.out ca) (by (try simp) <;> (try omega)) (by (try simp) <;> (try omega)) ?_
         intro a1 c1 w1 L1 hL1 hf1 hm1
         skip))
    go_ret
    obtain rfl : L1 = xs := by simpa using hL1.out
    exact ⟨_, rfl, hf1.1, ((Below.refl w.heap.size w).alloc (Nat.le_refl _) (.cells #[] 48)).trans (hm1.below (by omega) (by simp))⟩
set_option maxRecDepth 100000 in
set_option maxHeartbeats 4000000 in
theorem cloneI_c (a : Option Addr) (ca : Nat) (xs : List Int) (w : World) (ha : Sl intE 1 w a xs) (la : xs.length ≤ 1048576) :
    Calls Try.prog 46 #[.slice a xs.length ca] w (FreshR intE 3 1 w xs) := by
  obtain ⟨i0, hi, hz0, hz1, hz2⟩ := info_parts Try.infoInt
  cases a with
  | none =>
    obtain rfl : xs = [] := by
      rcases ha with h | ⟨b, o, h, _⟩
      · exact h
      · cases h
    clear ha
    have hnil : ∀ w, (binOp .eql 23 (.slice none 0 ca) (.slice none 0 0)).run Try.prog w = .ok (.bool true) w := fun w => Lib.run_eql_slice_nil w _ _ _ _ _ _ _ Try.underlying23
    go_enter Try.func46, Try.ntmps46
    go_wp2_with fail
    go_ret
    exact ⟨_, rfl, (FreshIn.nil _ _ _ _ 0 _).1, Below.refl _ _⟩
  | some p =>
    have HA := Lib.hid (ha.alloc (.cells #[] 3))
    have h0 := (fresh_mdI w w.heap.size (Nat.le_refl _)).here
    simp only [World.size_alloc] at h0
    have HF := Lib.hid h0
    clear h0
    have hnil : ∀ w, (binOp .eql 23 (.slice (some p) xs.length ca) (.slice none 0 0)).run Try.prog w = .ok (.bool false) w := fun w => Lib.run_eql_slice_nil w _ _ _ _ _ _ _ Try.underlying23
    go_enter Try.func46, Try.ntmps46
    go_wp2_with (first
      | (skip
         at_builtin
         refine wpList_append_fresh rfl (.tmp 5) (.tmp 6) 23 23 rfl (w.heap.size) (w.heap.size + 1) 3 i0 (.int .i64 0) 1 8 Try.underlying23 hi hz0 hz1 hz2 rfl (by decide) (.slice (some ⟨w.heap.size, 0, none⟩) 0 0) ([]) rfl (HF.out) _ (xs) rfl (Src.ofSl (enc := intE) (sz := 1) (xs := xs) Try.underlying23 (fun _ => rfl) intOne HA.out ca) (by (try simp) <;> (try omega)) (by (try simp) <;> (try omega)) ?_
         intro a1 c1 w1 L1 hL1 hf1 hm1
         skip))
    go_ret
    obtain rfl : L1 = xs := by simpa using hL1.out
    exact ⟨_, rfl, hf1.1, ((Below.refl w.heap.size w).alloc (Nat.le_refl _) (.cells #[] 3)).trans (hm1.below (by omega) (by simp))⟩
set_option maxRecDepth 100000 in
set_option maxHeartbeats 8000000 in
theorem message_c (B : Nat) (id term k to : Int) (w : World) (hB : B < w.heap.size) (h0 : w.cell? ⟨B, 0, none⟩ = some (.int .i64 id)) (h2 : w.cell? ⟨B, 2, none⟩ = some (.int .i64 term)) :
    Calls Try.prog 56 #[.pointer (some ⟨B, 0, none⟩), .int .i64 k, .int .i64 to] w fun e w' => e = .returned (.agg #[.int .i64 k, .int .i64 id, .int .i64 to, .int .i64 term, .int .i64 0, .int .i64 0, .int .i64 0, .bool false, .slice none 0 0]) ∧ Below w.heap.size w w' := by
  have q0 : ∀ x, (w.alloc x).cell? ⟨B, 0, none⟩ = some (.int .i64 id) := fun x => (World.cell?_alloc_lt _ _ _ hB).trans h0
  have q2 : ∀ x, (w.alloc x).cell? ⟨B, 2, none⟩ = some (.int .i64 term) := fun x => (World.cell?_alloc_lt _ _ _ hB).trans h2
  go_enter Try.func56, Try.ntmps56
  go_wp2_with fail
  go_region_held3 (fun w' => w'.cell? ⟨B, 0, none⟩ = some (.int .i64 id) ∧ w'.cell? ⟨B, 2, none⟩ = some (.int .i64 term))
    (first | go_keep | (exact ⟨q0 _, q2 _⟩) | ((repeat' apply And.intro) <;> assumption))
    (fail)
  go_wp2_with fail
  refine bodyPost_ret (v := .agg #[.int .i64 k, .int .i64 id, .int .i64 to, .int .i64 term, .int .i64 0, .int .i64 0, .int .i64 0, .bool false, .slice none 0 0]) (by simp [results, Try.results56, go_sem]) rfl ⟨rfl, ?_⟩
  exact ((Below.refl w.heap.size w).alloc (Nat.le_refl _) _).drew
/-- The message by which a node replicates to another one. -/
def replM (N : NodeV) (to p : Nat) : MsgV := ⟨3, N.id, to, N.term, p, termOf N.log p, N.commit, false, N.log.drop p⟩
theorem Sl.dropE {w : World} {g n : Nat} {xs : List Ent} (h : Sl entE 2 w (some ⟨g, 0, none⟩) xs) : Sl entE 2 w (some ⟨g, n * 2, none⟩) (xs.drop n) := by
  rcases h with h | ⟨b, off, he, hlt, hc⟩
  · exact .inl (by rw [h]; simp)
  · simp only [Option.some.injEq, Addr.mk.injEq] at he
    obtain ⟨rfl, rfl, _⟩ := he
    refine .inr ⟨g, n * 2, rfl, hlt, fun i hi j hj => ?_⟩
    have hi' : n + i < xs.length := by simp at hi; omega
    have h1 := hc (n + i) hi' j hj
    rw [List.getElem_drop]
    rw [← h1]
    congr 2
    omega
def ReplR (N : NodeV) (to p : Nat) (w : World) (e : Ending) (w' : World) : Prop :=
  ∃ ae ce, e = .returned (.agg #[.int .i64 3, .int .i64 N.id, .int .i64 to, .int .i64 N.term, .int .i64 p, .int .i64 (termOf N.log p), .int .i64 N.commit, .bool false, .slice ae (N.log.drop p).length ce]) ∧ FreshIn entE 48 2 w.heap.size w'.heap.size (.slice ae (N.log.drop p).length ce) (N.log.drop p) w' ∧ Below w.heap.size w w'
set_option maxRecDepth 100000 in
set_option maxHeartbeats 8000000 in
theorem replicate_c (B g : Nat) (N : NodeV) (an : Option Addr) (cl cn to p : Nat) (w : World) (hB : B < w.heap.size)
    (h0 : w.cell? ⟨B, 0, none⟩ = some (.int .i64 N.id)) (h2 : w.cell? ⟨B, 2, none⟩ = some (.int .i64 N.term)) (h6 : w.cell? ⟨B, 6, none⟩ = some (.slice (some ⟨g, 0, none⟩) N.log.length cl)) (h7 : w.cell? ⟨B, 7, none⟩ = some (.int .i64 N.commit)) (h11 : w.cell? ⟨B, 11, none⟩ = some (.slice an N.next.length cn))
    (hL : Sl entE 2 w (some ⟨g, 0, none⟩) N.log) (hX : Sl intE 1 w an N.next) (hZ : N.log.length ≤ 1048576) (hto : to < N.next.length) (hnx : N.next[to] = (p : Int) + 1) (hp : p < N.log.length) (hcl : N.log.length ≤ cl) :
    Calls Try.prog 48 #[.pointer (some ⟨B, 0, none⟩), .int .i64 to] w (ReplR N to p w) := by
  obtain ⟨b1, o1, rfl, hb1, hc1⟩ := hX.at hto
  have x0 := hc1 to hto 0 (by omega)
  simp only [intE, Nat.mul_one, Nat.add_zero, List.getElem?_cons_zero, hnx] at x0
  have HL := Lib.hid hL
  clear hL hX hc1 hnx
  have hp6 : p ≤ 1048576 := by omega
  have hne : ¬ cl = p := by omega
  go_enter Try.func48, Try.ntmps48
  go_wp2_with fail
  refine (message_c B N.id N.term 3 to _ (by simp; omega) ((World.cell?_alloc_lt _ _ _ hB).trans h0) ((World.cell?_alloc_lt _ _ _ hB).trans h2)).mono ?_
  rintro e w1 ⟨rfl, hb⟩
  have hz1 := hb.size
  simp only [World.size_alloc] at hz1
  have HB1 := Lib.hid (((Below.refl w.heap.size w).alloc (Nat.le_refl _) (.cells #[.int .i64 0, .int .i64 0, .int .i64 0, .int .i64 0, .int .i64 0, .int .i64 0, .int .i64 0, .bool false, .slice none 0 0] 54)).trans (hb.mono (by simp)))
  have c0 : w1.cell? ⟨B, 0, none⟩ = some (.int .i64 N.id) := (HB1.out.cell (p := ⟨B, 0, none⟩) hB).trans h0
  have c2 : w1.cell? ⟨B, 2, none⟩ = some (.int .i64 N.term) := (HB1.out.cell (p := ⟨B, 2, none⟩) hB).trans h2
  have c6 : w1.cell? ⟨B, 6, none⟩ = some (.slice (some ⟨g, 0, none⟩) N.log.length cl) := (HB1.out.cell (p := ⟨B, 6, none⟩) hB).trans h6
  have c7 : w1.cell? ⟨B, 7, none⟩ = some (.int .i64 N.commit) := (HB1.out.cell (p := ⟨B, 7, none⟩) hB).trans h7
  have c11 : w1.cell? ⟨B, 11, none⟩ = some (.slice (some ⟨b1, o1, none⟩) N.next.length cn) := (HB1.out.cell (p := ⟨B, 11, none⟩) hB).trans h11
  have xx : w1.cell? ⟨b1, o1 + to, none⟩ = some (.int .i64 ((p : Int) + 1)) := (HB1.out.cell (p := ⟨b1, o1 + to, none⟩) hb1).trans x0
  have r8 : ∀ j, w1.cell? ⟨w.heap.size, j, none⟩ = (w.alloc (.cells #[.int .i64 0, .int .i64 0, .int .i64 0, .int .i64 0, .int .i64 0, .int .i64 0, .int .i64 0, .bool false, .slice none 0 0] 54)).cell? ⟨w.heap.size, j, none⟩ := fun j => hb.cell (p := ⟨w.heap.size, j, none⟩) (by show w.heap.size < _; simp)
  have R8 := Lib.hid r8
  have RF : Hid (∀ o, w1.frozen? ⟨w.heap.size, o, none⟩ = false) := Lib.hid (fun o => (hb.frozen (p := ⟨w.heap.size, o, none⟩) (by show w.heap.size < _; simp)).trans (by simp [go_sem]))
  have HLA : Hid (∀ x, Sl entE 2 (w1.alloc x) (some ⟨g, 0, none⟩) N.log) := Lib.hid (fun x => (HL.out.keep HB1.out).alloc x)
  clear hb r8
  have hB1 : B < w1.heap.size := by omega
  have hb11 : b1 < w1.heap.size := by omega
  go_wp2_with fail
  refine (termAt_c B (some ⟨g, 0, none⟩) cl N.log p _ ((World.cell?_alloc_lt _ _ _ hB1).trans c6) (HLA.out _) hZ (Nat.le_of_lt hp)).mono ?_
  rintro e w2 ⟨rfl, rfl⟩
  obtain ⟨tp, htp⟩ : ∃ t, termOf N.log p = t := ⟨_, rfl⟩
  have HTP := Lib.hid htp
  rw [htp]
  clear htp
  have e6 : ∀ x, (w1.alloc x).cell? ⟨B, 6, none⟩ = some (.slice (some ⟨g, 0, none⟩) N.log.length cl) := fun x => (World.cell?_alloc_lt _ _ _ hB1).trans c6
  have HCL : Hid (∀ w', Sl entE 2 w' (some ⟨g, p * 2, none⟩) (N.log.drop p) → Calls Try.prog 45 #[.slice (some ⟨g, p * 2, none⟩) (N.log.length - p) (cl - p)] w' (FreshR entE 48 2 w' (N.log.drop p))) := Lib.hid (fun w' h => by
    have := cloneE_c (some ⟨g, p * 2, none⟩) (cl - p) (N.log.drop p) w' h (by simp; omega)
    simpa using this)
  have HLD : Hid (∀ x, Sl entE 2 (w1.alloc x) (some ⟨g, p * 2, none⟩) (N.log.drop p)) := Lib.hid (fun x => Sl.dropE (HLA.out x))
  go_wp2_with fail
  go_region_held_law (fun w' => w'.cell? ⟨B, 6, none⟩ = some (.slice (some ⟨g, 0, none⟩) N.log.length cl) ∧ w'.cell? ⟨w1.heap.size, 4, none⟩ = some (.int .i64 p))
    (first | go_keep | (exact ⟨e6 _, by simp [go_sem]⟩) | ((repeat' apply And.intro) <;> (first | assumption | (rw [World.cell?_setCell_other _ _ _ _ (fun e => by injection e with e1 e2; omega)]; assumption))))
    (first
      | (go_at_call 45
         refine (HCL.out _ (by first | exact HLD.out _ | exact (HLD.out _).drew)).mono ?_
         rintro e w3 ⟨v, rfl, hf3, hb3⟩
         obtain ⟨ae, ce, rfl, hc3, ho3⟩ := id hf3
         have hz3 := hb3.size
         try simp at hz3
         have q6 : w3.cell? ⟨B, 6, none⟩ = some (.slice (some ⟨g, 0, none⟩) N.log.length cl) := (hb3.cell (p := ⟨B, 6, none⟩) (by show B < _; simp; omega)).trans (by first | exact e6 _ | (simp [go_sem, c6, hB1]; done))
         have q4 : w3.cell? ⟨w1.heap.size, 4, none⟩ = some (.int .i64 p) := (hb3.cell (p := ⟨w1.heap.size, 4, none⟩) (by show w1.heap.size < _; simp)).trans (by simp [go_sem])
         have q8 : w3.cell? ⟨w1.heap.size, 8, none⟩ = some (.slice none 0 0) := (hb3.cell (p := ⟨w1.heap.size, 8, none⟩) (by show w1.heap.size < _; simp)).trans (by simp [go_sem])
         have qf : ∀ o, w3.frozen? ⟨w1.heap.size, o, none⟩ = false := fun o => (hb3.frozen (p := ⟨w1.heap.size, o, none⟩) (by show w1.heap.size < _; simp)).trans (by simp [go_sem])))
  have hz3' : w1.heap.size < w3.heap.size := by have := hb3.size; simp at this; omega
  have HF3 := Lib.hid hf3.here
  have HB3 : Hid (Below w.heap.size w w3) := Lib.hid (((HB1.out.alloc (by omega) _).drew).trans (hb3.mono (by simp; omega)))
  have m_0 : w3.cell? ⟨w1.heap.size, 0, none⟩ = some (.int .i64 3) := (hb3.cell (p := ⟨w1.heap.size, 0, none⟩) (by show w1.heap.size < _; simp)).trans (by simp [go_sem])
  have m_1 : w3.cell? ⟨w1.heap.size, 1, none⟩ = some (.int .i64 N.id) := (hb3.cell (p := ⟨w1.heap.size, 1, none⟩) (by show w1.heap.size < _; simp)).trans (by simp [go_sem])
  have m_2 : w3.cell? ⟨w1.heap.size, 2, none⟩ = some (.int .i64 to) := (hb3.cell (p := ⟨w1.heap.size, 2, none⟩) (by show w1.heap.size < _; simp)).trans (by simp [go_sem])
  have m_3 : w3.cell? ⟨w1.heap.size, 3, none⟩ = some (.int .i64 N.term) := (hb3.cell (p := ⟨w1.heap.size, 3, none⟩) (by show w1.heap.size < _; simp)).trans (by simp [go_sem])
  have m_4 : w3.cell? ⟨w1.heap.size, 4, none⟩ = some (.int .i64 p) := (hb3.cell (p := ⟨w1.heap.size, 4, none⟩) (by show w1.heap.size < _; simp)).trans (by simp [go_sem])
  have m_5 : w3.cell? ⟨w1.heap.size, 5, none⟩ = some (.int .i64 tp) := (hb3.cell (p := ⟨w1.heap.size, 5, none⟩) (by show w1.heap.size < _; simp)).trans (by simp [go_sem])
  have m_6 : w3.cell? ⟨w1.heap.size, 6, none⟩ = some (.int .i64 N.commit) := (hb3.cell (p := ⟨w1.heap.size, 6, none⟩) (by show w1.heap.size < _; simp)).trans (by simp [go_sem])
  have m_7 : w3.cell? ⟨w1.heap.size, 7, none⟩ = some (.bool false) := (hb3.cell (p := ⟨w1.heap.size, 7, none⟩) (by show w1.heap.size < _; simp)).trans (by simp [go_sem])
  have z_0 : w3.cell? ⟨w.heap.size, 0, none⟩ = some (.int .i64 0) := (hb3.cell (p := ⟨w.heap.size, 0, none⟩) (by show w.heap.size < _; simp; omega)).trans (((Below.refl w1.heap.size w1).alloc (Nat.le_refl _) _).drew.cell (p := ⟨w.heap.size, 0, none⟩) (by show w.heap.size < _; omega) |>.trans ((R8.out 0).trans (by simp [go_sem])))
  have z_1 : w3.cell? ⟨w.heap.size, 1, none⟩ = some (.int .i64 0) := (hb3.cell (p := ⟨w.heap.size, 1, none⟩) (by show w.heap.size < _; simp; omega)).trans (((Below.refl w1.heap.size w1).alloc (Nat.le_refl _) _).drew.cell (p := ⟨w.heap.size, 1, none⟩) (by show w.heap.size < _; omega) |>.trans ((R8.out 1).trans (by simp [go_sem])))
  have z_2 : w3.cell? ⟨w.heap.size, 2, none⟩ = some (.int .i64 0) := (hb3.cell (p := ⟨w.heap.size, 2, none⟩) (by show w.heap.size < _; simp; omega)).trans (((Below.refl w1.heap.size w1).alloc (Nat.le_refl _) _).drew.cell (p := ⟨w.heap.size, 2, none⟩) (by show w.heap.size < _; omega) |>.trans ((R8.out 2).trans (by simp [go_sem])))
  have z_3 : w3.cell? ⟨w.heap.size, 3, none⟩ = some (.int .i64 0) := (hb3.cell (p := ⟨w.heap.size, 3, none⟩) (by show w.heap.size < _; simp; omega)).trans (((Below.refl w1.heap.size w1).alloc (Nat.le_refl _) _).drew.cell (p := ⟨w.heap.size, 3, none⟩) (by show w.heap.size < _; omega) |>.trans ((R8.out 3).trans (by simp [go_sem])))
  have z_4 : w3.cell? ⟨w.heap.size, 4, none⟩ = some (.int .i64 0) := (hb3.cell (p := ⟨w.heap.size, 4, none⟩) (by show w.heap.size < _; simp; omega)).trans (((Below.refl w1.heap.size w1).alloc (Nat.le_refl _) _).drew.cell (p := ⟨w.heap.size, 4, none⟩) (by show w.heap.size < _; omega) |>.trans ((R8.out 4).trans (by simp [go_sem])))
  have z_5 : w3.cell? ⟨w.heap.size, 5, none⟩ = some (.int .i64 0) := (hb3.cell (p := ⟨w.heap.size, 5, none⟩) (by show w.heap.size < _; simp; omega)).trans (((Below.refl w1.heap.size w1).alloc (Nat.le_refl _) _).drew.cell (p := ⟨w.heap.size, 5, none⟩) (by show w.heap.size < _; omega) |>.trans ((R8.out 5).trans (by simp [go_sem])))
  have z_6 : w3.cell? ⟨w.heap.size, 6, none⟩ = some (.int .i64 0) := (hb3.cell (p := ⟨w.heap.size, 6, none⟩) (by show w.heap.size < _; simp; omega)).trans (((Below.refl w1.heap.size w1).alloc (Nat.le_refl _) _).drew.cell (p := ⟨w.heap.size, 6, none⟩) (by show w.heap.size < _; omega) |>.trans ((R8.out 6).trans (by simp [go_sem])))
  have z_7 : w3.cell? ⟨w.heap.size, 7, none⟩ = some (.bool false) := (hb3.cell (p := ⟨w.heap.size, 7, none⟩) (by show w.heap.size < _; simp; omega)).trans (((Below.refl w1.heap.size w1).alloc (Nat.le_refl _) _).drew.cell (p := ⟨w.heap.size, 7, none⟩) (by show w.heap.size < _; omega) |>.trans ((R8.out 7).trans (by simp [go_sem])))
  have z_8 : w3.cell? ⟨w.heap.size, 8, none⟩ = some (.slice none 0 0) := (hb3.cell (p := ⟨w.heap.size, 8, none⟩) (by show w.heap.size < _; simp; omega)).trans (((Below.refl w1.heap.size w1).alloc (Nat.le_refl _) _).drew.cell (p := ⟨w.heap.size, 8, none⟩) (by show w.heap.size < _; omega) |>.trans ((R8.out 8).trans (by simp [go_sem])))
  have zf : ∀ o, w3.frozen? ⟨w.heap.size, o, none⟩ = false := fun o => (hb3.frozen (p := ⟨w.heap.size, o, none⟩) (by show w.heap.size < _; simp; omega)).trans (((Below.refl w1.heap.size w1).alloc (Nat.le_refl _) _).drew.frozen (p := ⟨w.heap.size, o, none⟩) (by show w.heap.size < _; omega) |>.trans (RF.out o))
  have hHM : w.heap.size ≠ w1.heap.size := by omega
  have hHl : w.heap.size < w3.heap.size := by omega
  clear hb3 hf3 ho3 hc3 q6 q4 c0 c2 c6 c7 c11 xx e6 h0 h2 h6 h7 h11 x0
  go_wp2_with fail
  refine bodyPost_ret (v := .agg #[.int .i64 3, .int .i64 N.id, .int .i64 to, .int .i64 N.term, .int .i64 p, .int .i64 tp, .int .i64 N.commit, .bool false, .slice ae (N.log.length - p) ce]) (by simp [results, Try.results48, go_sem, z_0, z_1, z_2, z_3, z_4, z_5, z_6, z_7, z_8, zf, hHl, hHM]) rfl ?_
  have hfr := HF3.out
  refine ⟨ae, ce, by rw [HTP.out]; simp, ?_, ?_⟩
  · refine FreshIn.mono (lo := w1.heap.size + 1) (hi := w3.heap.size) ?_ (by omega) (by simp [World.setCell])
    have hfr2 : FreshIn entE 48 2 (w1.heap.size + 1) w3.heap.size (.slice ae (N.log.drop p).length ce) (N.log.drop p) w3 := by simpa using hfr
    repeat (first | (with_reducible exact hfr2) | (with_reducible refine FreshIn.setCell ?_ ?_ _; rotate_left; (first | (show w.heap.size < w1.heap.size + 1; omega) | (show w1.heap.size < w1.heap.size + 1; omega))))
  · repeat (first | (with_reducible exact HB3.out) | (with_reducible refine Below.setCell ?_ ?_ _; rotate_left; (first | (show w.heap.size ≤ w.heap.size; omega) | (show w.heap.size ≤ w1.heap.size; omega))))
end
section
open Go.RowKit
theorem blkOf_own {a : Option Addr} {n c : Nat} {k : Nat} : k ∈ blkOf a ↔ (Value.slice a n c).ownBlock = some k := by
  cases a with
  | none => simp [blkOf, Value.ownBlock]
  | some p => simp [blkOf, Value.ownBlock, eq_comm]
section
variable {α : Type} {enc : α → List Value} {w : World}
theorem wpList_append_freshG {P : Program} {ops : Array Oper} {rest : List Oper} {o : Oper} {a : Act} {Q : Exit → Act → World → Prop} (hgd : o.guard = none) (s x : Operand) (t tx : TypeId)
    (ho : o.op = .call { callee := .builtin .append, args := #[s, x], argTypes := #[t, tx] })
    (lo hi : Nat) (e : TypeId) (i : TypeInfo) (z : Value) (size bytes : Nat) (ht : P.underlying t = some (.slice e)) (hinfo : P.info? e = some i) (hz : i.zero = some z)
    (hsize : i.size = size) (hby : i.bytes = bytes) (hzs : z.cells.size = size) (hbp : 0 < bytes)
    (ad : Option Addr) (n c : Nat) (zs : List α) (hs : a.eval s = .slice ad n c) (hF : FreshIn enc e size lo hi (.slice ad n c) zs w)
    (xv : Value) (ys : List α) (hx : a.eval x = xv) (hsrc : Src P size tx xv ys.length (ys.flatMap enc) w)
    (hbytes : (zs.length + ys.length) * bytes ≤ 140737488355328) (hlo : lo ≤ w.heap.size)
    (h : ∀ a' c' w' us, Hid (us = zs ++ ys) → FreshIn enc e size lo w'.heap.size (.slice a' us.length c') us w' → Mid lo hi w w' → (∀ k ∈ blkOf a', k ∈ blkOf ad ∨ k = w.heap.size) → wpList P ops Q rest (a.put o.dst (.slice a' us.length c')) w') : wpList P ops Q (o :: rest) a w := by
  have hrow := hF.row
  obtain ⟨⟨a', cap', hv, h1, h2⟩, h3⟩ := hF
  cases hv
  refine wpList_append_src w hgd s x t tx ho lo e i z size bytes ht hinfo hz hsize hby hzs _ zs.length (zs.flatMap enc) hs h2 xv ys.length (ys.flatMap enc) hx hsrc ?_ hbytes hlo ?_
  · have : zs.length + ys.length ≤ (zs.length + ys.length) * bytes := Nat.le_mul_of_pos_right _ hbp
    unfold maxLen; omega
  · intro v' w' k1 k2 k3
    have hf : Fresh enc e size lo v' (zs ++ ys) w' := Fresh.of_own k1 (by simp) (by simp)
    obtain ⟨a1, c1, rfl, _⟩ := id hf
    refine h a1 c1 w' _ rfl hf.here (Mid.of_grown k2 hrow) (fun k hk => ?_)
    have hk' := (blkOf_own (n := (zs ++ ys).length) (c := c1)).1 hk
    rcases k3 with k3 | k3
    · exact .inl ((blkOf_own (n := zs.length) (c := c)).2 (k3 ▸ hk'))
    · rw [k3] at hk'
      exact .inr (Option.some.inj hk').symm
theorem Sl.midB {sz l r : Nat} {w' : World} {a : Option Addr} {xs : List α} (h : Sl enc sz w a xs) (hm : Mid l r w w') (hd : ∀ b ∈ blkOf a, b < l ∨ r ≤ b) : Sl enc sz w' a xs := by
  rcases h with h1 | ⟨b, off, rfl, hlt, hc⟩
  · exact .inl h1
  · have hb := hd b (by simp [blkOf])
    exact .inr ⟨b, off, rfl, Nat.lt_of_lt_of_le hlt hm.size, fun i hi j hj => by rw [hm.cell (p := ⟨b, _, none⟩) hlt hb]; exact hc i hi j hj⟩
theorem Sl.setB {sz : Nat} {a : Option Addr} {xs : List α} (h : Sl enc sz w a xs) {p : Addr} (hd : ∀ b ∈ blkOf a, b ≠ p.block) (u : Value) : Sl enc sz (w.setCell p u) a xs :=
  h.setCell (fun b off e => hd b (by subst e; simp [blkOf])) u
end
theorem RowsG.toM {R : Type} {own : Nat → World → R → Prop} {blk : R → List Nat} {st : R → Prop} {B : Nat} {w w' : World} {L : List R} (h : RowsG own blk st B w L) (hz : w.heap.size ≤ w'.heap.size) (hk : ∀ r ∈ L, own B w r → own B w' r) : RowsG own blk st B w' L :=
  ⟨fun r hr => hk r hr (h.ow r hr), h.nd, fun r hr b hb => ⟨(h.bd r hr b hb).1, Nat.lt_of_lt_of_le (h.bd r hr b hb).2 hz⟩, h.sta, h.ap⟩
theorem msgOne : ∀ (x : MsgA), ∀ u ∈ msgE x, u.oneCell' = true := by
  intro x u hu
  simp only [msgE, List.mem_cons, List.not_mem_nil, or_false] at hu
  rcases hu with rfl | rfl | rfl | rfl | rfl | rfl | rfl | rfl | rfl <;> rfl
/-- The messages to the first k nodes. -/
def sentL (N : NodeV) : Nat → List MsgV
  | 0 => []
  | k + 1 => sentL N k ++ (if (k : Int) = N.id then [] else [replM N k (N.next.getD k 0 - 1).toNat])
theorem sentL_len (N : NodeV) (k : Nat) : (sentL N k).length ≤ k := by
  induction k with
  | zero => simp [sentL]
  | succ k ih => simp only [sentL, List.length_append]; split <;> simp <;> omega
structure SaI (lo : Nat) (L : List MsgA) (am : Option Addr) (cm : Nat) (w : World) : Prop where
  row : FreshIn msgE 54 9 lo w.heap.size (.slice am L.length cm) L w
  gs : MsgG lo w L
  sep : ∀ r ∈ L, ∀ b ∈ messageBlk r, b ∉ blkOf am
theorem SaI.nil (lo : Nat) (w : World) : SaI lo [] none 0 w := ⟨FreshIn.nil _ _ _ _ _ _, RowsG.nil, by simp⟩
theorem SaI.keep {lo : Nat} {L : List MsgA} {am : Option Addr} {cm : Nat} {w w' : World} (h : SaI lo L am cm w) (hb : Below w.heap.size w w') : SaI lo L am cm w' :=
  ⟨h.row.keepB hb, RowsG.to h.gs hb.size (fun _ k => messageOwn.keep k hb), h.sep⟩
theorem SaI.step {lo : Nat} {L us : List MsgA} {an an' : Option Addr} {cn cn' : Nat} {w w2 w4 : World} {x : MsgA} {b : Nat} {o : Obj} (h : SaI lo L an cn w) (hlo : lo ≤ w.heap.size)
    (hb : Below w.heap.size w w2) (hx : RowNew messageOwn messageBlk (fun _ => True) w.heap.size w2 x)
    (hb3 : ∀ k, b ≤ k → k < b + 1 → k < (w2.alloc o).heap.size → k ∈ blkOf an) (hlB : lo ≤ b)
    (hus : us = L ++ [x]) (hf : FreshIn msgE 54 9 b w4.heap.size (.slice an' us.length cn') us w4) (hm : Mid b (b + 1) (w2.alloc o) w4) (hk : ∀ k ∈ blkOf an', k ∈ blkOf an ∨ k = (w2.alloc o).heap.size) :
    SaI lo us an' cn' w4 := by
  have hz2 := hb.size
  have hz4 := hm.size
  simp only [World.size_alloc] at hz4 hb3 hk
  have hN1 : MsgG lo w2 (L ++ [x]) := RowsG.snoc h.gs hz2 (fun _ k => messageOwn.keep k hb) hlo hx (fun k => messageOwn.low k hlo)
  have hba : Below w2.heap.size w2 (w2.alloc o) := (Below.refl _ _).alloc (Nat.le_refl _) _
  have hnb : ∀ r ∈ L ++ [x], ∀ k ∈ messageBlk r, k < w2.heap.size ∧ k ∉ blkOf an := by
    intro r hr k hkr
    have h1 := (hN1.bd r hr k hkr).2
    refine ⟨h1, fun hka => ?_⟩
    rcases List.mem_append.1 hr with hr | hr
    · exact h.sep r hr k hkr hka
    · simp at hr; subst hr
      have h2 := (hx.bd k hkr).1
      have h3 := (h.row.blks k hka).2
      omega
  have hz4' : (w2.alloc o).heap.size ≤ w4.heap.size := by simp; omega
  refine ⟨FreshIn.mono hf hlB (Nat.le_refl _), ?_, ?_⟩
  · subst hus
    refine RowsG.toM (RowsG.to hN1 (by simp) (fun _ k => messageOwn.keep k hba)) hz4' (fun r hr k => messageOwn.mid k hm (fun b' hb' => ?_))
    have h1 := hnb r hr b' hb'
    rcases Nat.lt_or_ge b' b with h2 | h2
    · exact .inl h2
    · rcases Nat.lt_or_ge b' (b + 1) with h3 | h3
      · exact absurd (hb3 b' h2 h3 (by omega)) h1.2
      · exact .inr h3
  · intro r hr k hkr hka
    subst hus
    have h1 := hnb r hr k hkr
    rcases hk k hka with h2 | h2
    · exact h1.2 h2
    · omega
end
section
open Go.RowKit
/-- What the node sends: messages in memory of their own, in new blocks. -/
def SentR (L : List MsgV) (w : World) (e : Ending) (w' : World) : Prop :=
  ∃ (rs : List MsgA) (am : Option Addr) (cm : Nat), e = .returned (.slice am rs.length cm) ∧ rs.map (·.M) = L ∧ SaI w.heap.size rs am cm w' ∧ Below w.heap.size w w'
theorem replNew {N : NodeV} {to p lo : Nat} {ae : Option Addr} {ce : Nat} {w : World} (h : FreshIn entE 48 2 lo w.heap.size (.slice ae (N.log.drop p).length ce) (N.log.drop p) w) : RowNew messageOwn messageBlk (fun _ => True) lo w ⟨replM N to p, ae, ce⟩ := by
  refine ⟨h, blkOf_nodup _, fun b hb => FreshIn.blks h b hb, trivial⟩
set_option maxRecDepth 100000 in
set_option maxHeartbeats 8000000 in
theorem replicateAll_c (B g : Nat) (N : NodeV) (an : Option Addr) (cl cn m : Nat) (w : World) (hB : B < w.heap.size)
    (h0 : w.cell? ⟨B, 0, none⟩ = some (.int .i64 N.id)) (h1 : w.cell? ⟨B, 1, none⟩ = some (.int .i64 N.nodes)) (h2 : w.cell? ⟨B, 2, none⟩ = some (.int .i64 N.term)) (h6 : w.cell? ⟨B, 6, none⟩ = some (.slice (some ⟨g, 0, none⟩) N.log.length cl)) (h7 : w.cell? ⟨B, 7, none⟩ = some (.int .i64 N.commit)) (h11 : w.cell? ⟨B, 11, none⟩ = some (.slice an N.next.length cn))
    (hL : Sl entE 2 w (some ⟨g, 0, none⟩) N.log) (hX : Sl intE 1 w an N.next) (hZ : N.log.length ≤ 1048576) (hm : N.nodes = (m : Int)) (hm5 : m ≤ 5) (hml : N.next.length = m) (hnx : ∀ k (h : k < N.next.length), 1 ≤ N.next[k] ∧ N.next[k] ≤ N.log.length) (hcl : N.log.length ≤ cl) :
    Calls Try.prog 27 #[.pointer (some ⟨B, 0, none⟩)] w (SentR (sentL N m) w) := by
  obtain ⟨i1, hi', hz0', hz1', hz2'⟩ := info_parts Try.infoMessage
  have HL := Lib.hid hL
  have HX := Lib.hid hX
  have HNX := Lib.hid hnx
  have HML := Lib.hid hml
  clear hL hX hnx hml
  go_enter Try.func27, Try.ntmps27
  go_wp2_with fail
  go_loopw [3, 9] (fun s i wr => ∃ (k : Nat) (rs : List MsgA) (am : Option Addr) (cm : Nat), k ≤ m ∧ i = .int .i64 k ∧ s = .slice am rs.length cm ∧ Hid (rs.map (·.M) = sentL N k) ∧ Hid (SaI w.heap.size rs am cm wr) ∧ Below w.heap.size w wr) (fun _ i _ => m - (intOf i).toNat)
  case atStart => exact ⟨0, [], none, 0, Nat.zero_le _, rfl, rfl, rfl, SaI.nil _ _, Below.refl _ _⟩
  case round =>
    obtain ⟨k, rs, am, cm, hk, rfl, rfl, HM, HS, hbel⟩ := hrel
    have HBL := Lib.hid hbel
    have hzr := hbel.size
    have hrl : rs.length ≤ 5 := by have h1 := congrArg List.length HM.out; have h2 := sentL_len N k; simp at h1; omega
    have c0 : wr.cell? ⟨B, 0, none⟩ = some (.int .i64 N.id) := (hbel.cell (p := ⟨B, 0, none⟩) hB).trans h0
    have c1 : wr.cell? ⟨B, 1, none⟩ = some (.int .i64 N.nodes) := (hbel.cell (p := ⟨B, 1, none⟩) hB).trans h1
    have c2 : wr.cell? ⟨B, 2, none⟩ = some (.int .i64 N.term) := (hbel.cell (p := ⟨B, 2, none⟩) hB).trans h2
    have c6 : wr.cell? ⟨B, 6, none⟩ = some (.slice (some ⟨g, 0, none⟩) N.log.length cl) := (hbel.cell (p := ⟨B, 6, none⟩) hB).trans h6
    have c7 : wr.cell? ⟨B, 7, none⟩ = some (.int .i64 N.commit) := (hbel.cell (p := ⟨B, 7, none⟩) hB).trans h7
    have c11 : wr.cell? ⟨B, 11, none⟩ = some (.slice an N.next.length cn) := (hbel.cell (p := ⟨B, 11, none⟩) hB).trans h11
    clear hbel
    by_cases hlt : k < m
    · have hgt : (k : Int) < N.nodes := by omega
      have hsu : sentL N (k + 1) = sentL N k ++ (if (k : Int) = N.id then [] else [replM N k (N.next.getD k 0 - 1).toNat]) := rfl
      have HSU := Lib.hid hsu
      clear hsu
      by_cases e1 : (k : Int) = N.id
      · have g1 : ((k : Int) != N.id) = false := by simp [e1]
        have HE1 := Lib.hid e1
        clear e1
        go_wp2_with fail
        go_roundw
        case rel => exact ⟨k + 1, rs, am, cm, by omega, by simp, rfl, by show _ = _; rw [HSU.out, if_pos HE1.out, HM.out]; simp, HS, HBL.out⟩
        case measure => simp [intOf]; omega
      · have g1 : ((k : Int) != N.id) = true := by simpa using e1
        have HE1 := Lib.hid e1
        clear e1
        have hkl : k < N.next.length := by rw [HML.out]; exact hlt
        have hn1 := HNX.out k hkl
        obtain ⟨p, hp⟩ : ∃ p : Nat, N.next[k] = (p : Int) + 1 := ⟨(N.next[k] - 1).toNat, by omega⟩
        have hpl : p < N.log.length := by omega
        have hgp : (N.next.getD k 0 - 1).toNat = p := by simp [List.getD, hkl, hp]
        have HGP := Lib.hid hgp
        have HP := Lib.hid hp
        clear hgp hp hn1
        go_wp2_with fail
        refine (replicate_c B g N an cl cn k p _ (by omega) c0 c2 c6 c7 c11 (HL.out.keep HBL.out) (HX.out.keep HBL.out) hZ hkl HP.out hpl hcl).mono ?_
        rintro e w2 ⟨ae, ce, rfl, hf2, hb2⟩
        have hz2 := hb2.size
        have HR := Lib.hid (replNew (to := k) hf2)
        have HB2 := Lib.hid hb2
        clear hf2 hb2
        have hel : (N.log.drop p).length = N.log.length - p := by simp
        obtain ⟨OB, hOB⟩ : ∃ o : Obj, o = .cells #[.int .i64 3, .int .i64 N.id, .int .i64 k, .int .i64 N.term, .int .i64 p, .int .i64 (termOf N.log p), .int .i64 N.commit, .bool false, .slice ae (N.log.length - p) ce] 54 := ⟨_, rfl⟩
        have hsrc : Src Try.prog 9 30 (.slice (some ⟨w2.heap.size, 0, none⟩) 1 1) [(⟨replM N k p, ae, ce⟩ : MsgA)].length ([(⟨replM N k p, ae, ce⟩ : MsgA)].flatMap msgE) (w2.alloc OB) := by
          subst hOB
          exact Src.ofBox (enc := msgE) Try.underlying30 (fun _ => rfl) msgOne (⟨replM N k p, ae, ce⟩ : MsgA) _ _ (by simp [msgE, replM]) _ rfl
        have hS2 := HS.out.keep (HB2.out.alloc HB2.out.size OB)
        obtain ⟨b, t2, t3, t4, t5⟩ := hS2.row.tight
        rw [hOB] at t2 hsrc
        have HSRC := Lib.hid hsrc
        have HT2 := Lib.hid t2
        have HT4 := Lib.hid t4
        have HT5 := Lib.hid t5
        have HOB := Lib.hid hOB
        clear t2 t4 t5 hsrc hS2 hOB hel
        simp only [World.size_alloc] at t3
        go_wp2_with (at_builtin; refine wpList_append_freshG rfl (.tmp 18) (.tmp 22) 30 30 rfl b (b + 1) 54 i1 (.agg #[.int .i64 0, .int .i64 0, .int .i64 0, .int .i64 0, .int .i64 0, .int .i64 0, .int .i64 0, .bool false, .slice none 0 0]) 9 88 Try.underlying30 hi' hz0' hz1' hz2' rfl (by decide) am rs.length cm rs rfl HT2.out (.slice (some ⟨w2.heap.size, 0, none⟩) 1 1) [(⟨replM N k p, ae, ce⟩ : MsgA)] rfl HSRC.out (by simp; omega) (by simp; omega) ?_)
        intro a3 c3 w4 us hus hf4 hm4 hk4
        have HUS := hus
        have HF4 := Lib.hid hf4
        have HM4 := Lib.hid hm4
        have HK4 := Lib.hid hk4
        have hz4 := hm4.size
        simp only [World.size_alloc] at hz4
        have hbL : w.heap.size ≤ b := by
          rcases Nat.lt_or_ge b (w2.heap.size + 1) with h | h
          · exact (HT5.out (by simpa using h)).2
          · omega
        clear hus hf4 hm4 hk4
        go_wp2_with fail
        go_roundw
        case rel =>
          refine ⟨k + 1, us, a3, c3, by omega, by simp, rfl, ?_, ?_, ?_⟩
          · show _ = _
            rw [HSU.out, if_neg HE1.out, HUS.out, HGP.out, List.map_append, HM.out]
            rfl
          · exact SaI.step HS.out (by omega) HB2.out HR.out HT4.out hbL HUS.out HF4.out (by rw [HOB.out]; exact HM4.out) (by rw [HOB.out]; simpa using HK4.out)
          · exact ((HBL.out.trans (HB2.out.mono (by omega))).alloc (by omega) _).trans (HM4.out.below hbL (by simp; omega))
        case measure => simp [intOf]; omega
    · have hkm : k = m := by omega
      have hgt : N.nodes ≤ (k : Int) := by omega
      have HKM := Lib.hid hkm
      clear hkm
      go_wp2_with fail
      go_ret
      have h1 := HM.out
      rw [HKM.out] at h1
      exact ⟨rs, am, cm, rfl, h1, HS.out, HBL.out⟩
end
section
open Go.RowKit
section
variable {P : Program} {md : Region.Mode} {ops : Array Oper} {Q : Exit → Act → World → Prop} {S : World → Prop} {ex : Nat → Bool}
/-- One operation alone may come up, and S need not hold any more. -/
theorem wpAnyG_oneX {i : Nat} {o : Oper} {fuel : Nat} {listed : Array Bool} {a : Act} {w : World} (hr : Region.ready md ops listed = [i]) (ho : ops[i]? = some o)
    (h : ∀ K' : Act → World → Prop, Shut (∀ a w, (ex i = true ∨ S w) → wpAnyG P md ops Q S ex fuel (listed.setIfInBounds i true) a w → K' a w) → if Region.wanted o (yielded ops a.tmps) = true then Oper.wp P o a w K' Q else K' (a.put o.dst undef) w) : wpAnyG P md ops Q S ex (fuel + 1) listed a w :=
  ⟨fun h0 => (by rw [hr] at h0; cases h0), fun j hj => by
    rw [hr] at hj
    obtain rfl : j = i := by simpa using hj
    exact wpOp_step ho (fun K' hK => h K' (fun a w h1 h2 => hK a w ⟨h1.imp id (fun h3 _ => h3), h2⟩))⟩
end
def CloneR (N : NodeV) (w : World) (e : Ending) (w' : World) : Prop :=
  ∃ al cl av cv an cn am cm, e = .returned (.agg #[.int .i64 N.id, .int .i64 N.nodes, .int .i64 N.term, .int .i64 N.vote, .int .i64 N.role, .bool N.up, .slice al N.log.length cl, .int .i64 N.commit, .int .i64 N.elapsed, .int .i64 N.wait, .slice av N.votes.length cv, .slice an N.next.length cn, .slice am N.mtch.length cm]) ∧ FreshNodeX w.heap.size w'.heap.size N w' al cl av cv an cn am cm ∧ Below w.heap.size w w'
set_option maxRecDepth 100000 in
set_option maxHeartbeats 8000000 in
theorem cloneNode_c (al : Option Addr) (cl : Nat) (av : Option Addr) (cv : Nat) (an : Option Addr) (cn : Nat) (am : Option Addr) (cm : Nat) (N : NodeV) (w : World) (hN : NodeSl w al av an am N) (hZ : NodeSz N 1048576) :
    Calls Try.prog 25 #[.agg #[.int .i64 N.id, .int .i64 N.nodes, .int .i64 N.term, .int .i64 N.vote, .int .i64 N.role, .bool N.up, .slice al N.log.length cl, .int .i64 N.commit, .int .i64 N.elapsed, .int .i64 N.wait, .slice av N.votes.length cv, .slice an N.next.length cn, .slice am N.mtch.length cm]] w (CloneR N w) := by
  have H1 := Lib.hid hN.log
  have H2 := Lib.hid hN.votes
  have H3 := Lib.hid hN.next
  have H4 := Lib.hid hN.mtch
  have z1 := hZ.log
  have z2 := hZ.votes
  have z3 := hZ.next
  have z4 := hZ.mtch
  clear hN hZ
  go_enter Try.func25, Try.ntmps25
  go_wp2_with fail
  have hS0 : ((w.alloc (.cells #[.int .i64 N.id, .int .i64 N.nodes, .int .i64 N.term, .int .i64 N.vote, .int .i64 N.role, .bool N.up, .slice al N.log.length cl, .int .i64 N.commit, .int .i64 N.elapsed, .int .i64 N.wait, .slice av N.votes.length cv, .slice an N.next.length cn, .slice am N.mtch.length cm] 29)).alloc (.cells #[.int .i64 0, .int .i64 0, .int .i64 0, .int .i64 0, .int .i64 0, .bool false, .slice none 0 0, .int .i64 0, .int .i64 0, .int .i64 0, .slice none 0 0, .slice none 0 0, .slice none 0 0] 29)).cell? ⟨w.heap.size, 6, none⟩ = some (.slice al N.log.length cl) ∧ ((w.alloc (.cells #[.int .i64 N.id, .int .i64 N.nodes, .int .i64 N.term, .int .i64 N.vote, .int .i64 N.role, .bool N.up, .slice al N.log.length cl, .int .i64 N.commit, .int .i64 N.elapsed, .int .i64 N.wait, .slice av N.votes.length cv, .slice an N.next.length cn, .slice am N.mtch.length cm] 29)).alloc (.cells #[.int .i64 0, .int .i64 0, .int .i64 0, .int .i64 0, .int .i64 0, .bool false, .slice none 0 0, .int .i64 0, .int .i64 0, .int .i64 0, .slice none 0 0, .slice none 0 0, .slice none 0 0] 29)).cell? ⟨w.heap.size, 10, none⟩ = some (.slice av N.votes.length cv) ∧ ((w.alloc (.cells #[.int .i64 N.id, .int .i64 N.nodes, .int .i64 N.term, .int .i64 N.vote, .int .i64 N.role, .bool N.up, .slice al N.log.length cl, .int .i64 N.commit, .int .i64 N.elapsed, .int .i64 N.wait, .slice av N.votes.length cv, .slice an N.next.length cn, .slice am N.mtch.length cm] 29)).alloc (.cells #[.int .i64 0, .int .i64 0, .int .i64 0, .int .i64 0, .int .i64 0, .bool false, .slice none 0 0, .int .i64 0, .int .i64 0, .int .i64 0, .slice none 0 0, .slice none 0 0, .slice none 0 0] 29)).cell? ⟨w.heap.size, 11, none⟩ = some (.slice an N.next.length cn) ∧ ((w.alloc (.cells #[.int .i64 N.id, .int .i64 N.nodes, .int .i64 N.term, .int .i64 N.vote, .int .i64 N.role, .bool N.up, .slice al N.log.length cl, .int .i64 N.commit, .int .i64 N.elapsed, .int .i64 N.wait, .slice av N.votes.length cv, .slice an N.next.length cn, .slice am N.mtch.length cm] 29)).alloc (.cells #[.int .i64 0, .int .i64 0, .int .i64 0, .int .i64 0, .int .i64 0, .bool false, .slice none 0 0, .int .i64 0, .int .i64 0, .int .i64 0, .slice none 0 0, .slice none 0 0, .slice none 0 0] 29)).cell? ⟨w.heap.size, 12, none⟩ = some (.slice am N.mtch.length cm) := ⟨by simp [go_sem], by simp [go_sem], by simp [go_sem], by simp [go_sem]⟩
  refine wp_region_G (fun w' => w'.cell? ⟨w.heap.size, 6, none⟩ = some (.slice al N.log.length cl) ∧ w'.cell? ⟨w.heap.size, 10, none⟩ = some (.slice av N.votes.length cv) ∧ w'.cell? ⟨w.heap.size, 11, none⟩ = some (.slice an N.next.length cn) ∧ w'.cell? ⟨w.heap.size, 12, none⟩ = some (.slice am N.mtch.length cm)) (fun i => i == 13 || i == 15 || i == 17 || i == 19) (by kernel_rfl) hS0 ?_
  refine wpAnyG_takeW (i := 0) (v := ?_) rfl (by kernel_rfl) (by kernel_rfl) (by kernel_rfl) (fun _ _ _ h => h) (Or.inl ⟨by rfl, ?_⟩) ?_
  rotate_left
  · intro w' hSw
    go_simp
    try (with_reducible rfl)
  try simp only [Act.put, List.getElem_toArray, List.getElem_cons_zero, List.getElem_cons_succ, List.setIfInBounds_toArray, List.set_cons_zero, List.set_cons_succ]
  refine wpAnyG_take (i := 1) (v := ?_) rfl (by kernel_rfl) (by kernel_rfl) (by kernel_rfl) (by kernel_rfl) (fun _ _ _ h => h) hS0 (Or.inl ⟨by rfl, ?_⟩) ?_
  rotate_left
  · intro w' hSw
    obtain ⟨s1, s2, s3, s4⟩ := hSw
    go_simp
    try (with_reducible rfl)
  try simp only [Act.put, List.getElem_toArray, List.getElem_cons_zero, List.getElem_cons_succ, List.setIfInBounds_toArray, List.set_cons_zero, List.set_cons_succ]
  refine wpAnyG_takeW (i := 3) (v := ?_) rfl (by kernel_rfl) (by kernel_rfl) (by kernel_rfl) (fun _ _ _ h => h) (Or.inl ⟨by rfl, ?_⟩) ?_
  rotate_left
  · intro w' hSw
    go_simp
    try (with_reducible rfl)
  try simp only [Act.put, List.getElem_toArray, List.getElem_cons_zero, List.getElem_cons_succ, List.setIfInBounds_toArray, List.set_cons_zero, List.set_cons_succ]
  refine wpAnyG_take (i := 4) (v := ?_) rfl (by kernel_rfl) (by kernel_rfl) (by kernel_rfl) (by kernel_rfl) (fun _ _ _ h => h) hS0 (Or.inl ⟨by rfl, ?_⟩) ?_
  rotate_left
  · intro w' hSw
    obtain ⟨s1, s2, s3, s4⟩ := hSw
    go_simp
    try (with_reducible rfl)
  try simp only [Act.put, List.getElem_toArray, List.getElem_cons_zero, List.getElem_cons_succ, List.setIfInBounds_toArray, List.set_cons_zero, List.set_cons_succ]
  refine wpAnyG_takeW (i := 6) (v := ?_) rfl (by kernel_rfl) (by kernel_rfl) (by kernel_rfl) (fun _ _ _ h => h) (Or.inl ⟨by rfl, ?_⟩) ?_
  rotate_left
  · intro w' hSw
    go_simp
    try (with_reducible rfl)
  try simp only [Act.put, List.getElem_toArray, List.getElem_cons_zero, List.getElem_cons_succ, List.setIfInBounds_toArray, List.set_cons_zero, List.set_cons_succ]
  refine wpAnyG_take (i := 7) (v := ?_) rfl (by kernel_rfl) (by kernel_rfl) (by kernel_rfl) (by kernel_rfl) (fun _ _ _ h => h) hS0 (Or.inl ⟨by rfl, ?_⟩) ?_
  rotate_left
  · intro w' hSw
    obtain ⟨s1, s2, s3, s4⟩ := hSw
    go_simp
    try (with_reducible rfl)
  try simp only [Act.put, List.getElem_toArray, List.getElem_cons_zero, List.getElem_cons_succ, List.setIfInBounds_toArray, List.set_cons_zero, List.set_cons_succ]
  refine wpAnyG_takeW (i := 9) (v := ?_) rfl (by kernel_rfl) (by kernel_rfl) (by kernel_rfl) (fun _ _ _ h => h) (Or.inl ⟨by rfl, ?_⟩) ?_
  rotate_left
  · intro w' hSw
    go_simp
    try (with_reducible rfl)
  try simp only [Act.put, List.getElem_toArray, List.getElem_cons_zero, List.getElem_cons_succ, List.setIfInBounds_toArray, List.set_cons_zero, List.set_cons_succ]
  refine wpAnyG_take (i := 10) (v := ?_) rfl (by kernel_rfl) (by kernel_rfl) (by kernel_rfl) (by kernel_rfl) (fun _ _ _ h => h) hS0 (Or.inl ⟨by rfl, ?_⟩) ?_
  rotate_left
  · intro w' hSw
    obtain ⟨s1, s2, s3, s4⟩ := hSw
    go_simp
    try (with_reducible rfl)
  try simp only [Act.put, List.getElem_toArray, List.getElem_cons_zero, List.getElem_cons_succ, List.setIfInBounds_toArray, List.set_cons_zero, List.set_cons_succ]
  refine wpAnyG_one (i := 2) (by kernel_rfl) rfl hS0 (fun K' hK => ?_)
  simp only [List.getElem_toArray, List.getElem_cons_zero, List.getElem_cons_succ]
  go_simp
  go_at_call 45
  refine (cloneE_c al cl N.log _ (H1.out.keep ((((Below.refl w.heap.size w).alloc (Nat.le_refl _) (.cells #[.int .i64 N.id, .int .i64 N.nodes, .int .i64 N.term, .int .i64 N.vote, .int .i64 N.role, .bool N.up, .slice al N.log.length cl, .int .i64 N.commit, .int .i64 N.elapsed, .int .i64 N.wait, .slice av N.votes.length cv, .slice an N.next.length cn, .slice am N.mtch.length cm] 29)).alloc (by simp) (.cells #[.int .i64 0, .int .i64 0, .int .i64 0, .int .i64 0, .int .i64 0, .bool false, .slice none 0 0, .int .i64 0, .int .i64 0, .int .i64 0, .slice none 0 0, .slice none 0 0, .slice none 0 0] 29)).drew)) z1).mono ?_
  rintro e w1 ⟨v1, rfl, hf1, hb1⟩
  obtain ⟨a1, c1, rfl, _, _⟩ := id hf1
  have hz1 := hb1.size
  simp only [World.size_drew, World.size_alloc] at hz1
  have HB1 : Hid (Below w.heap.size w w1) := Lib.hid (((((Below.refl w.heap.size w).alloc (Nat.le_refl _) (.cells #[.int .i64 N.id, .int .i64 N.nodes, .int .i64 N.term, .int .i64 N.vote, .int .i64 N.role, .bool N.up, .slice al N.log.length cl, .int .i64 N.commit, .int .i64 N.elapsed, .int .i64 N.wait, .slice av N.votes.length cv, .slice an N.next.length cn, .slice am N.mtch.length cm] 29)).alloc (by simp) (.cells #[.int .i64 0, .int .i64 0, .int .i64 0, .int .i64 0, .int .i64 0, .bool false, .slice none 0 0, .int .i64 0, .int .i64 0, .int .i64 0, .slice none 0 0, .slice none 0 0, .slice none 0 0] 29)).drew).trans (hb1.mono (by first | omega | (simp; omega))))
  have hl1 : w.heap.size + 1 < w1.heap.size := by omega
  have q1_0_0 : w1.cell? ⟨w.heap.size, 0, none⟩ = some (.int .i64 N.id) := (hb1.cell (p := ⟨w.heap.size, 0, none⟩) (by show w.heap.size < _; (try simp) <;> omega)).trans (by simp [go_sem])
  have q1_1_0 : w1.cell? ⟨w.heap.size + 1, 0, none⟩ = some (.int .i64 0) := (hb1.cell (p := ⟨w.heap.size + 1, 0, none⟩) (by show w.heap.size + 1 < _; (try simp) <;> omega)).trans (by simp [go_sem])
  have q1_0_1 : w1.cell? ⟨w.heap.size, 1, none⟩ = some (.int .i64 N.nodes) := (hb1.cell (p := ⟨w.heap.size, 1, none⟩) (by show w.heap.size < _; (try simp) <;> omega)).trans (by simp [go_sem])
  have q1_1_1 : w1.cell? ⟨w.heap.size + 1, 1, none⟩ = some (.int .i64 0) := (hb1.cell (p := ⟨w.heap.size + 1, 1, none⟩) (by show w.heap.size + 1 < _; (try simp) <;> omega)).trans (by simp [go_sem])
  have q1_0_2 : w1.cell? ⟨w.heap.size, 2, none⟩ = some (.int .i64 N.term) := (hb1.cell (p := ⟨w.heap.size, 2, none⟩) (by show w.heap.size < _; (try simp) <;> omega)).trans (by simp [go_sem])
  have q1_1_2 : w1.cell? ⟨w.heap.size + 1, 2, none⟩ = some (.int .i64 0) := (hb1.cell (p := ⟨w.heap.size + 1, 2, none⟩) (by show w.heap.size + 1 < _; (try simp) <;> omega)).trans (by simp [go_sem])
  have q1_0_3 : w1.cell? ⟨w.heap.size, 3, none⟩ = some (.int .i64 N.vote) := (hb1.cell (p := ⟨w.heap.size, 3, none⟩) (by show w.heap.size < _; (try simp) <;> omega)).trans (by simp [go_sem])
  have q1_1_3 : w1.cell? ⟨w.heap.size + 1, 3, none⟩ = some (.int .i64 0) := (hb1.cell (p := ⟨w.heap.size + 1, 3, none⟩) (by show w.heap.size + 1 < _; (try simp) <;> omega)).trans (by simp [go_sem])
  have q1_0_4 : w1.cell? ⟨w.heap.size, 4, none⟩ = some (.int .i64 N.role) := (hb1.cell (p := ⟨w.heap.size, 4, none⟩) (by show w.heap.size < _; (try simp) <;> omega)).trans (by simp [go_sem])
  have q1_1_4 : w1.cell? ⟨w.heap.size + 1, 4, none⟩ = some (.int .i64 0) := (hb1.cell (p := ⟨w.heap.size + 1, 4, none⟩) (by show w.heap.size + 1 < _; (try simp) <;> omega)).trans (by simp [go_sem])
  have q1_0_5 : w1.cell? ⟨w.heap.size, 5, none⟩ = some (.bool N.up) := (hb1.cell (p := ⟨w.heap.size, 5, none⟩) (by show w.heap.size < _; (try simp) <;> omega)).trans (by simp [go_sem])
  have q1_1_5 : w1.cell? ⟨w.heap.size + 1, 5, none⟩ = some (.bool false) := (hb1.cell (p := ⟨w.heap.size + 1, 5, none⟩) (by show w.heap.size + 1 < _; (try simp) <;> omega)).trans (by simp [go_sem])
  have q1_0_6 : w1.cell? ⟨w.heap.size, 6, none⟩ = some (.slice al N.log.length cl) := (hb1.cell (p := ⟨w.heap.size, 6, none⟩) (by show w.heap.size < _; (try simp) <;> omega)).trans (by simp [go_sem])
  have q1_1_6 : w1.cell? ⟨w.heap.size + 1, 6, none⟩ = some (.slice none 0 0) := (hb1.cell (p := ⟨w.heap.size + 1, 6, none⟩) (by show w.heap.size + 1 < _; (try simp) <;> omega)).trans (by simp [go_sem])
  have q1_0_7 : w1.cell? ⟨w.heap.size, 7, none⟩ = some (.int .i64 N.commit) := (hb1.cell (p := ⟨w.heap.size, 7, none⟩) (by show w.heap.size < _; (try simp) <;> omega)).trans (by simp [go_sem])
  have q1_1_7 : w1.cell? ⟨w.heap.size + 1, 7, none⟩ = some (.int .i64 0) := (hb1.cell (p := ⟨w.heap.size + 1, 7, none⟩) (by show w.heap.size + 1 < _; (try simp) <;> omega)).trans (by simp [go_sem])
  have q1_0_8 : w1.cell? ⟨w.heap.size, 8, none⟩ = some (.int .i64 N.elapsed) := (hb1.cell (p := ⟨w.heap.size, 8, none⟩) (by show w.heap.size < _; (try simp) <;> omega)).trans (by simp [go_sem])
  have q1_1_8 : w1.cell? ⟨w.heap.size + 1, 8, none⟩ = some (.int .i64 0) := (hb1.cell (p := ⟨w.heap.size + 1, 8, none⟩) (by show w.heap.size + 1 < _; (try simp) <;> omega)).trans (by simp [go_sem])
  have q1_0_9 : w1.cell? ⟨w.heap.size, 9, none⟩ = some (.int .i64 N.wait) := (hb1.cell (p := ⟨w.heap.size, 9, none⟩) (by show w.heap.size < _; (try simp) <;> omega)).trans (by simp [go_sem])
  have q1_1_9 : w1.cell? ⟨w.heap.size + 1, 9, none⟩ = some (.int .i64 0) := (hb1.cell (p := ⟨w.heap.size + 1, 9, none⟩) (by show w.heap.size + 1 < _; (try simp) <;> omega)).trans (by simp [go_sem])
  have q1_0_10 : w1.cell? ⟨w.heap.size, 10, none⟩ = some (.slice av N.votes.length cv) := (hb1.cell (p := ⟨w.heap.size, 10, none⟩) (by show w.heap.size < _; (try simp) <;> omega)).trans (by simp [go_sem])
  have q1_1_10 : w1.cell? ⟨w.heap.size + 1, 10, none⟩ = some (.slice none 0 0) := (hb1.cell (p := ⟨w.heap.size + 1, 10, none⟩) (by show w.heap.size + 1 < _; (try simp) <;> omega)).trans (by simp [go_sem])
  have q1_0_11 : w1.cell? ⟨w.heap.size, 11, none⟩ = some (.slice an N.next.length cn) := (hb1.cell (p := ⟨w.heap.size, 11, none⟩) (by show w.heap.size < _; (try simp) <;> omega)).trans (by simp [go_sem])
  have q1_1_11 : w1.cell? ⟨w.heap.size + 1, 11, none⟩ = some (.slice none 0 0) := (hb1.cell (p := ⟨w.heap.size + 1, 11, none⟩) (by show w.heap.size + 1 < _; (try simp) <;> omega)).trans (by simp [go_sem])
  have q1_0_12 : w1.cell? ⟨w.heap.size, 12, none⟩ = some (.slice am N.mtch.length cm) := (hb1.cell (p := ⟨w.heap.size, 12, none⟩) (by show w.heap.size < _; (try simp) <;> omega)).trans (by simp [go_sem])
  have q1_1_12 : w1.cell? ⟨w.heap.size + 1, 12, none⟩ = some (.slice none 0 0) := (hb1.cell (p := ⟨w.heap.size + 1, 12, none⟩) (by show w.heap.size + 1 < _; (try simp) <;> omega)).trans (by simp [go_sem])
  have f1_0 : ∀ o, w1.frozen? ⟨w.heap.size, o, none⟩ = false := fun o => (hb1.frozen (p := ⟨w.heap.size, o, none⟩) (by show w.heap.size < _; (try simp) <;> omega)).trans (by simp [go_sem])
  have f1_1 : ∀ o, w1.frozen? ⟨w.heap.size + 1, o, none⟩ = false := fun o => (hb1.frozen (p := ⟨w.heap.size + 1, o, none⟩) (by show w.heap.size + 1 < _; (try simp) <;> omega)).trans (by simp [go_sem])
  have hS1 : w1.cell? ⟨w.heap.size, 6, none⟩ = some (.slice al N.log.length cl) ∧ w1.cell? ⟨w.heap.size, 10, none⟩ = some (.slice av N.votes.length cv) ∧ w1.cell? ⟨w.heap.size, 11, none⟩ = some (.slice an N.next.length cn) ∧ w1.cell? ⟨w.heap.size, 12, none⟩ = some (.slice am N.mtch.length cm) := ⟨q1_0_6, q1_0_10, q1_0_11, q1_0_12⟩
  have F1_1 := Lib.hid hf1.here
  simp only []
  refine hK.out _ _ (Or.inr hS1) ?_
  clear hK K' hb1 hf1
  try simp only [Act.put, List.getElem_toArray, List.getElem_cons_zero, List.getElem_cons_succ, List.setIfInBounds_toArray, List.set_cons_zero, List.set_cons_succ]
  refine wpAnyG_takeW (i := 12) (v := ?_) rfl (by kernel_rfl) (by kernel_rfl) (by kernel_rfl) (fun _ _ _ h => h) (Or.inl ⟨by rfl, ?_⟩) ?_
  rotate_left
  · intro w' hSw
    go_simp
    try (with_reducible rfl)
  try simp only [Act.put, List.getElem_toArray, List.getElem_cons_zero, List.getElem_cons_succ, List.setIfInBounds_toArray, List.set_cons_zero, List.set_cons_succ]
  refine wpAnyG_one (i := 5) (by kernel_rfl) rfl hS1 (fun K' hK => ?_)
  simp only [List.getElem_toArray, List.getElem_cons_zero, List.getElem_cons_succ]
  go_simp
  go_at_call 46
  refine (cloneI_c av cv N.votes _ (H2.out.keep HB1.out) z2).mono ?_
  rintro e w2 ⟨v2, rfl, hf2, hb2⟩
  obtain ⟨a2, c2, rfl, _, _⟩ := id hf2
  have hz2 := hb2.size
  have HB2 : Hid (Below w.heap.size w w2) := Lib.hid (HB1.out.trans (hb2.mono (by first | omega | (simp; omega))))
  have hl2 : w.heap.size + 1 < w2.heap.size := by omega
  have q2_0_0 : w2.cell? ⟨w.heap.size, 0, none⟩ = some (.int .i64 N.id) := (hb2.cell (p := ⟨w.heap.size, 0, none⟩) (by show w.heap.size < _; (try simp) <;> omega)).trans (q1_0_0)
  have q2_1_0 : w2.cell? ⟨w.heap.size + 1, 0, none⟩ = some (.int .i64 0) := (hb2.cell (p := ⟨w.heap.size + 1, 0, none⟩) (by show w.heap.size + 1 < _; (try simp) <;> omega)).trans (q1_1_0)
  have q2_0_1 : w2.cell? ⟨w.heap.size, 1, none⟩ = some (.int .i64 N.nodes) := (hb2.cell (p := ⟨w.heap.size, 1, none⟩) (by show w.heap.size < _; (try simp) <;> omega)).trans (q1_0_1)
  have q2_1_1 : w2.cell? ⟨w.heap.size + 1, 1, none⟩ = some (.int .i64 0) := (hb2.cell (p := ⟨w.heap.size + 1, 1, none⟩) (by show w.heap.size + 1 < _; (try simp) <;> omega)).trans (q1_1_1)
  have q2_0_2 : w2.cell? ⟨w.heap.size, 2, none⟩ = some (.int .i64 N.term) := (hb2.cell (p := ⟨w.heap.size, 2, none⟩) (by show w.heap.size < _; (try simp) <;> omega)).trans (q1_0_2)
  have q2_1_2 : w2.cell? ⟨w.heap.size + 1, 2, none⟩ = some (.int .i64 0) := (hb2.cell (p := ⟨w.heap.size + 1, 2, none⟩) (by show w.heap.size + 1 < _; (try simp) <;> omega)).trans (q1_1_2)
  have q2_0_3 : w2.cell? ⟨w.heap.size, 3, none⟩ = some (.int .i64 N.vote) := (hb2.cell (p := ⟨w.heap.size, 3, none⟩) (by show w.heap.size < _; (try simp) <;> omega)).trans (q1_0_3)
  have q2_1_3 : w2.cell? ⟨w.heap.size + 1, 3, none⟩ = some (.int .i64 0) := (hb2.cell (p := ⟨w.heap.size + 1, 3, none⟩) (by show w.heap.size + 1 < _; (try simp) <;> omega)).trans (q1_1_3)
  have q2_0_4 : w2.cell? ⟨w.heap.size, 4, none⟩ = some (.int .i64 N.role) := (hb2.cell (p := ⟨w.heap.size, 4, none⟩) (by show w.heap.size < _; (try simp) <;> omega)).trans (q1_0_4)
  have q2_1_4 : w2.cell? ⟨w.heap.size + 1, 4, none⟩ = some (.int .i64 0) := (hb2.cell (p := ⟨w.heap.size + 1, 4, none⟩) (by show w.heap.size + 1 < _; (try simp) <;> omega)).trans (q1_1_4)
  have q2_0_5 : w2.cell? ⟨w.heap.size, 5, none⟩ = some (.bool N.up) := (hb2.cell (p := ⟨w.heap.size, 5, none⟩) (by show w.heap.size < _; (try simp) <;> omega)).trans (q1_0_5)
  have q2_1_5 : w2.cell? ⟨w.heap.size + 1, 5, none⟩ = some (.bool false) := (hb2.cell (p := ⟨w.heap.size + 1, 5, none⟩) (by show w.heap.size + 1 < _; (try simp) <;> omega)).trans (q1_1_5)
  have q2_0_6 : w2.cell? ⟨w.heap.size, 6, none⟩ = some (.slice al N.log.length cl) := (hb2.cell (p := ⟨w.heap.size, 6, none⟩) (by show w.heap.size < _; (try simp) <;> omega)).trans (q1_0_6)
  have q2_1_6 : w2.cell? ⟨w.heap.size + 1, 6, none⟩ = some (.slice none 0 0) := (hb2.cell (p := ⟨w.heap.size + 1, 6, none⟩) (by show w.heap.size + 1 < _; (try simp) <;> omega)).trans (q1_1_6)
  have q2_0_7 : w2.cell? ⟨w.heap.size, 7, none⟩ = some (.int .i64 N.commit) := (hb2.cell (p := ⟨w.heap.size, 7, none⟩) (by show w.heap.size < _; (try simp) <;> omega)).trans (q1_0_7)
  have q2_1_7 : w2.cell? ⟨w.heap.size + 1, 7, none⟩ = some (.int .i64 0) := (hb2.cell (p := ⟨w.heap.size + 1, 7, none⟩) (by show w.heap.size + 1 < _; (try simp) <;> omega)).trans (q1_1_7)
  have q2_0_8 : w2.cell? ⟨w.heap.size, 8, none⟩ = some (.int .i64 N.elapsed) := (hb2.cell (p := ⟨w.heap.size, 8, none⟩) (by show w.heap.size < _; (try simp) <;> omega)).trans (q1_0_8)
  have q2_1_8 : w2.cell? ⟨w.heap.size + 1, 8, none⟩ = some (.int .i64 0) := (hb2.cell (p := ⟨w.heap.size + 1, 8, none⟩) (by show w.heap.size + 1 < _; (try simp) <;> omega)).trans (q1_1_8)
  have q2_0_9 : w2.cell? ⟨w.heap.size, 9, none⟩ = some (.int .i64 N.wait) := (hb2.cell (p := ⟨w.heap.size, 9, none⟩) (by show w.heap.size < _; (try simp) <;> omega)).trans (q1_0_9)
  have q2_1_9 : w2.cell? ⟨w.heap.size + 1, 9, none⟩ = some (.int .i64 0) := (hb2.cell (p := ⟨w.heap.size + 1, 9, none⟩) (by show w.heap.size + 1 < _; (try simp) <;> omega)).trans (q1_1_9)
  have q2_0_10 : w2.cell? ⟨w.heap.size, 10, none⟩ = some (.slice av N.votes.length cv) := (hb2.cell (p := ⟨w.heap.size, 10, none⟩) (by show w.heap.size < _; (try simp) <;> omega)).trans (q1_0_10)
  have q2_1_10 : w2.cell? ⟨w.heap.size + 1, 10, none⟩ = some (.slice none 0 0) := (hb2.cell (p := ⟨w.heap.size + 1, 10, none⟩) (by show w.heap.size + 1 < _; (try simp) <;> omega)).trans (q1_1_10)
  have q2_0_11 : w2.cell? ⟨w.heap.size, 11, none⟩ = some (.slice an N.next.length cn) := (hb2.cell (p := ⟨w.heap.size, 11, none⟩) (by show w.heap.size < _; (try simp) <;> omega)).trans (q1_0_11)
  have q2_1_11 : w2.cell? ⟨w.heap.size + 1, 11, none⟩ = some (.slice none 0 0) := (hb2.cell (p := ⟨w.heap.size + 1, 11, none⟩) (by show w.heap.size + 1 < _; (try simp) <;> omega)).trans (q1_1_11)
  have q2_0_12 : w2.cell? ⟨w.heap.size, 12, none⟩ = some (.slice am N.mtch.length cm) := (hb2.cell (p := ⟨w.heap.size, 12, none⟩) (by show w.heap.size < _; (try simp) <;> omega)).trans (q1_0_12)
  have q2_1_12 : w2.cell? ⟨w.heap.size + 1, 12, none⟩ = some (.slice none 0 0) := (hb2.cell (p := ⟨w.heap.size + 1, 12, none⟩) (by show w.heap.size + 1 < _; (try simp) <;> omega)).trans (q1_1_12)
  have f2_0 : ∀ o, w2.frozen? ⟨w.heap.size, o, none⟩ = false := fun o => (hb2.frozen (p := ⟨w.heap.size, o, none⟩) (by show w.heap.size < _; (try simp) <;> omega)).trans (f1_0 o)
  have f2_1 : ∀ o, w2.frozen? ⟨w.heap.size + 1, o, none⟩ = false := fun o => (hb2.frozen (p := ⟨w.heap.size + 1, o, none⟩) (by show w.heap.size + 1 < _; (try simp) <;> omega)).trans (f1_1 o)
  have hS2 : w2.cell? ⟨w.heap.size, 6, none⟩ = some (.slice al N.log.length cl) ∧ w2.cell? ⟨w.heap.size, 10, none⟩ = some (.slice av N.votes.length cv) ∧ w2.cell? ⟨w.heap.size, 11, none⟩ = some (.slice an N.next.length cn) ∧ w2.cell? ⟨w.heap.size, 12, none⟩ = some (.slice am N.mtch.length cm) := ⟨q2_0_6, q2_0_10, q2_0_11, q2_0_12⟩
  have F2_2 := Lib.hid hf2.here
  have F1_2 := Lib.hid (F1_1.out.below hb2)
  simp only []
  refine hK.out _ _ (Or.inr hS2) ?_
  clear hK K' hb2 hf2 q1_0_0 q1_0_1 q1_0_2 q1_0_3 q1_0_4 q1_0_5 q1_0_6 q1_0_7 q1_0_8 q1_0_9 q1_0_10 q1_0_11 q1_0_12 q1_1_0 q1_1_1 q1_1_2 q1_1_3 q1_1_4 q1_1_5 q1_1_6 q1_1_7 q1_1_8 q1_1_9 q1_1_10 q1_1_11 q1_1_12 f1_0 f1_1 hS1
  try simp only [Act.put, List.getElem_toArray, List.getElem_cons_zero, List.getElem_cons_succ, List.setIfInBounds_toArray, List.set_cons_zero, List.set_cons_succ]
  refine wpAnyG_one (i := 8) (by kernel_rfl) rfl hS2 (fun K' hK => ?_)
  simp only [List.getElem_toArray, List.getElem_cons_zero, List.getElem_cons_succ]
  go_simp
  go_at_call 46
  refine (cloneI_c an cn N.next _ (H3.out.keep HB2.out) z3).mono ?_
  rintro e w3 ⟨v3, rfl, hf3, hb3⟩
  obtain ⟨a3, c3, rfl, _, _⟩ := id hf3
  have hz3 := hb3.size
  have HB3 : Hid (Below w.heap.size w w3) := Lib.hid (HB2.out.trans (hb3.mono (by first | omega | (simp; omega))))
  have hl3 : w.heap.size + 1 < w3.heap.size := by omega
  have q3_0_0 : w3.cell? ⟨w.heap.size, 0, none⟩ = some (.int .i64 N.id) := (hb3.cell (p := ⟨w.heap.size, 0, none⟩) (by show w.heap.size < _; (try simp) <;> omega)).trans (q2_0_0)
  have q3_1_0 : w3.cell? ⟨w.heap.size + 1, 0, none⟩ = some (.int .i64 0) := (hb3.cell (p := ⟨w.heap.size + 1, 0, none⟩) (by show w.heap.size + 1 < _; (try simp) <;> omega)).trans (q2_1_0)
  have q3_0_1 : w3.cell? ⟨w.heap.size, 1, none⟩ = some (.int .i64 N.nodes) := (hb3.cell (p := ⟨w.heap.size, 1, none⟩) (by show w.heap.size < _; (try simp) <;> omega)).trans (q2_0_1)
  have q3_1_1 : w3.cell? ⟨w.heap.size + 1, 1, none⟩ = some (.int .i64 0) := (hb3.cell (p := ⟨w.heap.size + 1, 1, none⟩) (by show w.heap.size + 1 < _; (try simp) <;> omega)).trans (q2_1_1)
  have q3_0_2 : w3.cell? ⟨w.heap.size, 2, none⟩ = some (.int .i64 N.term) := (hb3.cell (p := ⟨w.heap.size, 2, none⟩) (by show w.heap.size < _; (try simp) <;> omega)).trans (q2_0_2)
  have q3_1_2 : w3.cell? ⟨w.heap.size + 1, 2, none⟩ = some (.int .i64 0) := (hb3.cell (p := ⟨w.heap.size + 1, 2, none⟩) (by show w.heap.size + 1 < _; (try simp) <;> omega)).trans (q2_1_2)
  have q3_0_3 : w3.cell? ⟨w.heap.size, 3, none⟩ = some (.int .i64 N.vote) := (hb3.cell (p := ⟨w.heap.size, 3, none⟩) (by show w.heap.size < _; (try simp) <;> omega)).trans (q2_0_3)
  have q3_1_3 : w3.cell? ⟨w.heap.size + 1, 3, none⟩ = some (.int .i64 0) := (hb3.cell (p := ⟨w.heap.size + 1, 3, none⟩) (by show w.heap.size + 1 < _; (try simp) <;> omega)).trans (q2_1_3)
  have q3_0_4 : w3.cell? ⟨w.heap.size, 4, none⟩ = some (.int .i64 N.role) := (hb3.cell (p := ⟨w.heap.size, 4, none⟩) (by show w.heap.size < _; (try simp) <;> omega)).trans (q2_0_4)
  have q3_1_4 : w3.cell? ⟨w.heap.size + 1, 4, none⟩ = some (.int .i64 0) := (hb3.cell (p := ⟨w.heap.size + 1, 4, none⟩) (by show w.heap.size + 1 < _; (try simp) <;> omega)).trans (q2_1_4)
  have q3_0_5 : w3.cell? ⟨w.heap.size, 5, none⟩ = some (.bool N.up) := (hb3.cell (p := ⟨w.heap.size, 5, none⟩) (by show w.heap.size < _; (try simp) <;> omega)).trans (q2_0_5)
  have q3_1_5 : w3.cell? ⟨w.heap.size + 1, 5, none⟩ = some (.bool false) := (hb3.cell (p := ⟨w.heap.size + 1, 5, none⟩) (by show w.heap.size + 1 < _; (try simp) <;> omega)).trans (q2_1_5)
  have q3_0_6 : w3.cell? ⟨w.heap.size, 6, none⟩ = some (.slice al N.log.length cl) := (hb3.cell (p := ⟨w.heap.size, 6, none⟩) (by show w.heap.size < _; (try simp) <;> omega)).trans (q2_0_6)
  have q3_1_6 : w3.cell? ⟨w.heap.size + 1, 6, none⟩ = some (.slice none 0 0) := (hb3.cell (p := ⟨w.heap.size + 1, 6, none⟩) (by show w.heap.size + 1 < _; (try simp) <;> omega)).trans (q2_1_6)
  have q3_0_7 : w3.cell? ⟨w.heap.size, 7, none⟩ = some (.int .i64 N.commit) := (hb3.cell (p := ⟨w.heap.size, 7, none⟩) (by show w.heap.size < _; (try simp) <;> omega)).trans (q2_0_7)
  have q3_1_7 : w3.cell? ⟨w.heap.size + 1, 7, none⟩ = some (.int .i64 0) := (hb3.cell (p := ⟨w.heap.size + 1, 7, none⟩) (by show w.heap.size + 1 < _; (try simp) <;> omega)).trans (q2_1_7)
  have q3_0_8 : w3.cell? ⟨w.heap.size, 8, none⟩ = some (.int .i64 N.elapsed) := (hb3.cell (p := ⟨w.heap.size, 8, none⟩) (by show w.heap.size < _; (try simp) <;> omega)).trans (q2_0_8)
  have q3_1_8 : w3.cell? ⟨w.heap.size + 1, 8, none⟩ = some (.int .i64 0) := (hb3.cell (p := ⟨w.heap.size + 1, 8, none⟩) (by show w.heap.size + 1 < _; (try simp) <;> omega)).trans (q2_1_8)
  have q3_0_9 : w3.cell? ⟨w.heap.size, 9, none⟩ = some (.int .i64 N.wait) := (hb3.cell (p := ⟨w.heap.size, 9, none⟩) (by show w.heap.size < _; (try simp) <;> omega)).trans (q2_0_9)
  have q3_1_9 : w3.cell? ⟨w.heap.size + 1, 9, none⟩ = some (.int .i64 0) := (hb3.cell (p := ⟨w.heap.size + 1, 9, none⟩) (by show w.heap.size + 1 < _; (try simp) <;> omega)).trans (q2_1_9)
  have q3_0_10 : w3.cell? ⟨w.heap.size, 10, none⟩ = some (.slice av N.votes.length cv) := (hb3.cell (p := ⟨w.heap.size, 10, none⟩) (by show w.heap.size < _; (try simp) <;> omega)).trans (q2_0_10)
  have q3_1_10 : w3.cell? ⟨w.heap.size + 1, 10, none⟩ = some (.slice none 0 0) := (hb3.cell (p := ⟨w.heap.size + 1, 10, none⟩) (by show w.heap.size + 1 < _; (try simp) <;> omega)).trans (q2_1_10)
  have q3_0_11 : w3.cell? ⟨w.heap.size, 11, none⟩ = some (.slice an N.next.length cn) := (hb3.cell (p := ⟨w.heap.size, 11, none⟩) (by show w.heap.size < _; (try simp) <;> omega)).trans (q2_0_11)
  have q3_1_11 : w3.cell? ⟨w.heap.size + 1, 11, none⟩ = some (.slice none 0 0) := (hb3.cell (p := ⟨w.heap.size + 1, 11, none⟩) (by show w.heap.size + 1 < _; (try simp) <;> omega)).trans (q2_1_11)
  have q3_0_12 : w3.cell? ⟨w.heap.size, 12, none⟩ = some (.slice am N.mtch.length cm) := (hb3.cell (p := ⟨w.heap.size, 12, none⟩) (by show w.heap.size < _; (try simp) <;> omega)).trans (q2_0_12)
  have q3_1_12 : w3.cell? ⟨w.heap.size + 1, 12, none⟩ = some (.slice none 0 0) := (hb3.cell (p := ⟨w.heap.size + 1, 12, none⟩) (by show w.heap.size + 1 < _; (try simp) <;> omega)).trans (q2_1_12)
  have f3_0 : ∀ o, w3.frozen? ⟨w.heap.size, o, none⟩ = false := fun o => (hb3.frozen (p := ⟨w.heap.size, o, none⟩) (by show w.heap.size < _; (try simp) <;> omega)).trans (f2_0 o)
  have f3_1 : ∀ o, w3.frozen? ⟨w.heap.size + 1, o, none⟩ = false := fun o => (hb3.frozen (p := ⟨w.heap.size + 1, o, none⟩) (by show w.heap.size + 1 < _; (try simp) <;> omega)).trans (f2_1 o)
  have hS3 : w3.cell? ⟨w.heap.size, 6, none⟩ = some (.slice al N.log.length cl) ∧ w3.cell? ⟨w.heap.size, 10, none⟩ = some (.slice av N.votes.length cv) ∧ w3.cell? ⟨w.heap.size, 11, none⟩ = some (.slice an N.next.length cn) ∧ w3.cell? ⟨w.heap.size, 12, none⟩ = some (.slice am N.mtch.length cm) := ⟨q3_0_6, q3_0_10, q3_0_11, q3_0_12⟩
  have F3_3 := Lib.hid hf3.here
  have F1_3 := Lib.hid (F1_2.out.below hb3)
  have F2_3 := Lib.hid (F2_2.out.below hb3)
  simp only []
  refine hK.out _ _ (Or.inr hS3) ?_
  clear hK K' hb3 hf3 q2_0_0 q2_0_1 q2_0_2 q2_0_3 q2_0_4 q2_0_5 q2_0_6 q2_0_7 q2_0_8 q2_0_9 q2_0_10 q2_0_11 q2_0_12 q2_1_0 q2_1_1 q2_1_2 q2_1_3 q2_1_4 q2_1_5 q2_1_6 q2_1_7 q2_1_8 q2_1_9 q2_1_10 q2_1_11 q2_1_12 f2_0 f2_1 hS2
  try simp only [Act.put, List.getElem_toArray, List.getElem_cons_zero, List.getElem_cons_succ, List.setIfInBounds_toArray, List.set_cons_zero, List.set_cons_succ]
  refine wpAnyG_one (i := 11) (by kernel_rfl) rfl hS3 (fun K' hK => ?_)
  simp only [List.getElem_toArray, List.getElem_cons_zero, List.getElem_cons_succ]
  go_simp
  go_at_call 46
  refine (cloneI_c am cm N.mtch _ (H4.out.keep HB3.out) z4).mono ?_
  rintro e w4 ⟨v4, rfl, hf4, hb4⟩
  obtain ⟨a4, c4, rfl, _, _⟩ := id hf4
  have hz4 := hb4.size
  have HB4 : Hid (Below w.heap.size w w4) := Lib.hid (HB3.out.trans (hb4.mono (by first | omega | (simp; omega))))
  have hl4 : w.heap.size + 1 < w4.heap.size := by omega
  have q4_0_0 : w4.cell? ⟨w.heap.size, 0, none⟩ = some (.int .i64 N.id) := (hb4.cell (p := ⟨w.heap.size, 0, none⟩) (by show w.heap.size < _; (try simp) <;> omega)).trans (q3_0_0)
  have q4_1_0 : w4.cell? ⟨w.heap.size + 1, 0, none⟩ = some (.int .i64 0) := (hb4.cell (p := ⟨w.heap.size + 1, 0, none⟩) (by show w.heap.size + 1 < _; (try simp) <;> omega)).trans (q3_1_0)
  have q4_0_1 : w4.cell? ⟨w.heap.size, 1, none⟩ = some (.int .i64 N.nodes) := (hb4.cell (p := ⟨w.heap.size, 1, none⟩) (by show w.heap.size < _; (try simp) <;> omega)).trans (q3_0_1)
  have q4_1_1 : w4.cell? ⟨w.heap.size + 1, 1, none⟩ = some (.int .i64 0) := (hb4.cell (p := ⟨w.heap.size + 1, 1, none⟩) (by show w.heap.size + 1 < _; (try simp) <;> omega)).trans (q3_1_1)
  have q4_0_2 : w4.cell? ⟨w.heap.size, 2, none⟩ = some (.int .i64 N.term) := (hb4.cell (p := ⟨w.heap.size, 2, none⟩) (by show w.heap.size < _; (try simp) <;> omega)).trans (q3_0_2)
  have q4_1_2 : w4.cell? ⟨w.heap.size + 1, 2, none⟩ = some (.int .i64 0) := (hb4.cell (p := ⟨w.heap.size + 1, 2, none⟩) (by show w.heap.size + 1 < _; (try simp) <;> omega)).trans (q3_1_2)
  have q4_0_3 : w4.cell? ⟨w.heap.size, 3, none⟩ = some (.int .i64 N.vote) := (hb4.cell (p := ⟨w.heap.size, 3, none⟩) (by show w.heap.size < _; (try simp) <;> omega)).trans (q3_0_3)
  have q4_1_3 : w4.cell? ⟨w.heap.size + 1, 3, none⟩ = some (.int .i64 0) := (hb4.cell (p := ⟨w.heap.size + 1, 3, none⟩) (by show w.heap.size + 1 < _; (try simp) <;> omega)).trans (q3_1_3)
  have q4_0_4 : w4.cell? ⟨w.heap.size, 4, none⟩ = some (.int .i64 N.role) := (hb4.cell (p := ⟨w.heap.size, 4, none⟩) (by show w.heap.size < _; (try simp) <;> omega)).trans (q3_0_4)
  have q4_1_4 : w4.cell? ⟨w.heap.size + 1, 4, none⟩ = some (.int .i64 0) := (hb4.cell (p := ⟨w.heap.size + 1, 4, none⟩) (by show w.heap.size + 1 < _; (try simp) <;> omega)).trans (q3_1_4)
  have q4_0_5 : w4.cell? ⟨w.heap.size, 5, none⟩ = some (.bool N.up) := (hb4.cell (p := ⟨w.heap.size, 5, none⟩) (by show w.heap.size < _; (try simp) <;> omega)).trans (q3_0_5)
  have q4_1_5 : w4.cell? ⟨w.heap.size + 1, 5, none⟩ = some (.bool false) := (hb4.cell (p := ⟨w.heap.size + 1, 5, none⟩) (by show w.heap.size + 1 < _; (try simp) <;> omega)).trans (q3_1_5)
  have q4_0_6 : w4.cell? ⟨w.heap.size, 6, none⟩ = some (.slice al N.log.length cl) := (hb4.cell (p := ⟨w.heap.size, 6, none⟩) (by show w.heap.size < _; (try simp) <;> omega)).trans (q3_0_6)
  have q4_1_6 : w4.cell? ⟨w.heap.size + 1, 6, none⟩ = some (.slice none 0 0) := (hb4.cell (p := ⟨w.heap.size + 1, 6, none⟩) (by show w.heap.size + 1 < _; (try simp) <;> omega)).trans (q3_1_6)
  have q4_0_7 : w4.cell? ⟨w.heap.size, 7, none⟩ = some (.int .i64 N.commit) := (hb4.cell (p := ⟨w.heap.size, 7, none⟩) (by show w.heap.size < _; (try simp) <;> omega)).trans (q3_0_7)
  have q4_1_7 : w4.cell? ⟨w.heap.size + 1, 7, none⟩ = some (.int .i64 0) := (hb4.cell (p := ⟨w.heap.size + 1, 7, none⟩) (by show w.heap.size + 1 < _; (try simp) <;> omega)).trans (q3_1_7)
  have q4_0_8 : w4.cell? ⟨w.heap.size, 8, none⟩ = some (.int .i64 N.elapsed) := (hb4.cell (p := ⟨w.heap.size, 8, none⟩) (by show w.heap.size < _; (try simp) <;> omega)).trans (q3_0_8)
  have q4_1_8 : w4.cell? ⟨w.heap.size + 1, 8, none⟩ = some (.int .i64 0) := (hb4.cell (p := ⟨w.heap.size + 1, 8, none⟩) (by show w.heap.size + 1 < _; (try simp) <;> omega)).trans (q3_1_8)
  have q4_0_9 : w4.cell? ⟨w.heap.size, 9, none⟩ = some (.int .i64 N.wait) := (hb4.cell (p := ⟨w.heap.size, 9, none⟩) (by show w.heap.size < _; (try simp) <;> omega)).trans (q3_0_9)
  have q4_1_9 : w4.cell? ⟨w.heap.size + 1, 9, none⟩ = some (.int .i64 0) := (hb4.cell (p := ⟨w.heap.size + 1, 9, none⟩) (by show w.heap.size + 1 < _; (try simp) <;> omega)).trans (q3_1_9)
  have q4_0_10 : w4.cell? ⟨w.heap.size, 10, none⟩ = some (.slice av N.votes.length cv) := (hb4.cell (p := ⟨w.heap.size, 10, none⟩) (by show w.heap.size < _; (try simp) <;> omega)).trans (q3_0_10)
  have q4_1_10 : w4.cell? ⟨w.heap.size + 1, 10, none⟩ = some (.slice none 0 0) := (hb4.cell (p := ⟨w.heap.size + 1, 10, none⟩) (by show w.heap.size + 1 < _; (try simp) <;> omega)).trans (q3_1_10)
  have q4_0_11 : w4.cell? ⟨w.heap.size, 11, none⟩ = some (.slice an N.next.length cn) := (hb4.cell (p := ⟨w.heap.size, 11, none⟩) (by show w.heap.size < _; (try simp) <;> omega)).trans (q3_0_11)
  have q4_1_11 : w4.cell? ⟨w.heap.size + 1, 11, none⟩ = some (.slice none 0 0) := (hb4.cell (p := ⟨w.heap.size + 1, 11, none⟩) (by show w.heap.size + 1 < _; (try simp) <;> omega)).trans (q3_1_11)
  have q4_0_12 : w4.cell? ⟨w.heap.size, 12, none⟩ = some (.slice am N.mtch.length cm) := (hb4.cell (p := ⟨w.heap.size, 12, none⟩) (by show w.heap.size < _; (try simp) <;> omega)).trans (q3_0_12)
  have q4_1_12 : w4.cell? ⟨w.heap.size + 1, 12, none⟩ = some (.slice none 0 0) := (hb4.cell (p := ⟨w.heap.size + 1, 12, none⟩) (by show w.heap.size + 1 < _; (try simp) <;> omega)).trans (q3_1_12)
  have f4_0 : ∀ o, w4.frozen? ⟨w.heap.size, o, none⟩ = false := fun o => (hb4.frozen (p := ⟨w.heap.size, o, none⟩) (by show w.heap.size < _; (try simp) <;> omega)).trans (f3_0 o)
  have f4_1 : ∀ o, w4.frozen? ⟨w.heap.size + 1, o, none⟩ = false := fun o => (hb4.frozen (p := ⟨w.heap.size + 1, o, none⟩) (by show w.heap.size + 1 < _; (try simp) <;> omega)).trans (f3_1 o)
  have hS4 : w4.cell? ⟨w.heap.size, 6, none⟩ = some (.slice al N.log.length cl) ∧ w4.cell? ⟨w.heap.size, 10, none⟩ = some (.slice av N.votes.length cv) ∧ w4.cell? ⟨w.heap.size, 11, none⟩ = some (.slice an N.next.length cn) ∧ w4.cell? ⟨w.heap.size, 12, none⟩ = some (.slice am N.mtch.length cm) := ⟨q4_0_6, q4_0_10, q4_0_11, q4_0_12⟩
  have F4_4 := Lib.hid hf4.here
  have F1_4 := Lib.hid (F1_3.out.below hb4)
  have F2_4 := Lib.hid (F2_3.out.below hb4)
  have F3_4 := Lib.hid (F3_3.out.below hb4)
  simp only []
  refine hK.out _ _ (Or.inr hS4) ?_
  clear hK K' hb4 hf4 q3_0_0 q3_0_1 q3_0_2 q3_0_3 q3_0_4 q3_0_5 q3_0_6 q3_0_7 q3_0_8 q3_0_9 q3_0_10 q3_0_11 q3_0_12 q3_1_0 q3_1_1 q3_1_2 q3_1_3 q3_1_4 q3_1_5 q3_1_6 q3_1_7 q3_1_8 q3_1_9 q3_1_10 q3_1_11 q3_1_12 f3_0 f3_1 hS3
  try simp only [Act.put, List.getElem_toArray, List.getElem_cons_zero, List.getElem_cons_succ, List.setIfInBounds_toArray, List.set_cons_zero, List.set_cons_succ]
  refine wpAnyG_oneX (i := 13) (by kernel_rfl) rfl (fun K' hK => ?_)
  simp only [List.getElem_toArray, List.getElem_cons_zero, List.getElem_cons_succ]
  go_simp
  refine hK.out _ _ (Or.inl rfl) ?_
  clear hK K'
  try simp only [Act.put, List.getElem_toArray, List.getElem_cons_zero, List.getElem_cons_succ, List.setIfInBounds_toArray, List.set_cons_zero, List.set_cons_succ]
  refine wpAnyG_takeW (i := 14) (v := ?_) rfl (by kernel_rfl) (by kernel_rfl) (by kernel_rfl) (fun _ _ _ h => h) (Or.inl ⟨by rfl, ?_⟩) ?_
  rotate_left
  · intro w' hSw
    go_simp
    try (with_reducible rfl)
  try simp only [Act.put, List.getElem_toArray, List.getElem_cons_zero, List.getElem_cons_succ, List.setIfInBounds_toArray, List.set_cons_zero, List.set_cons_succ]
  refine wpAnyG_oneX (i := 15) (by kernel_rfl) rfl (fun K' hK => ?_)
  simp only [List.getElem_toArray, List.getElem_cons_zero, List.getElem_cons_succ]
  go_simp
  refine hK.out _ _ (Or.inl rfl) ?_
  clear hK K'
  try simp only [Act.put, List.getElem_toArray, List.getElem_cons_zero, List.getElem_cons_succ, List.setIfInBounds_toArray, List.set_cons_zero, List.set_cons_succ]
  refine wpAnyG_takeW (i := 16) (v := ?_) rfl (by kernel_rfl) (by kernel_rfl) (by kernel_rfl) (fun _ _ _ h => h) (Or.inl ⟨by rfl, ?_⟩) ?_
  rotate_left
  · intro w' hSw
    go_simp
    try (with_reducible rfl)
  try simp only [Act.put, List.getElem_toArray, List.getElem_cons_zero, List.getElem_cons_succ, List.setIfInBounds_toArray, List.set_cons_zero, List.set_cons_succ]
  refine wpAnyG_oneX (i := 17) (by kernel_rfl) rfl (fun K' hK => ?_)
  simp only [List.getElem_toArray, List.getElem_cons_zero, List.getElem_cons_succ]
  go_simp
  refine hK.out _ _ (Or.inl rfl) ?_
  clear hK K'
  try simp only [Act.put, List.getElem_toArray, List.getElem_cons_zero, List.getElem_cons_succ, List.setIfInBounds_toArray, List.set_cons_zero, List.set_cons_succ]
  refine wpAnyG_takeW (i := 18) (v := ?_) rfl (by kernel_rfl) (by kernel_rfl) (by kernel_rfl) (fun _ _ _ h => h) (Or.inl ⟨by rfl, ?_⟩) ?_
  rotate_left
  · intro w' hSw
    go_simp
    try (with_reducible rfl)
  try simp only [Act.put, List.getElem_toArray, List.getElem_cons_zero, List.getElem_cons_succ, List.setIfInBounds_toArray, List.set_cons_zero, List.set_cons_succ]
  refine wpAnyG_oneX (i := 19) (by kernel_rfl) rfl (fun K' hK => ?_)
  simp only [List.getElem_toArray, List.getElem_cons_zero, List.getElem_cons_succ]
  go_simp
  refine hK.out _ _ (Or.inl rfl) ?_
  clear hK K'
  try simp only [Act.put, List.getElem_toArray, List.getElem_cons_zero, List.getElem_cons_succ, List.setIfInBounds_toArray, List.set_cons_zero, List.set_cons_succ]
  refine wpAnyG_done (by kernel_rfl) ?_ _
  go_wp2_with fail
  refine bodyPost_ret (v := .agg #[.int .i64 N.id, .int .i64 N.nodes, .int .i64 N.term, .int .i64 N.vote, .int .i64 N.role, .bool N.up, .slice a1 N.log.length c1, .int .i64 N.commit, .int .i64 N.elapsed, .int .i64 N.wait, .slice a2 N.votes.length c2, .slice a3 N.next.length c3, .slice a4 N.mtch.length c4]) (by simp [results, Try.results25, go_sem, q4_1_0, q4_1_1, q4_1_2, q4_1_3, q4_1_4, q4_1_5, q4_1_6, q4_1_7, q4_1_8, q4_1_9, q4_1_10, q4_1_11, q4_1_12, f4_1, hl4]) rfl ?_
  clear hS4 f4_0 f4_1 q4_0_0 q4_0_1 q4_0_2 q4_0_3 q4_0_4 q4_0_5 q4_0_6 q4_0_7 q4_0_8 q4_0_9 q4_0_10 q4_0_11 q4_0_12 q4_1_0 q4_1_1 q4_1_2 q4_1_3 q4_1_4 q4_1_5 q4_1_6 q4_1_7 q4_1_8 q4_1_9 q4_1_10 q4_1_11 q4_1_12
  have G1 : FreshIn entE 48 2 (w.heap.size + 1 + 1) w1.heap.size (.slice a1 N.log.length c1) N.log w4 := by simpa using F1_4.out
  have G2 : FreshIn intE 3 1 (w1.heap.size) w2.heap.size (.slice a2 N.votes.length c2) N.votes w4 := by simpa using F2_4.out
  have G3 : FreshIn intE 3 1 (w2.heap.size) w3.heap.size (.slice a3 N.next.length c3) N.next w4 := by simpa using F3_4.out
  have G4 : FreshIn intE 3 1 (w3.heap.size) w4.heap.size (.slice a4 N.mtch.length c4) N.mtch w4 := by simpa using F4_4.out
  refine ⟨a1, c1, a2, c2, a3, c3, a4, c4, rfl, ?_, ?_⟩
  · refine ⟨w.heap.size + 1 + 1, w1.heap.size, w1.heap.size, w2.heap.size, w2.heap.size, w3.heap.size, w3.heap.size, w4.heap.size, ?_, by omega, ?_, ?_, ?_, ?_⟩
    · simp [World.setCell]; omega
    · repeat (first | (with_reducible exact G1) | (with_reducible refine FreshIn.setCell ?_ ?_ _; rotate_left; (first | (show w.heap.size < w.heap.size + 1 + 1; omega) | (show w.heap.size + 1 < w.heap.size + 1 + 1; omega))))
    · repeat (first | (with_reducible exact G2) | (with_reducible refine FreshIn.setCell ?_ ?_ _; rotate_left; (first | (show w.heap.size < w1.heap.size; omega) | (show w.heap.size + 1 < w1.heap.size; omega))))
    · repeat (first | (with_reducible exact G3) | (with_reducible refine FreshIn.setCell ?_ ?_ _; rotate_left; (first | (show w.heap.size < w2.heap.size; omega) | (show w.heap.size + 1 < w2.heap.size; omega))))
    · repeat (first | (with_reducible exact G4) | (with_reducible refine FreshIn.setCell ?_ ?_ _; rotate_left; (first | (show w.heap.size < w3.heap.size; omega) | (show w.heap.size + 1 < w3.heap.size; omega))))
  · repeat (first | (with_reducible exact HB4.out) | (with_reducible refine Below.setCell ?_ ?_ _; rotate_left; (first | (show w.heap.size ≤ w.heap.size; omega) | (show w.heap.size ≤ w.heap.size + 1; omega))))
end
section
open Go.RowKit
set_option maxRecDepth 100000 in
set_option maxHeartbeats 8000000 in
theorem l08Own_c (al : Option Addr) (cl : Nat) (av : Option Addr) (cv : Nat) (an : Option Addr) (cn : Nat) (am : Option Addr) (cm : Nat) (N : NodeV) (w : World) (hN : NodeSl w al av an am N) (hZ : NodeSz N 1048576) :
    Calls Try.prog 19 #[.agg #[.int .i64 N.id, .int .i64 N.nodes, .int .i64 N.term, .int .i64 N.vote, .int .i64 N.role, .bool N.up, .slice al N.log.length cl, .int .i64 N.commit, .int .i64 N.elapsed, .int .i64 N.wait, .slice av N.votes.length cv, .slice an N.next.length cn, .slice am N.mtch.length cm]] w (CloneR N w) := by
  obtain ⟨iE, hE, hE0, hE1, hE2⟩ := info_parts Try.infoEntry
  obtain ⟨iI, hI, hI0, hI1, hI2⟩ := info_parts Try.infoInt
  have H1 := Lib.hid hN.log
  have H2 := Lib.hid hN.votes
  have H3 := Lib.hid hN.next
  have H4 := Lib.hid hN.mtch
  have z1 := hZ.log
  have z2 := hZ.votes
  have z3 := hZ.next
  have z4 := hZ.mtch
  clear hN hZ
  have HB0 : Hid (Below w.heap.size w ((w.alloc (.cells #[.int .i64 N.id, .int .i64 N.nodes, .int .i64 N.term, .int .i64 N.vote, .int .i64 N.role, .bool N.up, .slice al N.log.length cl, .int .i64 N.commit, .int .i64 N.elapsed, .int .i64 N.wait, .slice av N.votes.length cv, .slice an N.next.length cn, .slice am N.mtch.length cm] 29)).alloc (.cells #[.int .i64 0, .int .i64 0, .int .i64 0, .int .i64 0, .int .i64 0, .bool false, .slice none 0 0, .int .i64 0, .int .i64 0, .int .i64 0, .slice none 0 0, .slice none 0 0, .slice none 0 0] 29))) := Lib.hid (((Below.refl w.heap.size w).alloc (Nat.le_refl _) _).alloc (by simp) _)
  go_enter Try.func19, Try.ntmps19
  have A1 := Lib.hid ((H1.out.keep HB0.out).alloc (.cells #[] 48))
  have e1 : FreshIn entE 48 2 (w.heap.size + 1 + 1) (w.heap.size + 1 + 1 + 1) (.slice (some ⟨w.heap.size + 1 + 1, 0, none⟩) 0 0) [] (((w.alloc (.cells #[.int .i64 N.id, .int .i64 N.nodes, .int .i64 N.term, .int .i64 N.vote, .int .i64 N.role, .bool N.up, .slice al N.log.length cl, .int .i64 N.commit, .int .i64 N.elapsed, .int .i64 N.wait, .slice av N.votes.length cv, .slice an N.next.length cn, .slice am N.mtch.length cm] 29)).alloc (.cells #[.int .i64 0, .int .i64 0, .int .i64 0, .int .i64 0, .int .i64 0, .bool false, .slice none 0 0, .int .i64 0, .int .i64 0, .int .i64 0, .slice none 0 0, .slice none 0 0, .slice none 0 0] 29)).alloc (.cells #[] 48)) := by simpa [World.setCell] using (fresh_mdE ((w.alloc (.cells #[.int .i64 N.id, .int .i64 N.nodes, .int .i64 N.term, .int .i64 N.vote, .int .i64 N.role, .bool N.up, .slice al N.log.length cl, .int .i64 N.commit, .int .i64 N.elapsed, .int .i64 N.wait, .slice av N.votes.length cv, .slice an N.next.length cn, .slice am N.mtch.length cm] 29)).alloc (.cells #[.int .i64 0, .int .i64 0, .int .i64 0, .int .i64 0, .int .i64 0, .bool false, .slice none 0 0, .int .i64 0, .int .i64 0, .int .i64 0, .slice none 0 0, .slice none 0 0, .slice none 0 0] 29)) ((w.alloc (.cells #[.int .i64 N.id, .int .i64 N.nodes, .int .i64 N.term, .int .i64 N.vote, .int .i64 N.role, .bool N.up, .slice al N.log.length cl, .int .i64 N.commit, .int .i64 N.elapsed, .int .i64 N.wait, .slice av N.votes.length cv, .slice an N.next.length cn, .slice am N.mtch.length cm] 29)).alloc (.cells #[.int .i64 0, .int .i64 0, .int .i64 0, .int .i64 0, .int .i64 0, .bool false, .slice none 0 0, .int .i64 0, .int .i64 0, .int .i64 0, .slice none 0 0, .slice none 0 0, .slice none 0 0] 29)).heap.size (Nat.le_refl _)).here
  have E1 := Lib.hid e1
  clear e1
  go_wp2_with (at_builtin; refine wpList_append_freshG rfl (.tmp 3) (.tmp 5) 27 27 rfl (w.heap.size + 1 + 1) (w.heap.size + 1 + 1 + 1) 48 iE (.agg #[.int .i64 0, .string ⟨#[]⟩]) 2 24 Try.underlying27 hE hE0 hE1 hE2 rfl (by decide) (some ⟨w.heap.size + 1 + 1, 0, none⟩) 0 0 [] rfl E1.out (.slice al N.log.length cl) N.log rfl (Src.ofSl (enc := entE) (sz := 2) (xs := N.log) Try.underlying27 (fun _ => rfl) entOne A1.out cl) (by simp; omega) (by simp [World.setCell]) ?_)
  intro a1 c1 x1 us hus hf1 hm1 _
  obtain rfl : us = N.log := by simpa using hus.out
  have hz1 := hm1.size
  simp only [World.size_alloc] at hz1
  have hy1 : w.heap.size + 1 + 1 + 1 ≤ x1.heap.size := by simpa [World.setCell] using hz1
  have q1_0_0 : x1.cell? ⟨w.heap.size, 0, none⟩ = some (.int .i64 N.id) := (hm1.cell (p := ⟨w.heap.size, 0, none⟩) (by show w.heap.size < _; simp [World.setCell]; try omega) (.inl (by show w.heap.size < w.heap.size + 1 + 1; omega))).trans (by simp [go_sem])
  have q1_1_0 : x1.cell? ⟨w.heap.size + 1, 0, none⟩ = some (.int .i64 0) := (hm1.cell (p := ⟨w.heap.size + 1, 0, none⟩) (by show w.heap.size + 1 < _; simp [World.setCell]; try omega) (.inl (by show w.heap.size + 1 < w.heap.size + 1 + 1; omega))).trans (by simp [go_sem])
  have q1_0_1 : x1.cell? ⟨w.heap.size, 1, none⟩ = some (.int .i64 N.nodes) := (hm1.cell (p := ⟨w.heap.size, 1, none⟩) (by show w.heap.size < _; simp [World.setCell]; try omega) (.inl (by show w.heap.size < w.heap.size + 1 + 1; omega))).trans (by simp [go_sem])
  have q1_1_1 : x1.cell? ⟨w.heap.size + 1, 1, none⟩ = some (.int .i64 0) := (hm1.cell (p := ⟨w.heap.size + 1, 1, none⟩) (by show w.heap.size + 1 < _; simp [World.setCell]; try omega) (.inl (by show w.heap.size + 1 < w.heap.size + 1 + 1; omega))).trans (by simp [go_sem])
  have q1_0_2 : x1.cell? ⟨w.heap.size, 2, none⟩ = some (.int .i64 N.term) := (hm1.cell (p := ⟨w.heap.size, 2, none⟩) (by show w.heap.size < _; simp [World.setCell]; try omega) (.inl (by show w.heap.size < w.heap.size + 1 + 1; omega))).trans (by simp [go_sem])
  have q1_1_2 : x1.cell? ⟨w.heap.size + 1, 2, none⟩ = some (.int .i64 0) := (hm1.cell (p := ⟨w.heap.size + 1, 2, none⟩) (by show w.heap.size + 1 < _; simp [World.setCell]; try omega) (.inl (by show w.heap.size + 1 < w.heap.size + 1 + 1; omega))).trans (by simp [go_sem])
  have q1_0_3 : x1.cell? ⟨w.heap.size, 3, none⟩ = some (.int .i64 N.vote) := (hm1.cell (p := ⟨w.heap.size, 3, none⟩) (by show w.heap.size < _; simp [World.setCell]; try omega) (.inl (by show w.heap.size < w.heap.size + 1 + 1; omega))).trans (by simp [go_sem])
  have q1_1_3 : x1.cell? ⟨w.heap.size + 1, 3, none⟩ = some (.int .i64 0) := (hm1.cell (p := ⟨w.heap.size + 1, 3, none⟩) (by show w.heap.size + 1 < _; simp [World.setCell]; try omega) (.inl (by show w.heap.size + 1 < w.heap.size + 1 + 1; omega))).trans (by simp [go_sem])
  have q1_0_4 : x1.cell? ⟨w.heap.size, 4, none⟩ = some (.int .i64 N.role) := (hm1.cell (p := ⟨w.heap.size, 4, none⟩) (by show w.heap.size < _; simp [World.setCell]; try omega) (.inl (by show w.heap.size < w.heap.size + 1 + 1; omega))).trans (by simp [go_sem])
  have q1_1_4 : x1.cell? ⟨w.heap.size + 1, 4, none⟩ = some (.int .i64 0) := (hm1.cell (p := ⟨w.heap.size + 1, 4, none⟩) (by show w.heap.size + 1 < _; simp [World.setCell]; try omega) (.inl (by show w.heap.size + 1 < w.heap.size + 1 + 1; omega))).trans (by simp [go_sem])
  have q1_0_5 : x1.cell? ⟨w.heap.size, 5, none⟩ = some (.bool N.up) := (hm1.cell (p := ⟨w.heap.size, 5, none⟩) (by show w.heap.size < _; simp [World.setCell]; try omega) (.inl (by show w.heap.size < w.heap.size + 1 + 1; omega))).trans (by simp [go_sem])
  have q1_1_5 : x1.cell? ⟨w.heap.size + 1, 5, none⟩ = some (.bool false) := (hm1.cell (p := ⟨w.heap.size + 1, 5, none⟩) (by show w.heap.size + 1 < _; simp [World.setCell]; try omega) (.inl (by show w.heap.size + 1 < w.heap.size + 1 + 1; omega))).trans (by simp [go_sem])
  have q1_0_6 : x1.cell? ⟨w.heap.size, 6, none⟩ = some (.slice al N.log.length cl) := (hm1.cell (p := ⟨w.heap.size, 6, none⟩) (by show w.heap.size < _; simp [World.setCell]; try omega) (.inl (by show w.heap.size < w.heap.size + 1 + 1; omega))).trans (by simp [go_sem])
  have q1_1_6 : x1.cell? ⟨w.heap.size + 1, 6, none⟩ = some (.slice none 0 0) := (hm1.cell (p := ⟨w.heap.size + 1, 6, none⟩) (by show w.heap.size + 1 < _; simp [World.setCell]; try omega) (.inl (by show w.heap.size + 1 < w.heap.size + 1 + 1; omega))).trans (by simp [go_sem])
  have q1_0_7 : x1.cell? ⟨w.heap.size, 7, none⟩ = some (.int .i64 N.commit) := (hm1.cell (p := ⟨w.heap.size, 7, none⟩) (by show w.heap.size < _; simp [World.setCell]; try omega) (.inl (by show w.heap.size < w.heap.size + 1 + 1; omega))).trans (by simp [go_sem])
  have q1_1_7 : x1.cell? ⟨w.heap.size + 1, 7, none⟩ = some (.int .i64 0) := (hm1.cell (p := ⟨w.heap.size + 1, 7, none⟩) (by show w.heap.size + 1 < _; simp [World.setCell]; try omega) (.inl (by show w.heap.size + 1 < w.heap.size + 1 + 1; omega))).trans (by simp [go_sem])
  have q1_0_8 : x1.cell? ⟨w.heap.size, 8, none⟩ = some (.int .i64 N.elapsed) := (hm1.cell (p := ⟨w.heap.size, 8, none⟩) (by show w.heap.size < _; simp [World.setCell]; try omega) (.inl (by show w.heap.size < w.heap.size + 1 + 1; omega))).trans (by simp [go_sem])
  have q1_1_8 : x1.cell? ⟨w.heap.size + 1, 8, none⟩ = some (.int .i64 0) := (hm1.cell (p := ⟨w.heap.size + 1, 8, none⟩) (by show w.heap.size + 1 < _; simp [World.setCell]; try omega) (.inl (by show w.heap.size + 1 < w.heap.size + 1 + 1; omega))).trans (by simp [go_sem])
  have q1_0_9 : x1.cell? ⟨w.heap.size, 9, none⟩ = some (.int .i64 N.wait) := (hm1.cell (p := ⟨w.heap.size, 9, none⟩) (by show w.heap.size < _; simp [World.setCell]; try omega) (.inl (by show w.heap.size < w.heap.size + 1 + 1; omega))).trans (by simp [go_sem])
  have q1_1_9 : x1.cell? ⟨w.heap.size + 1, 9, none⟩ = some (.int .i64 0) := (hm1.cell (p := ⟨w.heap.size + 1, 9, none⟩) (by show w.heap.size + 1 < _; simp [World.setCell]; try omega) (.inl (by show w.heap.size + 1 < w.heap.size + 1 + 1; omega))).trans (by simp [go_sem])
  have q1_0_10 : x1.cell? ⟨w.heap.size, 10, none⟩ = some (.slice av N.votes.length cv) := (hm1.cell (p := ⟨w.heap.size, 10, none⟩) (by show w.heap.size < _; simp [World.setCell]; try omega) (.inl (by show w.heap.size < w.heap.size + 1 + 1; omega))).trans (by simp [go_sem])
  have q1_1_10 : x1.cell? ⟨w.heap.size + 1, 10, none⟩ = some (.slice none 0 0) := (hm1.cell (p := ⟨w.heap.size + 1, 10, none⟩) (by show w.heap.size + 1 < _; simp [World.setCell]; try omega) (.inl (by show w.heap.size + 1 < w.heap.size + 1 + 1; omega))).trans (by simp [go_sem])
  have q1_0_11 : x1.cell? ⟨w.heap.size, 11, none⟩ = some (.slice an N.next.length cn) := (hm1.cell (p := ⟨w.heap.size, 11, none⟩) (by show w.heap.size < _; simp [World.setCell]; try omega) (.inl (by show w.heap.size < w.heap.size + 1 + 1; omega))).trans (by simp [go_sem])
  have q1_1_11 : x1.cell? ⟨w.heap.size + 1, 11, none⟩ = some (.slice none 0 0) := (hm1.cell (p := ⟨w.heap.size + 1, 11, none⟩) (by show w.heap.size + 1 < _; simp [World.setCell]; try omega) (.inl (by show w.heap.size + 1 < w.heap.size + 1 + 1; omega))).trans (by simp [go_sem])
  have q1_0_12 : x1.cell? ⟨w.heap.size, 12, none⟩ = some (.slice am N.mtch.length cm) := (hm1.cell (p := ⟨w.heap.size, 12, none⟩) (by show w.heap.size < _; simp [World.setCell]; try omega) (.inl (by show w.heap.size < w.heap.size + 1 + 1; omega))).trans (by simp [go_sem])
  have q1_1_12 : x1.cell? ⟨w.heap.size + 1, 12, none⟩ = some (.slice none 0 0) := (hm1.cell (p := ⟨w.heap.size + 1, 12, none⟩) (by show w.heap.size + 1 < _; simp [World.setCell]; try omega) (.inl (by show w.heap.size + 1 < w.heap.size + 1 + 1; omega))).trans (by simp [go_sem])
  have f1_0 : ∀ o, x1.frozen? ⟨w.heap.size, o, none⟩ = false := fun o => (hm1.frozen (p := ⟨w.heap.size, o, none⟩) (by show w.heap.size < _; simp [World.setCell]; try omega) (.inl (by show w.heap.size < w.heap.size + 1 + 1; omega))).trans (by simp [go_sem])
  have f1_1 : ∀ o, x1.frozen? ⟨w.heap.size + 1, o, none⟩ = false := fun o => (hm1.frozen (p := ⟨w.heap.size + 1, o, none⟩) (by show w.heap.size + 1 < _; simp [World.setCell]; try omega) (.inl (by show w.heap.size + 1 < w.heap.size + 1 + 1; omega))).trans (by simp [go_sem])
  have hl1 : w.heap.size + 1 < x1.heap.size := by omega
  have hk1 : w.heap.size < x1.heap.size := by omega
  have HB1 : Hid (Below w.heap.size w (x1.setCell ⟨w.heap.size, 6, none⟩ (.slice a1 N.log.length c1))) := Lib.hid (Below.setCell ((HB0.out.alloc (by simp [World.setCell]; try omega) _).trans (hm1.below (by omega) (by simp [World.setCell]; try omega))) (Nat.le_refl _) _)
  have F1_1 := Lib.hid hf1
  clear hf1 hm1 hus
  have A2 := Lib.hid ((H2.out.keep HB1.out).alloc (.cells #[] 3))
  have e2 : FreshIn intE 3 1 (x1.heap.size) (x1.heap.size + 1) (.slice (some ⟨x1.heap.size, 0, none⟩) 0 0) [] ((x1.setCell ⟨w.heap.size, 6, none⟩ (.slice a1 N.log.length c1)).alloc (.cells #[] 3)) := by simpa [World.setCell] using (fresh_mdI (x1.setCell ⟨w.heap.size, 6, none⟩ (.slice a1 N.log.length c1)) (x1.setCell ⟨w.heap.size, 6, none⟩ (.slice a1 N.log.length c1)).heap.size (Nat.le_refl _)).here
  have E2 := Lib.hid e2
  clear e2
  go_wp2_with (at_builtin; refine wpList_append_freshG rfl (.tmp 8) (.tmp 10) 23 23 rfl (x1.heap.size) (x1.heap.size + 1) 3 iI (.int .i64 0) 1 8 Try.underlying23 hI hI0 hI1 hI2 rfl (by decide) (some ⟨x1.heap.size, 0, none⟩) 0 0 [] rfl E2.out (.slice av N.votes.length cv) N.votes rfl (Src.ofSl (enc := intE) (sz := 1) (xs := N.votes) Try.underlying23 (fun _ => rfl) intOne A2.out cv) (by simp; omega) (by simp [World.setCell]) ?_)
  intro a2 c2 x2 us hus hf2 hm2 _
  obtain rfl : us = N.votes := by simpa using hus.out
  have hz2 := hm2.size
  simp only [World.size_alloc] at hz2
  have hy2 : x1.heap.size + 1 ≤ x2.heap.size := by simpa [World.setCell] using hz2
  have q2_0_0 : x2.cell? ⟨w.heap.size, 0, none⟩ = some (.int .i64 N.id) := (hm2.cell (p := ⟨w.heap.size, 0, none⟩) (by show w.heap.size < _; simp [World.setCell]; try omega) (.inl (by show w.heap.size < x1.heap.size; omega))).trans (by simp [go_sem, q1_0_0, q1_0_6, hl1, hk1])
  have q2_1_0 : x2.cell? ⟨w.heap.size + 1, 0, none⟩ = some (.int .i64 0) := (hm2.cell (p := ⟨w.heap.size + 1, 0, none⟩) (by show w.heap.size + 1 < _; simp [World.setCell]; try omega) (.inl (by show w.heap.size + 1 < x1.heap.size; omega))).trans (by simp [go_sem, q1_1_0, q1_0_6, hl1, hk1])
  have q2_0_1 : x2.cell? ⟨w.heap.size, 1, none⟩ = some (.int .i64 N.nodes) := (hm2.cell (p := ⟨w.heap.size, 1, none⟩) (by show w.heap.size < _; simp [World.setCell]; try omega) (.inl (by show w.heap.size < x1.heap.size; omega))).trans (by simp [go_sem, q1_0_1, q1_0_6, hl1, hk1])
  have q2_1_1 : x2.cell? ⟨w.heap.size + 1, 1, none⟩ = some (.int .i64 0) := (hm2.cell (p := ⟨w.heap.size + 1, 1, none⟩) (by show w.heap.size + 1 < _; simp [World.setCell]; try omega) (.inl (by show w.heap.size + 1 < x1.heap.size; omega))).trans (by simp [go_sem, q1_1_1, q1_0_6, hl1, hk1])
  have q2_0_2 : x2.cell? ⟨w.heap.size, 2, none⟩ = some (.int .i64 N.term) := (hm2.cell (p := ⟨w.heap.size, 2, none⟩) (by show w.heap.size < _; simp [World.setCell]; try omega) (.inl (by show w.heap.size < x1.heap.size; omega))).trans (by simp [go_sem, q1_0_2, q1_0_6, hl1, hk1])
  have q2_1_2 : x2.cell? ⟨w.heap.size + 1, 2, none⟩ = some (.int .i64 0) := (hm2.cell (p := ⟨w.heap.size + 1, 2, none⟩) (by show w.heap.size + 1 < _; simp [World.setCell]; try omega) (.inl (by show w.heap.size + 1 < x1.heap.size; omega))).trans (by simp [go_sem, q1_1_2, q1_0_6, hl1, hk1])
  have q2_0_3 : x2.cell? ⟨w.heap.size, 3, none⟩ = some (.int .i64 N.vote) := (hm2.cell (p := ⟨w.heap.size, 3, none⟩) (by show w.heap.size < _; simp [World.setCell]; try omega) (.inl (by show w.heap.size < x1.heap.size; omega))).trans (by simp [go_sem, q1_0_3, q1_0_6, hl1, hk1])
  have q2_1_3 : x2.cell? ⟨w.heap.size + 1, 3, none⟩ = some (.int .i64 0) := (hm2.cell (p := ⟨w.heap.size + 1, 3, none⟩) (by show w.heap.size + 1 < _; simp [World.setCell]; try omega) (.inl (by show w.heap.size + 1 < x1.heap.size; omega))).trans (by simp [go_sem, q1_1_3, q1_0_6, hl1, hk1])
  have q2_0_4 : x2.cell? ⟨w.heap.size, 4, none⟩ = some (.int .i64 N.role) := (hm2.cell (p := ⟨w.heap.size, 4, none⟩) (by show w.heap.size < _; simp [World.setCell]; try omega) (.inl (by show w.heap.size < x1.heap.size; omega))).trans (by simp [go_sem, q1_0_4, q1_0_6, hl1, hk1])
  have q2_1_4 : x2.cell? ⟨w.heap.size + 1, 4, none⟩ = some (.int .i64 0) := (hm2.cell (p := ⟨w.heap.size + 1, 4, none⟩) (by show w.heap.size + 1 < _; simp [World.setCell]; try omega) (.inl (by show w.heap.size + 1 < x1.heap.size; omega))).trans (by simp [go_sem, q1_1_4, q1_0_6, hl1, hk1])
  have q2_0_5 : x2.cell? ⟨w.heap.size, 5, none⟩ = some (.bool N.up) := (hm2.cell (p := ⟨w.heap.size, 5, none⟩) (by show w.heap.size < _; simp [World.setCell]; try omega) (.inl (by show w.heap.size < x1.heap.size; omega))).trans (by simp [go_sem, q1_0_5, q1_0_6, hl1, hk1])
  have q2_1_5 : x2.cell? ⟨w.heap.size + 1, 5, none⟩ = some (.bool false) := (hm2.cell (p := ⟨w.heap.size + 1, 5, none⟩) (by show w.heap.size + 1 < _; simp [World.setCell]; try omega) (.inl (by show w.heap.size + 1 < x1.heap.size; omega))).trans (by simp [go_sem, q1_1_5, q1_0_6, hl1, hk1])
  have q2_0_6 : x2.cell? ⟨w.heap.size, 6, none⟩ = some (.slice a1 N.log.length c1) := (hm2.cell (p := ⟨w.heap.size, 6, none⟩) (by show w.heap.size < _; simp [World.setCell]; try omega) (.inl (by show w.heap.size < x1.heap.size; omega))).trans (by simp [go_sem, q1_0_6, q1_0_6, hl1, hk1])
  have q2_1_6 : x2.cell? ⟨w.heap.size + 1, 6, none⟩ = some (.slice none 0 0) := (hm2.cell (p := ⟨w.heap.size + 1, 6, none⟩) (by show w.heap.size + 1 < _; simp [World.setCell]; try omega) (.inl (by show w.heap.size + 1 < x1.heap.size; omega))).trans (by simp [go_sem, q1_1_6, q1_0_6, hl1, hk1])
  have q2_0_7 : x2.cell? ⟨w.heap.size, 7, none⟩ = some (.int .i64 N.commit) := (hm2.cell (p := ⟨w.heap.size, 7, none⟩) (by show w.heap.size < _; simp [World.setCell]; try omega) (.inl (by show w.heap.size < x1.heap.size; omega))).trans (by simp [go_sem, q1_0_7, q1_0_6, hl1, hk1])
  have q2_1_7 : x2.cell? ⟨w.heap.size + 1, 7, none⟩ = some (.int .i64 0) := (hm2.cell (p := ⟨w.heap.size + 1, 7, none⟩) (by show w.heap.size + 1 < _; simp [World.setCell]; try omega) (.inl (by show w.heap.size + 1 < x1.heap.size; omega))).trans (by simp [go_sem, q1_1_7, q1_0_6, hl1, hk1])
  have q2_0_8 : x2.cell? ⟨w.heap.size, 8, none⟩ = some (.int .i64 N.elapsed) := (hm2.cell (p := ⟨w.heap.size, 8, none⟩) (by show w.heap.size < _; simp [World.setCell]; try omega) (.inl (by show w.heap.size < x1.heap.size; omega))).trans (by simp [go_sem, q1_0_8, q1_0_6, hl1, hk1])
  have q2_1_8 : x2.cell? ⟨w.heap.size + 1, 8, none⟩ = some (.int .i64 0) := (hm2.cell (p := ⟨w.heap.size + 1, 8, none⟩) (by show w.heap.size + 1 < _; simp [World.setCell]; try omega) (.inl (by show w.heap.size + 1 < x1.heap.size; omega))).trans (by simp [go_sem, q1_1_8, q1_0_6, hl1, hk1])
  have q2_0_9 : x2.cell? ⟨w.heap.size, 9, none⟩ = some (.int .i64 N.wait) := (hm2.cell (p := ⟨w.heap.size, 9, none⟩) (by show w.heap.size < _; simp [World.setCell]; try omega) (.inl (by show w.heap.size < x1.heap.size; omega))).trans (by simp [go_sem, q1_0_9, q1_0_6, hl1, hk1])
  have q2_1_9 : x2.cell? ⟨w.heap.size + 1, 9, none⟩ = some (.int .i64 0) := (hm2.cell (p := ⟨w.heap.size + 1, 9, none⟩) (by show w.heap.size + 1 < _; simp [World.setCell]; try omega) (.inl (by show w.heap.size + 1 < x1.heap.size; omega))).trans (by simp [go_sem, q1_1_9, q1_0_6, hl1, hk1])
  have q2_0_10 : x2.cell? ⟨w.heap.size, 10, none⟩ = some (.slice av N.votes.length cv) := (hm2.cell (p := ⟨w.heap.size, 10, none⟩) (by show w.heap.size < _; simp [World.setCell]; try omega) (.inl (by show w.heap.size < x1.heap.size; omega))).trans (by simp [go_sem, q1_0_10, q1_0_6, hl1, hk1])
  have q2_1_10 : x2.cell? ⟨w.heap.size + 1, 10, none⟩ = some (.slice none 0 0) := (hm2.cell (p := ⟨w.heap.size + 1, 10, none⟩) (by show w.heap.size + 1 < _; simp [World.setCell]; try omega) (.inl (by show w.heap.size + 1 < x1.heap.size; omega))).trans (by simp [go_sem, q1_1_10, q1_0_6, hl1, hk1])
  have q2_0_11 : x2.cell? ⟨w.heap.size, 11, none⟩ = some (.slice an N.next.length cn) := (hm2.cell (p := ⟨w.heap.size, 11, none⟩) (by show w.heap.size < _; simp [World.setCell]; try omega) (.inl (by show w.heap.size < x1.heap.size; omega))).trans (by simp [go_sem, q1_0_11, q1_0_6, hl1, hk1])
  have q2_1_11 : x2.cell? ⟨w.heap.size + 1, 11, none⟩ = some (.slice none 0 0) := (hm2.cell (p := ⟨w.heap.size + 1, 11, none⟩) (by show w.heap.size + 1 < _; simp [World.setCell]; try omega) (.inl (by show w.heap.size + 1 < x1.heap.size; omega))).trans (by simp [go_sem, q1_1_11, q1_0_6, hl1, hk1])
  have q2_0_12 : x2.cell? ⟨w.heap.size, 12, none⟩ = some (.slice am N.mtch.length cm) := (hm2.cell (p := ⟨w.heap.size, 12, none⟩) (by show w.heap.size < _; simp [World.setCell]; try omega) (.inl (by show w.heap.size < x1.heap.size; omega))).trans (by simp [go_sem, q1_0_12, q1_0_6, hl1, hk1])
  have q2_1_12 : x2.cell? ⟨w.heap.size + 1, 12, none⟩ = some (.slice none 0 0) := (hm2.cell (p := ⟨w.heap.size + 1, 12, none⟩) (by show w.heap.size + 1 < _; simp [World.setCell]; try omega) (.inl (by show w.heap.size + 1 < x1.heap.size; omega))).trans (by simp [go_sem, q1_1_12, q1_0_6, hl1, hk1])
  have f2_0 : ∀ o, x2.frozen? ⟨w.heap.size, o, none⟩ = false := fun o => (hm2.frozen (p := ⟨w.heap.size, o, none⟩) (by show w.heap.size < _; simp [World.setCell]; try omega) (.inl (by show w.heap.size < x1.heap.size; omega))).trans (by simp [go_sem, f1_0, hl1, hk1])
  have f2_1 : ∀ o, x2.frozen? ⟨w.heap.size + 1, o, none⟩ = false := fun o => (hm2.frozen (p := ⟨w.heap.size + 1, o, none⟩) (by show w.heap.size + 1 < _; simp [World.setCell]; try omega) (.inl (by show w.heap.size + 1 < x1.heap.size; omega))).trans (by simp [go_sem, f1_1, hl1, hk1])
  have hl2 : w.heap.size + 1 < x2.heap.size := by omega
  have hk2 : w.heap.size < x2.heap.size := by omega
  have HB2 : Hid (Below w.heap.size w (x2.setCell ⟨w.heap.size, 10, none⟩ (.slice a2 N.votes.length c2))) := Lib.hid (Below.setCell ((HB1.out.alloc (by simp [World.setCell]; try omega) _).trans (hm2.below (by omega) (by simp [World.setCell]; try omega))) (Nat.le_refl _) _)
  have F2_2 := Lib.hid hf2
  have F1_2 := Lib.hid (((F1_1.out.setCell (p := ⟨w.heap.size, 6, none⟩) (by show w.heap.size < w.heap.size + 1 + 1; omega) (.slice a1 N.log.length c1)).alloc (.cells #[] 3)).mid hm2 (.inl (by omega)))
  clear hf2 hm2 hus q1_0_0 q1_0_1 q1_0_2 q1_0_3 q1_0_4 q1_0_5 q1_0_6 q1_0_7 q1_0_8 q1_0_9 q1_0_10 q1_0_11 q1_0_12 q1_1_0 q1_1_1 q1_1_2 q1_1_3 q1_1_4 q1_1_5 q1_1_6 q1_1_7 q1_1_8 q1_1_9 q1_1_10 q1_1_11 q1_1_12 f1_0 f1_1
  have A3 := Lib.hid ((H3.out.keep HB2.out).alloc (.cells #[] 3))
  have e3 : FreshIn intE 3 1 (x2.heap.size) (x2.heap.size + 1) (.slice (some ⟨x2.heap.size, 0, none⟩) 0 0) [] ((x2.setCell ⟨w.heap.size, 10, none⟩ (.slice a2 N.votes.length c2)).alloc (.cells #[] 3)) := by simpa [World.setCell] using (fresh_mdI (x2.setCell ⟨w.heap.size, 10, none⟩ (.slice a2 N.votes.length c2)) (x2.setCell ⟨w.heap.size, 10, none⟩ (.slice a2 N.votes.length c2)).heap.size (Nat.le_refl _)).here
  have E3 := Lib.hid e3
  clear e3
  go_wp2_with (at_builtin; refine wpList_append_freshG rfl (.tmp 13) (.tmp 15) 23 23 rfl (x2.heap.size) (x2.heap.size + 1) 3 iI (.int .i64 0) 1 8 Try.underlying23 hI hI0 hI1 hI2 rfl (by decide) (some ⟨x2.heap.size, 0, none⟩) 0 0 [] rfl E3.out (.slice an N.next.length cn) N.next rfl (Src.ofSl (enc := intE) (sz := 1) (xs := N.next) Try.underlying23 (fun _ => rfl) intOne A3.out cn) (by simp; omega) (by simp [World.setCell]) ?_)
  intro a3 c3 x3 us hus hf3 hm3 _
  obtain rfl : us = N.next := by simpa using hus.out
  have hz3 := hm3.size
  simp only [World.size_alloc] at hz3
  have hy3 : x2.heap.size + 1 ≤ x3.heap.size := by simpa [World.setCell] using hz3
  have q3_0_0 : x3.cell? ⟨w.heap.size, 0, none⟩ = some (.int .i64 N.id) := (hm3.cell (p := ⟨w.heap.size, 0, none⟩) (by show w.heap.size < _; simp [World.setCell]; try omega) (.inl (by show w.heap.size < x2.heap.size; omega))).trans (by simp [go_sem, q2_0_0, q2_0_10, hl2, hk2])
  have q3_1_0 : x3.cell? ⟨w.heap.size + 1, 0, none⟩ = some (.int .i64 0) := (hm3.cell (p := ⟨w.heap.size + 1, 0, none⟩) (by show w.heap.size + 1 < _; simp [World.setCell]; try omega) (.inl (by show w.heap.size + 1 < x2.heap.size; omega))).trans (by simp [go_sem, q2_1_0, q2_0_10, hl2, hk2])
  have q3_0_1 : x3.cell? ⟨w.heap.size, 1, none⟩ = some (.int .i64 N.nodes) := (hm3.cell (p := ⟨w.heap.size, 1, none⟩) (by show w.heap.size < _; simp [World.setCell]; try omega) (.inl (by show w.heap.size < x2.heap.size; omega))).trans (by simp [go_sem, q2_0_1, q2_0_10, hl2, hk2])
  have q3_1_1 : x3.cell? ⟨w.heap.size + 1, 1, none⟩ = some (.int .i64 0) := (hm3.cell (p := ⟨w.heap.size + 1, 1, none⟩) (by show w.heap.size + 1 < _; simp [World.setCell]; try omega) (.inl (by show w.heap.size + 1 < x2.heap.size; omega))).trans (by simp [go_sem, q2_1_1, q2_0_10, hl2, hk2])
  have q3_0_2 : x3.cell? ⟨w.heap.size, 2, none⟩ = some (.int .i64 N.term) := (hm3.cell (p := ⟨w.heap.size, 2, none⟩) (by show w.heap.size < _; simp [World.setCell]; try omega) (.inl (by show w.heap.size < x2.heap.size; omega))).trans (by simp [go_sem, q2_0_2, q2_0_10, hl2, hk2])
  have q3_1_2 : x3.cell? ⟨w.heap.size + 1, 2, none⟩ = some (.int .i64 0) := (hm3.cell (p := ⟨w.heap.size + 1, 2, none⟩) (by show w.heap.size + 1 < _; simp [World.setCell]; try omega) (.inl (by show w.heap.size + 1 < x2.heap.size; omega))).trans (by simp [go_sem, q2_1_2, q2_0_10, hl2, hk2])
  have q3_0_3 : x3.cell? ⟨w.heap.size, 3, none⟩ = some (.int .i64 N.vote) := (hm3.cell (p := ⟨w.heap.size, 3, none⟩) (by show w.heap.size < _; simp [World.setCell]; try omega) (.inl (by show w.heap.size < x2.heap.size; omega))).trans (by simp [go_sem, q2_0_3, q2_0_10, hl2, hk2])
  have q3_1_3 : x3.cell? ⟨w.heap.size + 1, 3, none⟩ = some (.int .i64 0) := (hm3.cell (p := ⟨w.heap.size + 1, 3, none⟩) (by show w.heap.size + 1 < _; simp [World.setCell]; try omega) (.inl (by show w.heap.size + 1 < x2.heap.size; omega))).trans (by simp [go_sem, q2_1_3, q2_0_10, hl2, hk2])
  have q3_0_4 : x3.cell? ⟨w.heap.size, 4, none⟩ = some (.int .i64 N.role) := (hm3.cell (p := ⟨w.heap.size, 4, none⟩) (by show w.heap.size < _; simp [World.setCell]; try omega) (.inl (by show w.heap.size < x2.heap.size; omega))).trans (by simp [go_sem, q2_0_4, q2_0_10, hl2, hk2])
  have q3_1_4 : x3.cell? ⟨w.heap.size + 1, 4, none⟩ = some (.int .i64 0) := (hm3.cell (p := ⟨w.heap.size + 1, 4, none⟩) (by show w.heap.size + 1 < _; simp [World.setCell]; try omega) (.inl (by show w.heap.size + 1 < x2.heap.size; omega))).trans (by simp [go_sem, q2_1_4, q2_0_10, hl2, hk2])
  have q3_0_5 : x3.cell? ⟨w.heap.size, 5, none⟩ = some (.bool N.up) := (hm3.cell (p := ⟨w.heap.size, 5, none⟩) (by show w.heap.size < _; simp [World.setCell]; try omega) (.inl (by show w.heap.size < x2.heap.size; omega))).trans (by simp [go_sem, q2_0_5, q2_0_10, hl2, hk2])
  have q3_1_5 : x3.cell? ⟨w.heap.size + 1, 5, none⟩ = some (.bool false) := (hm3.cell (p := ⟨w.heap.size + 1, 5, none⟩) (by show w.heap.size + 1 < _; simp [World.setCell]; try omega) (.inl (by show w.heap.size + 1 < x2.heap.size; omega))).trans (by simp [go_sem, q2_1_5, q2_0_10, hl2, hk2])
  have q3_0_6 : x3.cell? ⟨w.heap.size, 6, none⟩ = some (.slice a1 N.log.length c1) := (hm3.cell (p := ⟨w.heap.size, 6, none⟩) (by show w.heap.size < _; simp [World.setCell]; try omega) (.inl (by show w.heap.size < x2.heap.size; omega))).trans (by simp [go_sem, q2_0_6, q2_0_10, hl2, hk2])
  have q3_1_6 : x3.cell? ⟨w.heap.size + 1, 6, none⟩ = some (.slice none 0 0) := (hm3.cell (p := ⟨w.heap.size + 1, 6, none⟩) (by show w.heap.size + 1 < _; simp [World.setCell]; try omega) (.inl (by show w.heap.size + 1 < x2.heap.size; omega))).trans (by simp [go_sem, q2_1_6, q2_0_10, hl2, hk2])
  have q3_0_7 : x3.cell? ⟨w.heap.size, 7, none⟩ = some (.int .i64 N.commit) := (hm3.cell (p := ⟨w.heap.size, 7, none⟩) (by show w.heap.size < _; simp [World.setCell]; try omega) (.inl (by show w.heap.size < x2.heap.size; omega))).trans (by simp [go_sem, q2_0_7, q2_0_10, hl2, hk2])
  have q3_1_7 : x3.cell? ⟨w.heap.size + 1, 7, none⟩ = some (.int .i64 0) := (hm3.cell (p := ⟨w.heap.size + 1, 7, none⟩) (by show w.heap.size + 1 < _; simp [World.setCell]; try omega) (.inl (by show w.heap.size + 1 < x2.heap.size; omega))).trans (by simp [go_sem, q2_1_7, q2_0_10, hl2, hk2])
  have q3_0_8 : x3.cell? ⟨w.heap.size, 8, none⟩ = some (.int .i64 N.elapsed) := (hm3.cell (p := ⟨w.heap.size, 8, none⟩) (by show w.heap.size < _; simp [World.setCell]; try omega) (.inl (by show w.heap.size < x2.heap.size; omega))).trans (by simp [go_sem, q2_0_8, q2_0_10, hl2, hk2])
  have q3_1_8 : x3.cell? ⟨w.heap.size + 1, 8, none⟩ = some (.int .i64 0) := (hm3.cell (p := ⟨w.heap.size + 1, 8, none⟩) (by show w.heap.size + 1 < _; simp [World.setCell]; try omega) (.inl (by show w.heap.size + 1 < x2.heap.size; omega))).trans (by simp [go_sem, q2_1_8, q2_0_10, hl2, hk2])
  have q3_0_9 : x3.cell? ⟨w.heap.size, 9, none⟩ = some (.int .i64 N.wait) := (hm3.cell (p := ⟨w.heap.size, 9, none⟩) (by show w.heap.size < _; simp [World.setCell]; try omega) (.inl (by show w.heap.size < x2.heap.size; omega))).trans (by simp [go_sem, q2_0_9, q2_0_10, hl2, hk2])
  have q3_1_9 : x3.cell? ⟨w.heap.size + 1, 9, none⟩ = some (.int .i64 0) := (hm3.cell (p := ⟨w.heap.size + 1, 9, none⟩) (by show w.heap.size + 1 < _; simp [World.setCell]; try omega) (.inl (by show w.heap.size + 1 < x2.heap.size; omega))).trans (by simp [go_sem, q2_1_9, q2_0_10, hl2, hk2])
  have q3_0_10 : x3.cell? ⟨w.heap.size, 10, none⟩ = some (.slice a2 N.votes.length c2) := (hm3.cell (p := ⟨w.heap.size, 10, none⟩) (by show w.heap.size < _; simp [World.setCell]; try omega) (.inl (by show w.heap.size < x2.heap.size; omega))).trans (by simp [go_sem, q2_0_10, q2_0_10, hl2, hk2])
  have q3_1_10 : x3.cell? ⟨w.heap.size + 1, 10, none⟩ = some (.slice none 0 0) := (hm3.cell (p := ⟨w.heap.size + 1, 10, none⟩) (by show w.heap.size + 1 < _; simp [World.setCell]; try omega) (.inl (by show w.heap.size + 1 < x2.heap.size; omega))).trans (by simp [go_sem, q2_1_10, q2_0_10, hl2, hk2])
  have q3_0_11 : x3.cell? ⟨w.heap.size, 11, none⟩ = some (.slice an N.next.length cn) := (hm3.cell (p := ⟨w.heap.size, 11, none⟩) (by show w.heap.size < _; simp [World.setCell]; try omega) (.inl (by show w.heap.size < x2.heap.size; omega))).trans (by simp [go_sem, q2_0_11, q2_0_10, hl2, hk2])
  have q3_1_11 : x3.cell? ⟨w.heap.size + 1, 11, none⟩ = some (.slice none 0 0) := (hm3.cell (p := ⟨w.heap.size + 1, 11, none⟩) (by show w.heap.size + 1 < _; simp [World.setCell]; try omega) (.inl (by show w.heap.size + 1 < x2.heap.size; omega))).trans (by simp [go_sem, q2_1_11, q2_0_10, hl2, hk2])
  have q3_0_12 : x3.cell? ⟨w.heap.size, 12, none⟩ = some (.slice am N.mtch.length cm) := (hm3.cell (p := ⟨w.heap.size, 12, none⟩) (by show w.heap.size < _; simp [World.setCell]; try omega) (.inl (by show w.heap.size < x2.heap.size; omega))).trans (by simp [go_sem, q2_0_12, q2_0_10, hl2, hk2])
  have q3_1_12 : x3.cell? ⟨w.heap.size + 1, 12, none⟩ = some (.slice none 0 0) := (hm3.cell (p := ⟨w.heap.size + 1, 12, none⟩) (by show w.heap.size + 1 < _; simp [World.setCell]; try omega) (.inl (by show w.heap.size + 1 < x2.heap.size; omega))).trans (by simp [go_sem, q2_1_12, q2_0_10, hl2, hk2])
  have f3_0 : ∀ o, x3.frozen? ⟨w.heap.size, o, none⟩ = false := fun o => (hm3.frozen (p := ⟨w.heap.size, o, none⟩) (by show w.heap.size < _; simp [World.setCell]; try omega) (.inl (by show w.heap.size < x2.heap.size; omega))).trans (by simp [go_sem, f2_0, hl2, hk2])
  have f3_1 : ∀ o, x3.frozen? ⟨w.heap.size + 1, o, none⟩ = false := fun o => (hm3.frozen (p := ⟨w.heap.size + 1, o, none⟩) (by show w.heap.size + 1 < _; simp [World.setCell]; try omega) (.inl (by show w.heap.size + 1 < x2.heap.size; omega))).trans (by simp [go_sem, f2_1, hl2, hk2])
  have hl3 : w.heap.size + 1 < x3.heap.size := by omega
  have hk3 : w.heap.size < x3.heap.size := by omega
  have HB3 : Hid (Below w.heap.size w (x3.setCell ⟨w.heap.size, 11, none⟩ (.slice a3 N.next.length c3))) := Lib.hid (Below.setCell ((HB2.out.alloc (by simp [World.setCell]; try omega) _).trans (hm3.below (by omega) (by simp [World.setCell]; try omega))) (Nat.le_refl _) _)
  have F3_3 := Lib.hid hf3
  have F1_3 := Lib.hid (((F1_2.out.setCell (p := ⟨w.heap.size, 10, none⟩) (by show w.heap.size < w.heap.size + 1 + 1; omega) (.slice a2 N.votes.length c2)).alloc (.cells #[] 3)).mid hm3 (.inl (by omega)))
  have F2_3 := Lib.hid (((F2_2.out.setCell (p := ⟨w.heap.size, 10, none⟩) (by show w.heap.size < x1.heap.size; omega) (.slice a2 N.votes.length c2)).alloc (.cells #[] 3)).mid hm3 (.inl (by omega)))
  clear hf3 hm3 hus q2_0_0 q2_0_1 q2_0_2 q2_0_3 q2_0_4 q2_0_5 q2_0_6 q2_0_7 q2_0_8 q2_0_9 q2_0_10 q2_0_11 q2_0_12 q2_1_0 q2_1_1 q2_1_2 q2_1_3 q2_1_4 q2_1_5 q2_1_6 q2_1_7 q2_1_8 q2_1_9 q2_1_10 q2_1_11 q2_1_12 f2_0 f2_1
  have A4 := Lib.hid ((H4.out.keep HB3.out).alloc (.cells #[] 3))
  have e4 : FreshIn intE 3 1 (x3.heap.size) (x3.heap.size + 1) (.slice (some ⟨x3.heap.size, 0, none⟩) 0 0) [] ((x3.setCell ⟨w.heap.size, 11, none⟩ (.slice a3 N.next.length c3)).alloc (.cells #[] 3)) := by simpa [World.setCell] using (fresh_mdI (x3.setCell ⟨w.heap.size, 11, none⟩ (.slice a3 N.next.length c3)) (x3.setCell ⟨w.heap.size, 11, none⟩ (.slice a3 N.next.length c3)).heap.size (Nat.le_refl _)).here
  have E4 := Lib.hid e4
  clear e4
  go_wp2_with (at_builtin; refine wpList_append_freshG rfl (.tmp 18) (.tmp 20) 23 23 rfl (x3.heap.size) (x3.heap.size + 1) 3 iI (.int .i64 0) 1 8 Try.underlying23 hI hI0 hI1 hI2 rfl (by decide) (some ⟨x3.heap.size, 0, none⟩) 0 0 [] rfl E4.out (.slice am N.mtch.length cm) N.mtch rfl (Src.ofSl (enc := intE) (sz := 1) (xs := N.mtch) Try.underlying23 (fun _ => rfl) intOne A4.out cm) (by simp; omega) (by simp [World.setCell]) ?_)
  intro a4 c4 x4 us hus hf4 hm4 _
  obtain rfl : us = N.mtch := by simpa using hus.out
  have hz4 := hm4.size
  simp only [World.size_alloc] at hz4
  have hy4 : x3.heap.size + 1 ≤ x4.heap.size := by simpa [World.setCell] using hz4
  have q4_0_0 : x4.cell? ⟨w.heap.size, 0, none⟩ = some (.int .i64 N.id) := (hm4.cell (p := ⟨w.heap.size, 0, none⟩) (by show w.heap.size < _; simp [World.setCell]; try omega) (.inl (by show w.heap.size < x3.heap.size; omega))).trans (by simp [go_sem, q3_0_0, q3_0_11, hl3, hk3])
  have q4_1_0 : x4.cell? ⟨w.heap.size + 1, 0, none⟩ = some (.int .i64 0) := (hm4.cell (p := ⟨w.heap.size + 1, 0, none⟩) (by show w.heap.size + 1 < _; simp [World.setCell]; try omega) (.inl (by show w.heap.size + 1 < x3.heap.size; omega))).trans (by simp [go_sem, q3_1_0, q3_0_11, hl3, hk3])
  have q4_0_1 : x4.cell? ⟨w.heap.size, 1, none⟩ = some (.int .i64 N.nodes) := (hm4.cell (p := ⟨w.heap.size, 1, none⟩) (by show w.heap.size < _; simp [World.setCell]; try omega) (.inl (by show w.heap.size < x3.heap.size; omega))).trans (by simp [go_sem, q3_0_1, q3_0_11, hl3, hk3])
  have q4_1_1 : x4.cell? ⟨w.heap.size + 1, 1, none⟩ = some (.int .i64 0) := (hm4.cell (p := ⟨w.heap.size + 1, 1, none⟩) (by show w.heap.size + 1 < _; simp [World.setCell]; try omega) (.inl (by show w.heap.size + 1 < x3.heap.size; omega))).trans (by simp [go_sem, q3_1_1, q3_0_11, hl3, hk3])
  have q4_0_2 : x4.cell? ⟨w.heap.size, 2, none⟩ = some (.int .i64 N.term) := (hm4.cell (p := ⟨w.heap.size, 2, none⟩) (by show w.heap.size < _; simp [World.setCell]; try omega) (.inl (by show w.heap.size < x3.heap.size; omega))).trans (by simp [go_sem, q3_0_2, q3_0_11, hl3, hk3])
  have q4_1_2 : x4.cell? ⟨w.heap.size + 1, 2, none⟩ = some (.int .i64 0) := (hm4.cell (p := ⟨w.heap.size + 1, 2, none⟩) (by show w.heap.size + 1 < _; simp [World.setCell]; try omega) (.inl (by show w.heap.size + 1 < x3.heap.size; omega))).trans (by simp [go_sem, q3_1_2, q3_0_11, hl3, hk3])
  have q4_0_3 : x4.cell? ⟨w.heap.size, 3, none⟩ = some (.int .i64 N.vote) := (hm4.cell (p := ⟨w.heap.size, 3, none⟩) (by show w.heap.size < _; simp [World.setCell]; try omega) (.inl (by show w.heap.size < x3.heap.size; omega))).trans (by simp [go_sem, q3_0_3, q3_0_11, hl3, hk3])
  have q4_1_3 : x4.cell? ⟨w.heap.size + 1, 3, none⟩ = some (.int .i64 0) := (hm4.cell (p := ⟨w.heap.size + 1, 3, none⟩) (by show w.heap.size + 1 < _; simp [World.setCell]; try omega) (.inl (by show w.heap.size + 1 < x3.heap.size; omega))).trans (by simp [go_sem, q3_1_3, q3_0_11, hl3, hk3])
  have q4_0_4 : x4.cell? ⟨w.heap.size, 4, none⟩ = some (.int .i64 N.role) := (hm4.cell (p := ⟨w.heap.size, 4, none⟩) (by show w.heap.size < _; simp [World.setCell]; try omega) (.inl (by show w.heap.size < x3.heap.size; omega))).trans (by simp [go_sem, q3_0_4, q3_0_11, hl3, hk3])
  have q4_1_4 : x4.cell? ⟨w.heap.size + 1, 4, none⟩ = some (.int .i64 0) := (hm4.cell (p := ⟨w.heap.size + 1, 4, none⟩) (by show w.heap.size + 1 < _; simp [World.setCell]; try omega) (.inl (by show w.heap.size + 1 < x3.heap.size; omega))).trans (by simp [go_sem, q3_1_4, q3_0_11, hl3, hk3])
  have q4_0_5 : x4.cell? ⟨w.heap.size, 5, none⟩ = some (.bool N.up) := (hm4.cell (p := ⟨w.heap.size, 5, none⟩) (by show w.heap.size < _; simp [World.setCell]; try omega) (.inl (by show w.heap.size < x3.heap.size; omega))).trans (by simp [go_sem, q3_0_5, q3_0_11, hl3, hk3])
  have q4_1_5 : x4.cell? ⟨w.heap.size + 1, 5, none⟩ = some (.bool false) := (hm4.cell (p := ⟨w.heap.size + 1, 5, none⟩) (by show w.heap.size + 1 < _; simp [World.setCell]; try omega) (.inl (by show w.heap.size + 1 < x3.heap.size; omega))).trans (by simp [go_sem, q3_1_5, q3_0_11, hl3, hk3])
  have q4_0_6 : x4.cell? ⟨w.heap.size, 6, none⟩ = some (.slice a1 N.log.length c1) := (hm4.cell (p := ⟨w.heap.size, 6, none⟩) (by show w.heap.size < _; simp [World.setCell]; try omega) (.inl (by show w.heap.size < x3.heap.size; omega))).trans (by simp [go_sem, q3_0_6, q3_0_11, hl3, hk3])
  have q4_1_6 : x4.cell? ⟨w.heap.size + 1, 6, none⟩ = some (.slice none 0 0) := (hm4.cell (p := ⟨w.heap.size + 1, 6, none⟩) (by show w.heap.size + 1 < _; simp [World.setCell]; try omega) (.inl (by show w.heap.size + 1 < x3.heap.size; omega))).trans (by simp [go_sem, q3_1_6, q3_0_11, hl3, hk3])
  have q4_0_7 : x4.cell? ⟨w.heap.size, 7, none⟩ = some (.int .i64 N.commit) := (hm4.cell (p := ⟨w.heap.size, 7, none⟩) (by show w.heap.size < _; simp [World.setCell]; try omega) (.inl (by show w.heap.size < x3.heap.size; omega))).trans (by simp [go_sem, q3_0_7, q3_0_11, hl3, hk3])
  have q4_1_7 : x4.cell? ⟨w.heap.size + 1, 7, none⟩ = some (.int .i64 0) := (hm4.cell (p := ⟨w.heap.size + 1, 7, none⟩) (by show w.heap.size + 1 < _; simp [World.setCell]; try omega) (.inl (by show w.heap.size + 1 < x3.heap.size; omega))).trans (by simp [go_sem, q3_1_7, q3_0_11, hl3, hk3])
  have q4_0_8 : x4.cell? ⟨w.heap.size, 8, none⟩ = some (.int .i64 N.elapsed) := (hm4.cell (p := ⟨w.heap.size, 8, none⟩) (by show w.heap.size < _; simp [World.setCell]; try omega) (.inl (by show w.heap.size < x3.heap.size; omega))).trans (by simp [go_sem, q3_0_8, q3_0_11, hl3, hk3])
  have q4_1_8 : x4.cell? ⟨w.heap.size + 1, 8, none⟩ = some (.int .i64 0) := (hm4.cell (p := ⟨w.heap.size + 1, 8, none⟩) (by show w.heap.size + 1 < _; simp [World.setCell]; try omega) (.inl (by show w.heap.size + 1 < x3.heap.size; omega))).trans (by simp [go_sem, q3_1_8, q3_0_11, hl3, hk3])
  have q4_0_9 : x4.cell? ⟨w.heap.size, 9, none⟩ = some (.int .i64 N.wait) := (hm4.cell (p := ⟨w.heap.size, 9, none⟩) (by show w.heap.size < _; simp [World.setCell]; try omega) (.inl (by show w.heap.size < x3.heap.size; omega))).trans (by simp [go_sem, q3_0_9, q3_0_11, hl3, hk3])
  have q4_1_9 : x4.cell? ⟨w.heap.size + 1, 9, none⟩ = some (.int .i64 0) := (hm4.cell (p := ⟨w.heap.size + 1, 9, none⟩) (by show w.heap.size + 1 < _; simp [World.setCell]; try omega) (.inl (by show w.heap.size + 1 < x3.heap.size; omega))).trans (by simp [go_sem, q3_1_9, q3_0_11, hl3, hk3])
  have q4_0_10 : x4.cell? ⟨w.heap.size, 10, none⟩ = some (.slice a2 N.votes.length c2) := (hm4.cell (p := ⟨w.heap.size, 10, none⟩) (by show w.heap.size < _; simp [World.setCell]; try omega) (.inl (by show w.heap.size < x3.heap.size; omega))).trans (by simp [go_sem, q3_0_10, q3_0_11, hl3, hk3])
  have q4_1_10 : x4.cell? ⟨w.heap.size + 1, 10, none⟩ = some (.slice none 0 0) := (hm4.cell (p := ⟨w.heap.size + 1, 10, none⟩) (by show w.heap.size + 1 < _; simp [World.setCell]; try omega) (.inl (by show w.heap.size + 1 < x3.heap.size; omega))).trans (by simp [go_sem, q3_1_10, q3_0_11, hl3, hk3])
  have q4_0_11 : x4.cell? ⟨w.heap.size, 11, none⟩ = some (.slice a3 N.next.length c3) := (hm4.cell (p := ⟨w.heap.size, 11, none⟩) (by show w.heap.size < _; simp [World.setCell]; try omega) (.inl (by show w.heap.size < x3.heap.size; omega))).trans (by simp [go_sem, q3_0_11, q3_0_11, hl3, hk3])
  have q4_1_11 : x4.cell? ⟨w.heap.size + 1, 11, none⟩ = some (.slice none 0 0) := (hm4.cell (p := ⟨w.heap.size + 1, 11, none⟩) (by show w.heap.size + 1 < _; simp [World.setCell]; try omega) (.inl (by show w.heap.size + 1 < x3.heap.size; omega))).trans (by simp [go_sem, q3_1_11, q3_0_11, hl3, hk3])
  have q4_0_12 : x4.cell? ⟨w.heap.size, 12, none⟩ = some (.slice am N.mtch.length cm) := (hm4.cell (p := ⟨w.heap.size, 12, none⟩) (by show w.heap.size < _; simp [World.setCell]; try omega) (.inl (by show w.heap.size < x3.heap.size; omega))).trans (by simp [go_sem, q3_0_12, q3_0_11, hl3, hk3])
  have q4_1_12 : x4.cell? ⟨w.heap.size + 1, 12, none⟩ = some (.slice none 0 0) := (hm4.cell (p := ⟨w.heap.size + 1, 12, none⟩) (by show w.heap.size + 1 < _; simp [World.setCell]; try omega) (.inl (by show w.heap.size + 1 < x3.heap.size; omega))).trans (by simp [go_sem, q3_1_12, q3_0_11, hl3, hk3])
  have f4_0 : ∀ o, x4.frozen? ⟨w.heap.size, o, none⟩ = false := fun o => (hm4.frozen (p := ⟨w.heap.size, o, none⟩) (by show w.heap.size < _; simp [World.setCell]; try omega) (.inl (by show w.heap.size < x3.heap.size; omega))).trans (by simp [go_sem, f3_0, hl3, hk3])
  have f4_1 : ∀ o, x4.frozen? ⟨w.heap.size + 1, o, none⟩ = false := fun o => (hm4.frozen (p := ⟨w.heap.size + 1, o, none⟩) (by show w.heap.size + 1 < _; simp [World.setCell]; try omega) (.inl (by show w.heap.size + 1 < x3.heap.size; omega))).trans (by simp [go_sem, f3_1, hl3, hk3])
  have hl4 : w.heap.size + 1 < x4.heap.size := by omega
  have hk4 : w.heap.size < x4.heap.size := by omega
  have HB4 : Hid (Below w.heap.size w (x4.setCell ⟨w.heap.size, 12, none⟩ (.slice a4 N.mtch.length c4))) := Lib.hid (Below.setCell ((HB3.out.alloc (by simp [World.setCell]; try omega) _).trans (hm4.below (by omega) (by simp [World.setCell]; try omega))) (Nat.le_refl _) _)
  have F4_4 := Lib.hid hf4
  have F1_4 := Lib.hid (((F1_3.out.setCell (p := ⟨w.heap.size, 11, none⟩) (by show w.heap.size < w.heap.size + 1 + 1; omega) (.slice a3 N.next.length c3)).alloc (.cells #[] 3)).mid hm4 (.inl (by omega)))
  have F2_4 := Lib.hid (((F2_3.out.setCell (p := ⟨w.heap.size, 11, none⟩) (by show w.heap.size < x1.heap.size; omega) (.slice a3 N.next.length c3)).alloc (.cells #[] 3)).mid hm4 (.inl (by omega)))
  have F3_4 := Lib.hid (((F3_3.out.setCell (p := ⟨w.heap.size, 11, none⟩) (by show w.heap.size < x2.heap.size; omega) (.slice a3 N.next.length c3)).alloc (.cells #[] 3)).mid hm4 (.inl (by omega)))
  clear hf4 hm4 hus q3_0_0 q3_0_1 q3_0_2 q3_0_3 q3_0_4 q3_0_5 q3_0_6 q3_0_7 q3_0_8 q3_0_9 q3_0_10 q3_0_11 q3_0_12 q3_1_0 q3_1_1 q3_1_2 q3_1_3 q3_1_4 q3_1_5 q3_1_6 q3_1_7 q3_1_8 q3_1_9 q3_1_10 q3_1_11 q3_1_12 f3_0 f3_1
  go_wp2_with fail
  refine bodyPost_ret (v := .agg #[.int .i64 N.id, .int .i64 N.nodes, .int .i64 N.term, .int .i64 N.vote, .int .i64 N.role, .bool N.up, .slice a1 N.log.length c1, .int .i64 N.commit, .int .i64 N.elapsed, .int .i64 N.wait, .slice a2 N.votes.length c2, .slice a3 N.next.length c3, .slice a4 N.mtch.length c4]) (by simp [results, Try.results19, go_sem, q4_1_0, q4_1_1, q4_1_2, q4_1_3, q4_1_4, q4_1_5, q4_1_6, q4_1_7, q4_1_8, q4_1_9, q4_1_10, q4_1_11, q4_1_12, f4_1, hl4, hk4]) rfl ?_
  clear f4_0 f4_1 q4_0_0 q4_0_1 q4_0_2 q4_0_3 q4_0_4 q4_0_5 q4_0_6 q4_0_7 q4_0_8 q4_0_9 q4_0_10 q4_0_11 q4_0_12 q4_1_0 q4_1_1 q4_1_2 q4_1_3 q4_1_4 q4_1_5 q4_1_6 q4_1_7 q4_1_8 q4_1_9 q4_1_10 q4_1_11 q4_1_12
  have G1 := F1_4.out
  have G2 := F2_4.out
  have G3 := F3_4.out
  have G4 := F4_4.out
  refine ⟨a1, c1, a2, c2, a3, c3, a4, c4, rfl, ?_, ?_⟩
  · refine ⟨w.heap.size + 1 + 1, x1.heap.size, x1.heap.size, x2.heap.size, x2.heap.size, x3.heap.size, x3.heap.size, x4.heap.size, ?_, by omega, ?_, ?_, ?_, ?_⟩
    · simp [World.setCell]; omega
    · repeat (first | (with_reducible exact G1) | (with_reducible refine FreshIn.setCell ?_ ?_ _; rotate_left; (first | (show w.heap.size < w.heap.size + 1 + 1; omega) | (show w.heap.size + 1 < w.heap.size + 1 + 1; omega))))
    · repeat (first | (with_reducible exact G2) | (with_reducible refine FreshIn.setCell ?_ ?_ _; rotate_left; (first | (show w.heap.size < x1.heap.size; omega) | (show w.heap.size + 1 < x1.heap.size; omega))))
    · repeat (first | (with_reducible exact G3) | (with_reducible refine FreshIn.setCell ?_ ?_ _; rotate_left; (first | (show w.heap.size < x2.heap.size; omega) | (show w.heap.size + 1 < x2.heap.size; omega))))
    · repeat (first | (with_reducible exact G4) | (with_reducible refine FreshIn.setCell ?_ ?_ _; rotate_left; (first | (show w.heap.size < x3.heap.size; omega) | (show w.heap.size + 1 < x3.heap.size; omega))))
  · repeat (first | (with_reducible exact HB4.out) | (with_reducible refine Below.setCell ?_ ?_ _; rotate_left; (first | (show w.heap.size ≤ w.heap.size; omega) | (show w.heap.size ≤ w.heap.size + 1; omega))))
end
section
open Go.RowKit
def nodeZV : NodeV := ⟨0, 0, 0, 0, 0, false, [], 0, 0, 0, [], [], []⟩
def addN (N : NodeV) (d : ByteArray) : NodeV := { N with log := N.log ++ [(N.term, d)] }
def propN (N : NodeV) (d : ByteArray) : NodeV := { addN N d with commit := advI (addN N d) (addN N d).log.length }
noncomputable def propR (N : NodeV) (d : ByteArray) : NodeV × List MsgV × Int :=
  if longP (d.size : Int) = true then (nodeZV, [], 2) else if nodeOK N = false then (nodeZV, [], 1) else if inB (d.size : Int) 1 400 = false then (nodeZV, [], 4)
  else if N.up = false then (N, [], 13) else if ¬ N.role = 2 then (N, [], 12) else if N.log.length = 60 then (N, [], 7) else (propN N d, sentL (propN N d) N.nodes.toNat, 0)
section
variable {N : NodeV} {d : ByteArray}
theorem propR_long (h : longP (d.size : Int) = true) : propR N d = (nodeZV, [], 2) := by unfold propR; rw [if_pos h]
theorem propR_bad (h : longP (d.size : Int) = false) (h1 : nodeOK N = false) : propR N d = (nodeZV, [], 1) := by unfold propR; rw [if_neg (by rw [h]; simp), if_pos h1]
theorem propR_range (h : longP (d.size : Int) = false) (h1 : nodeOK N = true) (h2 : inB (d.size : Int) 1 400 = false) : propR N d = (nodeZV, [], 4) := by unfold propR; rw [if_neg (by rw [h]; simp), if_neg (by rw [h1]; simp), if_pos h2]
theorem propR_down (h : longP (d.size : Int) = false) (h1 : nodeOK N = true) (h2 : inB (d.size : Int) 1 400 = true) (h3 : N.up = false) : propR N d = (N, [], 13) := by unfold propR; rw [if_neg (by rw [h]; simp), if_neg (by rw [h1]; simp), if_neg (by rw [h2]; simp), if_pos h3]
theorem propR_leader (h : longP (d.size : Int) = false) (h1 : nodeOK N = true) (h2 : inB (d.size : Int) 1 400 = true) (h3 : N.up = true) (h4 : ¬ N.role = 2) : propR N d = (N, [], 12) := by unfold propR; rw [if_neg (by rw [h]; simp), if_neg (by rw [h1]; simp), if_neg (by rw [h2]; simp), if_neg (by rw [h3]; simp), if_pos h4]
theorem propR_full (h : longP (d.size : Int) = false) (h1 : nodeOK N = true) (h2 : inB (d.size : Int) 1 400 = true) (h3 : N.up = true) (h4 : N.role = 2) (h5 : N.log.length = 60) : propR N d = (N, [], 7) := by unfold propR; rw [if_neg (by rw [h]; simp), if_neg (by rw [h1]; simp), if_neg (by rw [h2]; simp), if_neg (by rw [h3]; simp), if_neg (by simp [h4]), if_pos h5]
theorem propR_yes (h : longP (d.size : Int) = false) (h1 : nodeOK N = true) (h2 : inB (d.size : Int) 1 400 = true) (h3 : N.up = true) (h4 : N.role = 2) (h5 : ¬ N.log.length = 60) : propR N d = (propN N d, sentL (propN N d) N.nodes.toNat, 0) := by unfold propR; rw [if_neg (by rw [h]; simp), if_neg (by rw [h1]; simp), if_neg (by rw [h2]; simp), if_neg (by rw [h3]; simp), if_neg (by simp [h4]), if_neg h5]
structure NokF (N : NodeV) (m : Nat) : Prop where
  nodes : N.nodes = (m : Int)
  m1 : 1 ≤ m
  m5 : m ≤ 5
  nl : N.next.length = m
  ml : N.mtch.length = m
  commit : 0 ≤ N.commit
  log : N.log.length ≤ 60
  data : ∀ s ∈ N.log, s.2.size ≤ 400
  votes : True
  nx : ∀ k (h : k < N.next.length), 1 ≤ N.next[k] ∧ N.next[k] ≤ (N.log.length : Int) + 1
  mono : ∀ k, k < N.log.length → MonoAt N.log N.term k
theorem nodeOK_f (h : nodeOK N = true) : ∃ m, NokF N m := by
  have hk : NOK N := by
    by_cases hp : NOK N
    · exact hp
    · rw [nodeOK_false hp] at h; cases h
  have h1 := hk.nodes
  simp only [inB, Bool.and_eq_true, decide_eq_true_eq] at h1
  have hs : StOK N.term N.vote N.log := by
    by_cases hp : StOK N.term N.vote N.log
    · exact hp
    · have := hk.st; rw [stOK_false hp] at this; cases this
  obtain ⟨_, _, hl, he⟩ := hs
  have h7 := hk.commit
  simp only [inB, Bool.and_eq_true, decide_eq_true_eq] at h7
  have a := hk.nl
  have b := hk.ml
  refine ⟨N.nodes.toNat, by omega, by omega, by omega, by omega, by omega, h7.1, hl, ?_, trivial, ?_, fun k hk => (he k hk).mono⟩
  · intro s hs
    obtain ⟨i, hi, rfl⟩ := List.getElem_of_mem hs
    obtain ⟨_, h2, _⟩ := he i hi
    exact h2
  · intro k hk'
    obtain ⟨_, _, h3, _⟩ := hk.next k hk'
    simp only [inB, Bool.and_eq_true, decide_eq_true_eq] at h3
    exact h3
theorem propN_sz (h : longP (d.size : Int) = false) (hd : d.size ≤ 1048576) {m : Nat} (hF : NokF N m) (hZ : NodeSz N 1048576) : NodeSz (propN N d) 1048576 := by
  have := hF.log
  refine ⟨?_, ?_, hZ.votes, hZ.next, hZ.mtch⟩
  · show (N.log ++ [(N.term, d)]).length ≤ _
    simp; omega
  · intro s hs
    have hs : s ∈ N.log ++ [(N.term, d)] := hs
    rcases List.mem_append.1 hs with hs | hs
    · exact hZ.data s hs
    · simp at hs; subst hs; exact hd
theorem replM_sz {to p : Nat} (hZ : NodeSz N 1048576) : MsgSz (replM N to p) 1048576 :=
  ⟨by show (N.log.drop p).length ≤ _; have := hZ.log; simp; omega, fun s hs => hZ.data s (List.mem_of_mem_drop hs)⟩
theorem sentL_sz (hZ : NodeSz N 1048576) (k : Nat) : ∀ M ∈ sentL N k, MsgSz M 1048576 := by
  induction k with
  | zero => intro M hM; simp [sentL] at hM
  | succ k ih =>
    intro M hM
    simp only [sentL] at hM
    rcases List.mem_append.1 hM with hM | hM
    · exact ih M hM
    · split at hM
      · simp at hM
      · simp at hM; subst hM; exact replM_sz hZ
theorem propR_sz (hZ : NodeSz N 1048576) (hd : d.size ≤ 1048576) : NodeSz (propR N d).1 1048576 ∧ (propR N d).2.1.length ≤ 5 ∧ ∀ M ∈ (propR N d).2.1, MsgSz M 1048576 := by
  have z : NodeSz nodeZV 1048576 := by refine ⟨?_, ?_, ?_, ?_, ?_⟩ <;> simp [nodeZV]
  cases h : longP (d.size : Int)
  · cases h1 : nodeOK N
    · rw [propR_bad h h1]; exact ⟨z, by simp, by simp⟩
    · cases h2 : inB (d.size : Int) 1 400
      · rw [propR_range h h1 h2]; exact ⟨z, by simp, by simp⟩
      · cases h3 : N.up
        · rw [propR_down h h1 h2 h3]; exact ⟨hZ, by simp, by simp⟩
        · by_cases h4 : N.role = 2
          · by_cases h5 : N.log.length = 60
            · rw [propR_full h h1 h2 h3 h4 h5]; exact ⟨hZ, by simp, by simp⟩
            · rw [propR_yes h h1 h2 h3 h4 h5]
              obtain ⟨m, hF⟩ := nodeOK_f h1
              have hz := propN_sz h hd hF hZ
              refine ⟨hz, ?_, sentL_sz hz _⟩
              have := sentL_len (propN N d) N.nodes.toNat
              have a := hF.nodes
              have b := hF.m5
              show (sentL (propN N d) N.nodes.toNat).length ≤ 5
              omega
          · rw [propR_leader h h1 h2 h3 h4]; exact ⟨hZ, by simp, by simp⟩
  · rw [propR_long h]; exact ⟨z, by simp, by simp⟩
end
/-- impl's results: all in new memory, the messages behind the node. -/
def PropI (R : NodeV × List MsgV × Int) (w : World) (e : Ending) (w' : World) : Prop :=
  ∃ (al : Option Addr) (cl : Nat) (av : Option Addr) (cv : Nat) (an : Option Addr) (cn : Nat) (am : Option Addr) (cm : Nat) (rs : List MsgA) (ar : Option Addr) (cr mid : Nat), e = .returned (.tuple #[.agg #[.int .i64 R.1.id, .int .i64 R.1.nodes, .int .i64 R.1.term, .int .i64 R.1.vote, .int .i64 R.1.role, .bool R.1.up, .slice al R.1.log.length cl, .int .i64 R.1.commit, .int .i64 R.1.elapsed, .int .i64 R.1.wait, .slice av R.1.votes.length cv, .slice an R.1.next.length cn, .slice am R.1.mtch.length cm], .slice ar rs.length cr, .int .i64 R.2.2]) ∧ rs.map (·.M) = R.2.1 ∧ FreshNodeX w.heap.size mid R.1 w' al cl av cv an cn am cm ∧ mid ≤ w'.heap.size ∧ SaI mid rs ar cr w' ∧ Below w.heap.size w w'
/-- The reference's results: what can be read. -/
def PropS (R : NodeV × List MsgV × Int) (w : World) (e : Ending) (w' : World) : Prop :=
  ∃ (al : Option Addr) (cl : Nat) (av : Option Addr) (cv : Nat) (an : Option Addr) (cn : Nat) (am : Option Addr) (cm : Nat) (rs : List MsgA) (ar : Option Addr) (cr : Nat), e = .returned (.tuple #[.agg #[.int .i64 R.1.id, .int .i64 R.1.nodes, .int .i64 R.1.term, .int .i64 R.1.vote, .int .i64 R.1.role, .bool R.1.up, .slice al R.1.log.length cl, .int .i64 R.1.commit, .int .i64 R.1.elapsed, .int .i64 R.1.wait, .slice av R.1.votes.length cv, .slice an R.1.next.length cn, .slice am R.1.mtch.length cm], .slice ar rs.length cr, .int .i64 R.2.2]) ∧ rs.map (·.M) = R.2.1 ∧ NodeSl w' al av an am R.1 ∧ MsgS w' ar rs ∧ Below w.heap.size w w'
theorem FreshNodeX.zero (lo hi : Nat) (h : lo ≤ hi) (w : World) : FreshNodeX lo hi nodeZV w none 0 none 0 none 0 none 0 :=
  ⟨lo, lo, lo, lo, lo, lo, lo, lo, by omega, by omega, FreshIn.nil _ _ _ _ _ _, FreshIn.nil _ _ _ _ _ _, FreshIn.nil _ _ _ _ _ _, FreshIn.nil _ _ _ _ _ _⟩
section
variable {N : NodeV} {w w' : World} {al av an am : Option Addr} {cl cv cn cm lo hi : Nat}
theorem FreshNodeX.wide {lo' hi' : Nat} (h : FreshNodeX lo hi N w al cl av cv an cn am cm) (h1 : lo' ≤ lo) (h2 : hi ≤ hi') : FreshNodeX lo' hi' N w al cl av cv an cn am cm := by
  obtain ⟨l1, b1, v1, b2, n1, n2, m1, m2, h3, h4, k⟩ := h
  exact ⟨l1, b1, v1, b2, n1, n2, m1, m2, by omega, h4, k⟩
theorem FreshNodeX.set (h : FreshNodeX lo hi N w al cl av cv an cn am cm) {p : Addr} (hp : p.block < lo ∨ hi ≤ p.block) (u : Value) : FreshNodeX lo hi N (w.setCell p u) al cl av cv an cn am cm :=
  h.mid (Mid.setCell (Mid.refl p.block (p.block + 1) w) (p := p) (Nat.le_refl _) (Nat.lt_succ_self _) u) (by omega)
/-- The log has grown, the other slices are as they were. -/
theorem FreshNodeX.log {us : List Ent} {c' g mid l1 b1 v1 b2 n1 n2 m1 m2 : Nat} {c : Int} (h1 : lo ≤ l1 ∧ l1 ≤ b1 ∧ b1 ≤ hi ∧ lo ≤ v1 ∧ v1 ≤ b2 ∧ b2 ≤ hi ∧ lo ≤ n1 ∧ n1 ≤ n2 ∧ n2 ≤ hi ∧ lo ≤ m1 ∧ m1 ≤ m2 ∧ m2 ≤ hi)
    (h2 : (b1 ≤ v1 ∨ b2 ≤ l1) ∧ (b1 ≤ n1 ∨ n2 ≤ l1) ∧ (b1 ≤ m1 ∨ m2 ≤ l1) ∧ (b2 ≤ n1 ∨ n2 ≤ v1) ∧ (b2 ≤ m1 ∨ m2 ≤ v1) ∧ (n2 ≤ m1 ∨ m2 ≤ n1))
    (k2 : FreshIn intE 3 1 v1 b2 (.slice av N.votes.length cv) N.votes w) (k3 : FreshIn intE 3 1 n1 n2 (.slice an N.next.length cn) N.next w) (k4 : FreshIn intE 3 1 m1 m2 (.slice am N.mtch.length cm) N.mtch w)
    (hf : FreshIn entE 48 2 g (g + 1) (.slice (some ⟨g, 0, none⟩) us.length c') us w) (hg : l1 ≤ g ∧ g < b1 ∨ hi ≤ g) (hm : g < mid) (hmid : hi ≤ mid) :
    FreshNodeX lo mid { N with log := us, commit := c } w (some ⟨g, 0, none⟩) c' av cv an cn am cm :=
  ⟨g, g + 1, v1, b2, n1, n2, m1, m2, by omega, by omega, hf, k2, k3, k4⟩
theorem FreshIn.one {us : List Ent} {c' l g : Nat} {w : World} (hf : FreshIn entE 48 2 l w.heap.size (.slice (some ⟨g, 0, none⟩) us.length c') us w) : FreshIn entE 48 2 g (g + 1) (.slice (some ⟨g, 0, none⟩) us.length c') us w := by
  obtain ⟨b, t1, t2, t3, t4⟩ := hf.tight
  have h1 := FreshIn.blks t1 g (by simp [blkOf])
  obtain rfl : b = g := by omega
  exact t1
end
theorem SaI.setL {lo : Nat} {L : List MsgA} {am : Option Addr} {cm : Nat} {w : World} (h : SaI lo L am cm w) {p : Addr} (hp : p.block < lo) (u : Value) : SaI lo L am cm (w.setCell p u) :=
  ⟨FreshIn.setB h.row hp u, RowsG.toM h.gs (by simp [World.setCell]) (fun r hr k => FreshIn.setB k hp u), h.sep⟩
end
end Go.Proofs.Ytcakldgbhjkkfaa
