/- Contracts of the functions that the claim reaches. No conditions but sizes. -/
import Derived.Test.YtjmpgeffkdjpdaaGreatDoorPTmb
import Derived.Deep.DeepCutAuto
import Derived.Deep.RegionHeld3
import Derived.StillTailTactics
import Derived.Lib.Hide
import Derived.BigQuiet
import Derived.OwnWalk
import Derived.Laws.IdiomStrings
import Derived.Laws.ShiftsVar
import Derived.Lib.Builder
import Derived.Lib.AppendStr
import Derived.Lib.UnsafeStr
import Derived.Lib.MakeNoZero
import Derived.Laws.Externs
import Derived.RegionTactic
import Derived.BigRegion
import Derived.Shelf.Strings.Builder1
import Derived.Laws.CopyOwn
namespace Go.Proofs.YtjmpgeffkdjpdaaGreatDoor
set_option linter.unusedVariables false
set_option linter.unusedSimpArgs false
set_option maxRecDepth 100000
set_option maxHeartbeats 16000000
open Go.RowKit
section
section
variable {P : Program} {md : Region.Mode} {ops : Array Oper} {Q : Exit → Act → World → Prop} {S : World → Prop} {ex : Nat → Bool}
theorem stepG {i : Nat} {o : Oper} {fuel : Nat} {listed : Array Bool} {a : Act} {w : World} (ho : ops[i]? = some o)
 (h : ∀ K' : Act → World → Prop, Shut (∀ a w, (ex i = true ∨ S w) → Za6 P md ops Q S ex fuel (listed.setIfInBounds i true) a w → K' a w) → if Region.wanted o (yielded ops a.tmps) = true then Oper.wp P o a w K' Q else K' (a.put o.dst undef) w) :
 wpOp P ops Q i (fun a' w' => (ex i = true ∨ (S w → S w')) ∧ Za6 P md ops Q S ex fuel (listed.setIfInBounds i true) a' w') a w :=
 wpOp_step ho (fun K' hK => h K' (fun a w h1 h2 => hK a w ⟨h1.imp id (fun h3 _ => h3), h2⟩))
theorem Zt0 {rs : List Nat} {fuel : Nat} {listed : Array Bool} {a : Act} {w : World} (hr : Region.ready md ops listed = rs) (hne : rs ≠ [])
 (h : ∀ j ∈ rs, ∃ o, ops[j]? = some o ∧ ∀ K' : Act → World → Prop, Shut (∀ a w, (ex j = true ∨ S w) → Za6 P md ops Q S ex fuel (listed.setIfInBounds j true) a w → K' a w) → if Region.wanted o (yielded ops a.tmps) = true then Oper.wp P o a w K' Q else K' (a.put o.dst undef) w) : Za6 P md ops Q S ex (fuel + 1) listed a w :=
 ⟨fun h0 => absurd (hr.symm.trans h0) hne, fun j hj => by
   rw [hr] at hj
   obtain ⟨o, ho, h1⟩ := h j hj
   exact stepG ho h1⟩
end
theorem QS.arg2 {X lo : Nat} {p : PV} {ap ap' al : Option Addr} {cp cp' cl : Nat} {L : List aA} {w w1 : World} {xs : List Int} {v : Value} (h : QS X lo p ap cp L al cl w) (hc : Ch (· ∈ bO ap) w w1) (ha : Fr iE 3 1 w.heap.size w1.heap.size (.slice ap' xs.length cp') xs w1) (hv : v = .slice ap' xs.length cp') : QS X lo { p with args := xs } ap' cp' L al cl (w1.setCell ⟨X, 1, none⟩ v) := by
 subst hv
 have hk : ∀ k ∈ bO ap', k ∈ bO ap ∨ w.heap.size ≤ k := fun k hk => .inr (Fr.blks ha k hk).1
 have hX : ¬ X ∈ bO ap := fun hb => h.ps.nB (by simp [hb])
 have h5 := (hc.cell (p := ⟨X, 5, none⟩) h.ps.lt hX).trans h.c5
 have hlt := Nat.lt_of_lt_of_le h.ps.lt hc.size
 refine ⟨h.ps.arg2 hc (ha.mono (by have := h.lo; have := h.ps.lt; omega) (Nat.le_refl _)) hk, ?_, h.lo⟩
 simp [go_sem, h5, hlt]
def CsiR (p : PV) (n m : Nat) (w : World) (s : Value) (wx : World) : Prop :=
 ∃ (H : Nat) (a : Option Addr) (c : Nat), s = .pointer (some ⟨H, 0, none⟩) ∧ w.heap.size ≤ H ∧ H < wx.heap.size ∧ H ∉ bO a ∧ wx.cell? ⟨H, 0, none⟩ = some (.int .i64 4) ∧ wx.cell? ⟨H, 1, none⟩ = some (.int .i64 n) ∧ wx.cell? ⟨H, 2, none⟩ = some (.bool p.priv) ∧
  wx.cell? ⟨H, 3, none⟩ = some (.slice a (m + 1) c) ∧ wx.cell? ⟨H, 4, none⟩ = some (.string ⟨#[]⟩) ∧ Fr iE 3 1 w.heap.size wx.heap.size (.slice a p.args.length c) p.args wx ∧ Below w.heap.size w wx
theorem Zn1 {p : PV} {n m H c : Nat} {a : Option Addr} {w w3 : World} (hH : w.heap.size ≤ H) (hlt : H < w3.heap.size) (hn : H ∉ bO a) (h0 : ∃ v, w3.cell? ⟨H, 0, none⟩ = some v) (h1 : ∃ v, w3.cell? ⟨H, 1, none⟩ = some v) (h2 : ∃ v, w3.cell? ⟨H, 2, none⟩ = some v) (h3 : ∃ v, w3.cell? ⟨H, 3, none⟩ = some v) (h4 : ∃ v, w3.cell? ⟨H, 4, none⟩ = some v)
 (hf : Fr iE 3 1 w.heap.size w3.heap.size (.slice a p.args.length c) p.args w3) (hm : p.args.length = m + 1) (hb : Below w.heap.size w w3) :
 CsiR p n m w (.pointer (some ⟨H, 0, none⟩)) (((((w3.setCell ⟨H, 0, none⟩ (.int .i64 4)).setCell ⟨H, 1, none⟩ (.int .i64 n)).setCell ⟨H, 2, none⟩ (.bool p.priv)).setCell ⟨H, 3, none⟩ (.slice a (m + 1) c)).setCell ⟨H, 4, none⟩ (.string ⟨#[]⟩)) := by
 obtain ⟨v0, h0⟩ := h0
 obtain ⟨v1, h1⟩ := h1
 obtain ⟨v2, h2⟩ := h2
 obtain ⟨v3, h3⟩ := h3
 obtain ⟨v4, h4⟩ := h4
 have hc : Ch (fun k => k = H) w3 (((((w3.setCell ⟨H, 0, none⟩ (.int .i64 4)).setCell ⟨H, 1, none⟩ (.int .i64 n)).setCell ⟨H, 2, none⟩ (.bool p.priv)).setCell ⟨H, 3, none⟩ (.slice a (m + 1) c)).setCell ⟨H, 4, none⟩ (.string ⟨#[]⟩)) := ((((Ch.set1 _ _ _ _).setB _ _).setB _ _).setB _ _).setB _ _
 refine ⟨H, a, c, rfl, hH, Nat.lt_of_lt_of_le hlt hc.size, hn, ?_, ?_, ?_, ?_, ?_, hf.ch hc (fun k hk e => hn (e ▸ hk)), hb.trans (hc.below (Nat.le_trans hH (by omega)) (fun k hk => by omega))⟩
 all_goals simp [go_sem, h0, h1, h2, h3, h4, hlt]
theorem Yb4 {p : PV} {n m c : Nat} {a : Option Addr} {w w3 : World} (hb : Below w.heap.size w w3) (hf : Fr iE 3 1 w.heap.size w3.heap.size (.slice a p.args.length c) p.args w3) (hm : p.args.length = m + 1) :
 CsiR p n m w (.pointer (some ⟨w3.heap.size, 0, none⟩)) (w3.alloc (.cells #[.int .i64 4, .int .i64 n, .bool p.priv, .slice a (m + 1) c, .string ⟨#[]⟩] 38)) := by
 have hc : Ch (fun _ => False) w3 (w3.alloc (.cells #[.int .i64 4, .int .i64 n, .bool p.priv, .slice a (m + 1) c, .string ⟨#[]⟩] 38)) := Ch.refl.alloc _
 refine ⟨w3.heap.size, a, c, rfl, hb.size, by simp, fun h => by have := (Fr.blks hf _ h).2; omega, ?_, ?_, ?_, ?_, ?_, hf.ch hc (fun _ _ h => h), hb.alloc hb.size _⟩
 all_goals simp [go_sem]
theorem csi_r (p : PV) (X lo : Nat) (ap al : Option Addr) (cp cl : Nat) (L : List aA) (b : UInt8) (w : World) (h : QS X lo p ap cp L al cl w) (hL : L.length ≤ 1048576) (hs : p.state = 2) (hAA : argsB p.args = true) (hT : p.text = e0) (hU : p.utf = e0) :
 Calls Tryz.prog 135 #[.pointer (some ⟨X, 0, none⟩), .int .i64 b.toNat] w (fun e w' => QR X lo (cstep p b) L e w w') := by
 obtain ⟨iI, hI, hI0, hI1, hI2⟩ := info_parts Tryz.infoInt
 have HP := zz h
 have k_0 : w.cell? ⟨X, 0, none⟩ = some (.int .i64 2) := by rw [h.ps.c0, hs]
 have k_2 : w.cell? ⟨X, 2, none⟩ = some (.bool p.priv) := h.ps.c2
 have k_3 : w.cell? ⟨X, 3, none⟩ = some (.string ⟨#[]⟩) := by rw [h.ps.c3, hT]
 have k_4 : w.cell? ⟨X, 4, none⟩ = some (.string ⟨#[]⟩) := by rw [h.ps.c4, hU]
 have k_5 := h.c5
 simp only [argsB, Bool.and_eq_true, decide_eq_true_eq, List.all_eq_true] at hAA
 obtain ⟨⟨hl1, hl8⟩, hall⟩ := hAA
 obtain ⟨g, rfl, hg1, _, hg3, ho⟩ := h.ps.args.block (by omega)
 obtain ⟨m, hm⟩ : ∃ m, p.args.length = m + 1 := ⟨p.args.length - 1, by omega⟩
 have k_1 : w.cell? ⟨X, 1, none⟩ = some (.slice (some ⟨g, 0, none⟩) (m + 1) cp) := by rw [h.ps.c1, hm]
 have HLM := zz hm
 have HST := zz hs
 have HTX := zz hT
 have HUX := zz hU
 have hXg : ¬ X = g := fun e => h.ps.nB (by simp [bO, e])
 have hgX : ¬ g = X := fun e => hXg e.symm
 have hlm : m < p.args.length := by omega
 obtain ⟨x, hx⟩ := eX (p.args[m]'hlm)
 have HXE := zz hx
 have a_m : w.cell? ⟨g, m, none⟩ = some (.int .i64 x) := by
  have := (h.ps.args.sl (fun _ => rfl) : Sl iE 1 w (some ⟨g, 0, none⟩) p.args)
  obtain ⟨b1, o1, he, _, hc⟩ := this.at hlm
  cases he
  have h2 := hc m hlm 0 (by omega)
  simpa [iE, hx] using h2
 have HSL : Hid (Sl iE 1 w (some ⟨g, 0, none⟩) p.args) := zz (h.ps.args.sl (fun _ => rfl))
 have hxb : -1 ≤ x ∧ x ≤ 9999 := by
  rw [← hx]
  exact hall _ (List.getElem_mem _)
 obtain ⟨hx1, hx2⟩ := hxb
 have HX : Hid (lastA p.args = x) := zz (by rw [Yd2 hm]; exact hx)
 have HX0 : Hid (m = 0 → x = -1 → p.args = [-1]) := zz (fun h0 h1 => by
  subst h0
  exact one_at hm (by rw [hx]; exact h1))
 have HX1 : Hid (p.args = [-1] → m = 0 ∧ x = -1) := zz (fun h0 => by
  have e1 : m = 0 := by rw [h0] at hm; simp at hm; omega
  subst e1
  refine ⟨rfl, ?_⟩
  rw [← hx]
  simp [h0])
 have hm7 : m ≤ 7 := by omega
 clear ho hall hs hT hU hx hl1 hm
 have kf := h.ps.fz
 have klt := h.ps.lt
 have hlo : lo ≤ w.heap.size := by have := h.lo; omega
 have h256 : b.toNat < 256 := b.toNat_lt
 clear h
 obtain ⟨Gr, hG⟩ := eX (cstep p b)
 have HGG := zz hG
 rw [hG]
 clear hG
 obtain ⟨n, hn⟩ := eX (b.toNat)
 rw [hn] at h256 ⊢
 have HN := zz hn
 clear hn
 by_cases h27 : n = 27
 case pos =>
  have HR : Hid (Gr = (pst 1, [])) := zz (by rw [← HGG.out]; exact cs1 HN.out h27)
  have g27 : ((n : Int) == 27) = true := by subst h27; rfl
  clear h27
  go_enter Tryz.func135, Tryz.ntmps135
  go_wp2_with fail
  refine (gR X lo _ (some ⟨g, 0, none⟩) al cp cl L _ HP.out).mono ?_
  rintro e w1 ⟨rfl, g', hg', hq, hc⟩
  have HQ := zz hq
  have HC := zz hc
  have y_0 := hq.ps.c0
  have y_1 := hq.ps.c1
  have y_2 := hq.ps.c2
  have y_3 := hq.ps.c3
  have y_4 := hq.ps.c4
  have y_5 := hq.c5
  have yf := hq.ps.fz
  have ylt := hq.ps.lt
  clear hq hc
  go_wp2_with fail
  refine bodyPost_end (v := .tuple #[]) (by simp [results, Tryz.results135]) rfl ?_
  refine QR.only (p' := pst 1) (HQ.out.cells ?hc ?_ ?_ ?_ ?_ ?_ ?_ ?_ (.inl ⟨rfl, rfl, rfl⟩)) HP.out (HC.out.trans ?hc (fun i hi => .inl hi)) HR.out
  case hc => repeat (first | (with_reducible exact Ch.refl) | (with_reducible refine Ch.alloc ?_ _) | (with_reducible refine Ch.drew ?_) | (with_reducible refine Ch.setB ?_ _ _))
  all_goals first | (intro o; simp [go_sem, yf, ylt]; done) | (simp [go_sem, y_0, y_1, y_2, y_3, y_4, y_5, ylt, pst, pz]; done)
 have g27 : ((n : Int) == 27) = false := beq_eq_false_iff_ne.2 (by omega)
 obtain ⟨c, hc⟩ := eX (ctl n)
 have HCT : Hid (ctlI (n : Int) = c) := zz (by rw [Zt7]; exact hc)
 have HCC := zz hc
 clear hc
 cases c
 case true =>
  have HR : Hid (Gr = (p, [⟨2, n, false, [], e0⟩])) := zz (by rw [← HGG.out]; exact cs2 HN.out h27 HCC.out)
  go_enter Tryz.func135, Tryz.ntmps135
  go_wp2_with (go_at_call 78; refine (cR _ _).mono ?_; rw [HCT.out]; rintro e w' ⟨rfl, rfl⟩)
  refine (Zb9 X lo p (some ⟨g, 0, none⟩) al none cp cl 0 L ⟨2, n, false, [], e0⟩ _ HP.out (Fr.nil _ _ _ _ _ _) (by simp [bO]) hL (by simp)).mono ?_
  rintro e w1 hq
  have HQ := zz hq
  obtain ⟨rfl, _⟩ := hq
  go_wp2_with fail
  refine bodyPost_end (v := .tuple #[]) (by simp [results, Tryz.results135]) rfl ?_
  rw [HR.out]
  exact HQ.out
 obtain ⟨v8, hv8⟩ := eX (inB (n : Int) 48 57)
 have HV8 := zz hv8
 clear hv8
 cases v8
 case true =>
  have h3 : 48 ≤ n ∧ n ≤ 57 := by have := HV8.out; simp [inB] at this; omega
  have HR : Hid (Gr = ({ p with args := p.args.dropLast ++ [min 9999 (max 0 x * 10 + ((n : Int) - 48))] }, [])) := zz (by rw [← HGG.out, cs3 HN.out HCC.out h3, HX.out])
  obtain ⟨h31, h32⟩ := h3
  have g31 : (48 : Int) ≤ (n : Int) := by omega
  have g32 : (n : Int) ≤ 57 := by omega
  obtain ⟨y, hy⟩ := eX (max 0 x)
  have hy0 : 0 ≤ y := by omega
  have hy1 : y ≤ 9999 := by omega
  rw [hy] at HR
  have HY := zz hy
  clear h31 h32 hy
  go_enter Tryz.func135, Tryz.ntmps135
  go_upto_region 9 with (first | (go_at_call 78; refine (cR _ _).mono ?_; rw [HCT.out]; rintro e w' ⟨rfl, rfl⟩) | (go_at_call 60; refine (lI _ _ _ _).mono ?_; (first | rw [HV8.out] | rw [HV6.out]); rintro e w' ⟨rfl, rfl⟩))
  have HSRC : Hid (Src Tryz.prog 1 36 (.slice (some ⟨g, 0, none⟩) (m + 1) cp) p.args.length (p.args.flatMap iE) (w.alloc (.cells #[] 3))) := zz (by
   have h1 := Src.ofSl (P := Tryz.prog) (tx := 36) (enc := iE) (sz := 1) (xs := p.args) Tryz.underlying36 (fun _ => rfl) Zi9 (HSL.out.alloc (.cells #[] 3)) cp
   rwa [HLM.out] at h1 ⊢)
  have HFZ : Hid (Fr iE 3 1 w.heap.size (w.alloc (.cells #[] 3)).heap.size (.slice (some ⟨w.heap.size, 0, none⟩) 0 0) ([] : List Int) (w.alloc (.cells #[] 3))) := zz (Zb7 _ _ _ rfl (Nat.le_refl _))
  go_wp2_with (at_builtin; refine wA (.tmp 39) (.tmp 44) 36 36 w.heap.size 3 iI (.int .i64 0) 1 8 Tryz.underlying36 hI hI0 hI1 hI2 rfl (by decide) (some ⟨w.heap.size, 0, none⟩) 0 0 ([] : List Int) HFZ.out (.slice (some ⟨g, 0, none⟩) (m + 1) cp) p.args HSRC.out (by simp; omega) (by simp) rfl rfl rfl rfl ?_)
  intro a1 c1 w1 us hus hf hc hk
  have HUS : Hid (us = p.args) := zz (by simpa using hus.out)
  rw [HUS.out] at hf
  have HLS : Hid (us.length = m + 1) := zz (by rw [HUS.out]; exact HLM.out)
  rw [HLS.out]
  have HF := zz hf
  have HC1 : Hid (Ch (fun _ => False) w w1) := zz ((Ch.refl.alloc _).trans hc (fun i hi => .inr (by simp [bO] at hi; omega)))
  obtain ⟨g1, rfl, hg11, hg12, hg13, ho1⟩ := hf.block (by rw [HLM.out]; omega)
  have ym : w1.cell? ⟨g1, m, none⟩ = some (.int .i64 x) := by
   have := (hf.sl (fun _ => rfl) : Sl iE 1 w1 (some ⟨g1, 0, none⟩) p.args)
   obtain ⟨b1, o1, he, _, hc2⟩ := this.at hlm
   cases he
   have h2 := hc2 m hlm 0 (by omega)
   simpa [iE, HXE.out] using h2
  have gf1 : ∀ o, w1.frozen? ⟨g1, o, none⟩ = false := fun o => ho1.frozenAt o
  have hX1 : ¬ X = g1 := by omega
  have h1X : ¬ g1 = X := by omega
  have ylt : X < w1.heap.size := by omega
  have y_0 := (HC1.out.cell (p := ⟨X, 0, none⟩) klt (fun h => h)).trans k_0
  have y_1 := (HC1.out.cell (p := ⟨X, 1, none⟩) klt (fun h => h)).trans k_1
  have y_2 := (HC1.out.cell (p := ⟨X, 2, none⟩) klt (fun h => h)).trans k_2
  have y_5 := (HC1.out.cell (p := ⟨X, 5, none⟩) klt (fun h => h)).trans k_5
  have yf : ∀ o, w1.frozen? ⟨X, o, none⟩ = false := fun o => (HC1.out.frozen (p := ⟨X, o, none⟩) klt (fun h => h)).trans (kf o)
  have em : (m : Int) < (m : Int) + 1 := by omega
  clear hus hf hc hk ho1
  have HVE : Hid (min 9999 (max 0 x * 10 + (n : Int) - 48) = min 9999 (y * 10 + ((n : Int) - 48))) := zz (by rw [HY.out]; omega)
  go_wp2_with fail
  all_goals
   rw [HVE.out]
   have hset := Zy2 HLM.out (min 9999 (y * 10 + ((n : Int) - 48)))
   refine bodyPost_end (v := .tuple #[]) (by simp [results, Tryz.results135]) rfl ?_
   refine QR.only (p' := { p with args := p.args.set m (min 9999 (y * 10 + ((n : Int) - 48))) }) (HP.out.arg2 (w1 := w1.setCell ⟨g1, m, none⟩ (.int .i64 (min 9999 (y * 10 + ((n : Int) - 48))))) ((HC1.out.mono (fun i hi => hi.elim)).setCell (p := ⟨g1, m, none⟩) (.inr hg11) _) (HF.out.setI hlm _) (by rw [List.length_set, HLM.out])) HP.out ?_ (by rw [HR.out, hset])
   exact ((HC1.out.mono (M := fun k => k = X) (fun i hi => hi.elim)).setCell (p := ⟨g1, m, none⟩) (.inr hg11) _).setB 1 _
 have h3 : ¬ (48 ≤ n ∧ n ≤ 57) := by have := HV8.out; simp [inB] at this; omega
 by_cases h59 : n = 59
 case pos =>
  have g59 : ((n : Int) == 59) = true := by subst h59; rfl
  have H59 := zz h59
  have HV6 : Hid (inB (n : Int) 64 126 = false) := zz (by subst h59; rfl)
  have HH63 : Hid (¬ (n = 63 ∧ p.args = [-1] ∧ p.priv = false)) := zz (fun h => by omega)
  have HH64 : Hid (¬ (64 ≤ n ∧ n ≤ 126)) := zz (by omega)
  have g63 : ((n : Int) == 63) = false := beq_eq_false_iff_ne.2 (by omega)
  clear h59
  by_cases hm8 : m < 7
  case neg =>
   have gm8 : ¬ (m : Int) + 1 < 8 := by omega
   have HH59 : Hid (¬ (n = 59 ∧ p.args.length < 8)) := zz (fun h => by rw [HLM.out] at h; omega)
   have HR : Hid (Gr = (pst 3, [])) := zz (by rw [← HGG.out]; exact cs7 HN.out h27 HCC.out h3 HH59.out HH63.out HH64.out)
   go_enter Tryz.func135, Tryz.ntmps135
   go_wp2_with (first | (go_at_call 78; refine (cR _ _).mono ?_; rw [HCT.out]; rintro e w' ⟨rfl, rfl⟩) | (go_at_call 60; refine (lI _ _ _ _).mono ?_; (first | rw [HV8.out] | rw [HV6.out]); rintro e w' ⟨rfl, rfl⟩))
   refine (gR X lo _ (some ⟨g, 0, none⟩) al cp cl L _ HP.out).mono ?_
   rintro e w1 ⟨rfl, g', hg', hq, hc⟩
   have HQ := zz hq
   have HC := zz hc
   have y_0 := hq.ps.c0
   have y_1 := hq.ps.c1
   have y_2 := hq.ps.c2
   have y_3 := hq.ps.c3
   have y_4 := hq.ps.c4
   have y_5 := hq.c5
   have yf := hq.ps.fz
   have ylt := hq.ps.lt
   clear hq hc
   go_wp2_with fail
   refine bodyPost_end (v := .tuple #[]) (by simp [results, Tryz.results135]) rfl ?_
   refine QR.only (p' := pst 3) (HQ.out.cells ?hc ?_ ?_ ?_ ?_ ?_ ?_ ?_ (.inl ⟨rfl, rfl, rfl⟩)) HP.out (HC.out.trans ?hc (fun i hi => .inl hi)) HR.out
   case hc => repeat (first | (with_reducible exact Ch.refl) | (with_reducible refine Ch.alloc ?_ _) | (with_reducible refine Ch.drew ?_) | (with_reducible refine Ch.setB ?_ _ _))
   all_goals first | (intro o; simp [go_sem, yf, ylt]; done) | (simp [go_sem, y_0, y_1, y_2, y_3, y_4, y_5, ylt, pst, pz]; done)
  have HR : Hid (Gr = ({ p with args := p.args ++ [-1] }, [])) := zz (by rw [← HGG.out]; exact cs4 HN.out HCC.out ⟨H59.out, by rw [HLM.out]; omega⟩)
  have gm8 : (m : Int) + 1 < 8 := by omega
  go_enter Tryz.func135, Tryz.ntmps135
  go_upto_region 13 with (first | (go_at_call 78; refine (cR _ _).mono ?_; rw [HCT.out]; rintro e w' ⟨rfl, rfl⟩) | (go_at_call 60; refine (lI _ _ _ _).mono ?_; (first | rw [HV8.out] | rw [HV6.out]); rintro e w' ⟨rfl, rfl⟩))
  have HSRC : Hid (Src Tryz.prog 1 36 (.slice (some ⟨g, 0, none⟩) (m + 1) cp) p.args.length (p.args.flatMap iE) (w.alloc (.cells #[] 3))) := zz (by
   have h1 := Src.ofSl (P := Tryz.prog) (tx := 36) (enc := iE) (sz := 1) (xs := p.args) Tryz.underlying36 (fun _ => rfl) Zi9 (HSL.out.alloc (.cells #[] 3)) cp
   rwa [HLM.out] at h1 ⊢)
  have HFZ : Hid (Fr iE 3 1 w.heap.size (w.alloc (.cells #[] 3)).heap.size (.slice (some ⟨w.heap.size, 0, none⟩) 0 0) ([] : List Int) (w.alloc (.cells #[] 3))) := zz (Zb7 _ _ _ rfl (Nat.le_refl _))
  go_wp2_with (at_builtin; refine wA (.tmp 73) (.tmp 78) 36 36 w.heap.size 3 iI (.int .i64 0) 1 8 Tryz.underlying36 hI hI0 hI1 hI2 rfl (by decide) (some ⟨w.heap.size, 0, none⟩) 0 0 ([] : List Int) HFZ.out (.slice (some ⟨g, 0, none⟩) (m + 1) cp) p.args HSRC.out (by simp; omega) (by simp) rfl rfl rfl rfl ?_)
  intro a1 c1 w1 us hus hf hc hk
  have HUS : Hid (us = p.args) := zz (by simpa using hus.out)
  rw [HUS.out] at hf
  have HLS : Hid (us.length = m + 1) := zz (by rw [HUS.out]; exact HLM.out)
  rw [HLS.out]
  have HF := zz hf
  have HC1 : Hid (Ch (fun _ => False) w w1) := zz ((Ch.refl.alloc _).trans hc (fun i hi => .inr (by simp [bO] at hi; omega)))
  obtain ⟨g1, rfl, hg11, hg12, hg13, ho1⟩ := hf.block (by rw [HLM.out]; omega)
  have ylt : X < w1.heap.size := by omega
  have HSR2 : Hid (Src Tryz.prog 1 36 (.slice (some ⟨w1.heap.size, 0, none⟩) 1 1) [(-1 : Int)].length ([(-1 : Int)].flatMap iE) (w1.alloc (.cells #[.int .i64 (-1)] 3))) := zz (Src.ofBox (enc := iE) Tryz.underlying36 (fun _ => rfl) Zi9 (-1 : Int) _ _ (by first | rfl | simp [iE]) _ rfl)
  have hrow := hf.ch (M := fun _ => False) (Ch.of_below ((Below.refl _ _).alloc (Nat.le_refl _) (.cells #[.int .i64 (-1)] 3))) (fun _ _ h => h)
  rw [HLM.out] at hrow
  have HROW := zz hrow
  clear hus hf hc hk ho1 hrow
  go_wp2_with (at_builtin; refine wA (.tmp 79) (.tmp 80) 36 36 w.heap.size 3 iI (.int .i64 0) 1 8 Tryz.underlying36 hI hI0 hI1 hI2 rfl (by decide) (some ⟨g1, 0, none⟩) (m + 1) c1 p.args HROW.out (.slice (some ⟨w1.heap.size, 0, none⟩) 1 1) [(-1 : Int)] HSR2.out (by rw [HLM.out]; simp; omega) (by simp; omega) rfl rfl rfl rfl ?_)
  intro a2 c2 w2 vs hus hf hc hk
  have HVS := hus
  have HF2 := zz hf
  have HC2 : Hid (Ch (fun _ => False) w w2) := zz ((HC1.out.alloc _).trans hc (fun i hi => .inr (by simp [bO] at hi; omega)))
  have y_1 := (HC2.out.cell (p := ⟨X, 1, none⟩) klt (fun h => h)).trans k_1
  have yf : ∀ o, w2.frozen? ⟨X, o, none⟩ = false := fun o => (HC2.out.frozen (p := ⟨X, o, none⟩) klt (fun h => h)).trans (kf o)
  have ylt2 := Nat.lt_of_lt_of_le klt HC2.out.size
  clear hus hf hc hk
  go_wp2_with fail
  refine bodyPost_end (v := .tuple #[]) (by simp [results, Tryz.results135]) rfl ?_
  refine QR.only (p' := { p with args := vs }) (HP.out.arg2 (HC2.out.mono (fun i hi => hi.elim)) HF2.out rfl) HP.out ?_ (by rw [HR.out, HVS.out])
  exact (HC2.out.mono (fun i hi => hi.elim)).setB 1 _
 have g59 : ((n : Int) == 59) = false := beq_eq_false_iff_ne.2 (by omega)
 have HH59 : Hid (¬ (n = 59 ∧ p.args.length < 8)) := zz (fun h => h59 h.1)
 by_cases h63 : n = 63
 case pos =>
  have g63 : ((n : Int) == 63) = true := by subst h63; rfl
  have HV6 : Hid (inB (n : Int) 64 126 = false) := zz (by subst h63; rfl)
  have HH64 : Hid (¬ (64 ≤ n ∧ n ≤ 126)) := zz (by omega)
  have H63 := zz h63
  clear h63
  by_cases hm0 : m = 0
  case neg =>
   have gm0 : ((m : Int) == 0) = false := beq_eq_false_iff_ne.2 (by omega)
   have HH63 : Hid (¬ (n = 63 ∧ p.args = [-1] ∧ p.priv = false)) := zz (fun h => hm0 (HX1.out h.2.1).1)
   have HR : Hid (Gr = (pst 3, [])) := zz (by rw [← HGG.out]; exact cs7 HN.out h27 HCC.out h3 HH59.out HH63.out HH64.out)
   go_enter Tryz.func135, Tryz.ntmps135
   go_wp2_with (first | (go_at_call 78; refine (cR _ _).mono ?_; rw [HCT.out]; rintro e w' ⟨rfl, rfl⟩) | (go_at_call 60; refine (lI _ _ _ _).mono ?_; (first | rw [HV8.out] | rw [HV6.out]); rintro e w' ⟨rfl, rfl⟩))
   refine (gR X lo _ (some ⟨g, 0, none⟩) al cp cl L _ HP.out).mono ?_
   rintro e w1 ⟨rfl, g', hg', hq, hc⟩
   have HQ := zz hq
   have HC := zz hc
   have y_0 := hq.ps.c0
   have y_1 := hq.ps.c1
   have y_2 := hq.ps.c2
   have y_3 := hq.ps.c3
   have y_4 := hq.ps.c4
   have y_5 := hq.c5
   have yf := hq.ps.fz
   have ylt := hq.ps.lt
   clear hq hc
   go_wp2_with fail
   refine bodyPost_end (v := .tuple #[]) (by simp [results, Tryz.results135]) rfl ?_
   refine QR.only (p' := pst 3) (HQ.out.cells ?hc ?_ ?_ ?_ ?_ ?_ ?_ ?_ (.inl ⟨rfl, rfl, rfl⟩)) HP.out (HC.out.trans ?hc (fun i hi => .inl hi)) HR.out
   case hc => repeat (first | (with_reducible exact Ch.refl) | (with_reducible refine Ch.alloc ?_ _) | (with_reducible refine Ch.drew ?_) | (with_reducible refine Ch.setB ?_ _ _))
   all_goals first | (intro o; simp [go_sem, yf, ylt]; done) | (simp [go_sem, y_0, y_1, y_2, y_3, y_4, y_5, ylt, pst, pz]; done)
  have gm0 : ((m : Int) == 0) = true := by subst hm0; rfl
  have a_0 : w.cell? ⟨g, 0, none⟩ = some (.int .i64 x) := by rw [← a_m, hm0]
  have HM0 := zz hm0
  clear hm0
  by_cases hxm : x = -1
  case neg =>
   have gx : ¬ x < 0 := by omega
   have HH63 : Hid (¬ (n = 63 ∧ p.args = [-1] ∧ p.priv = false)) := zz (fun h => hxm (HX1.out h.2.1).2)
   have HR : Hid (Gr = (pst 3, [])) := zz (by rw [← HGG.out]; exact cs7 HN.out h27 HCC.out h3 HH59.out HH63.out HH64.out)
   go_enter Tryz.func135, Tryz.ntmps135
   go_wp2_with (first | (go_at_call 78; refine (cR _ _).mono ?_; rw [HCT.out]; rintro e w' ⟨rfl, rfl⟩) | (go_at_call 60; refine (lI _ _ _ _).mono ?_; (first | rw [HV8.out] | rw [HV6.out]); rintro e w' ⟨rfl, rfl⟩))
   refine (gR X lo _ (some ⟨g, 0, none⟩) al cp cl L _ HP.out).mono ?_
   rintro e w1 ⟨rfl, g', hg', hq, hc⟩
   have HQ := zz hq
   have HC := zz hc
   have y_0 := hq.ps.c0
   have y_1 := hq.ps.c1
   have y_2 := hq.ps.c2
   have y_3 := hq.ps.c3
   have y_4 := hq.ps.c4
   have y_5 := hq.c5
   have yf := hq.ps.fz
   have ylt := hq.ps.lt
   clear hq hc
   go_wp2_with fail
   refine bodyPost_end (v := .tuple #[]) (by simp [results, Tryz.results135]) rfl ?_
   refine QR.only (p' := pst 3) (HQ.out.cells ?hc ?_ ?_ ?_ ?_ ?_ ?_ ?_ (.inl ⟨rfl, rfl, rfl⟩)) HP.out (HC.out.trans ?hc (fun i hi => .inl hi)) HR.out
   case hc => repeat (first | (with_reducible exact Ch.refl) | (with_reducible refine Ch.alloc ?_ _) | (with_reducible refine Ch.drew ?_) | (with_reducible refine Ch.setB ?_ _ _))
   all_goals first | (intro o; simp [go_sem, yf, ylt]; done) | (simp [go_sem, y_0, y_1, y_2, y_3, y_4, y_5, ylt, pst, pz]; done)
  have gx : x < 0 := by omega
  have HXM := zz hxm
  clear hxm
  obtain ⟨pv, hpv⟩ := eX (p.priv)
  rw [hpv] at k_2
  have HPV := zz hpv
  clear hpv
  cases pv
  case true =>
   have HH63 : Hid (¬ (n = 63 ∧ p.args = [-1] ∧ p.priv = false)) := zz (fun h => by rw [HPV.out] at h; exact absurd h.2.2 (by simp))
   have HR : Hid (Gr = (pst 3, [])) := zz (by rw [← HGG.out]; exact cs7 HN.out h27 HCC.out h3 HH59.out HH63.out HH64.out)
   go_enter Tryz.func135, Tryz.ntmps135
   go_wp2_with (first | (go_at_call 78; refine (cR _ _).mono ?_; rw [HCT.out]; rintro e w' ⟨rfl, rfl⟩) | (go_at_call 60; refine (lI _ _ _ _).mono ?_; (first | rw [HV8.out] | rw [HV6.out]); rintro e w' ⟨rfl, rfl⟩))
   refine (gR X lo _ (some ⟨g, 0, none⟩) al cp cl L _ HP.out).mono ?_
   rintro e w1 ⟨rfl, g', hg', hq, hc⟩
   have HQ := zz hq
   have HC := zz hc
   have y_0 := hq.ps.c0
   have y_1 := hq.ps.c1
   have y_2 := hq.ps.c2
   have y_3 := hq.ps.c3
   have y_4 := hq.ps.c4
   have y_5 := hq.c5
   have yf := hq.ps.fz
   have ylt := hq.ps.lt
   clear hq hc
   go_wp2_with fail
   refine bodyPost_end (v := .tuple #[]) (by simp [results, Tryz.results135]) rfl ?_
   refine QR.only (p' := pst 3) (HQ.out.cells ?hc ?_ ?_ ?_ ?_ ?_ ?_ ?_ (.inl ⟨rfl, rfl, rfl⟩)) HP.out (HC.out.trans ?hc (fun i hi => .inl hi)) HR.out
   case hc => repeat (first | (with_reducible exact Ch.refl) | (with_reducible refine Ch.alloc ?_ _) | (with_reducible refine Ch.drew ?_) | (with_reducible refine Ch.setB ?_ _ _))
   all_goals first | (intro o; simp [go_sem, yf, ylt]; done) | (simp [go_sem, y_0, y_1, y_2, y_3, y_4, y_5, ylt, pst, pz]; done)
  have HR : Hid (Gr = ({ p with priv := true }, [])) := zz (by rw [← HGG.out]; exact cs5 HN.out HCC.out ⟨H63.out, HX0.out HM0.out HXM.out, HPV.out⟩)
  go_enter Tryz.func135, Tryz.ntmps135
  go_wp2_with (first | (go_at_call 78; refine (cR _ _).mono ?_; rw [HCT.out]; rintro e w' ⟨rfl, rfl⟩) | (go_at_call 60; refine (lI _ _ _ _).mono ?_; (first | rw [HV8.out] | rw [HV6.out]); rintro e w' ⟨rfl, rfl⟩))
  refine bodyPost_end (v := .tuple #[]) (by simp [results, Tryz.results135]) rfl ?_
  refine QR.only (p' := { p with priv := true }) (HP.out.cells ?hc ?_ ?_ ?_ ?_ ?_ ?_ ?_ (.inl ⟨rfl, rfl, rfl⟩)) HP.out ?hc HR.out
  case hc => repeat (first | (with_reducible exact Ch.refl) | (with_reducible refine Ch.alloc ?_ _) | (with_reducible refine Ch.drew ?_) | (with_reducible refine Ch.setB ?_ _ _))
  all_goals first | (intro o; simp [go_sem, kf, klt]; done) | (simp [go_sem, k_0, k_1, k_2, k_3, k_4, k_5, klt, HST.out, HTX.out, HUX.out, HLM.out]; done)
 have g63 : ((n : Int) == 63) = false := beq_eq_false_iff_ne.2 (by omega)
 have HH63 : Hid (¬ (n = 63 ∧ p.args = [-1] ∧ p.priv = false)) := zz (fun h => h63 h.1)
 obtain ⟨v6, hv6⟩ := eX (inB (n : Int) 64 126)
 have HV6 := zz hv6
 clear hv6
 cases v6
 case false =>
  have HH64 : Hid (¬ (64 ≤ n ∧ n ≤ 126)) := zz (by have := HV6.out; simp [inB] at this; omega)
  have HR : Hid (Gr = (pst 3, [])) := zz (by rw [← HGG.out]; exact cs7 HN.out h27 HCC.out h3 HH59.out HH63.out HH64.out)
  go_enter Tryz.func135, Tryz.ntmps135
  go_wp2_with (first | (go_at_call 78; refine (cR _ _).mono ?_; rw [HCT.out]; rintro e w' ⟨rfl, rfl⟩) | (go_at_call 60; refine (lI _ _ _ _).mono ?_; (first | rw [HV8.out] | rw [HV6.out]); rintro e w' ⟨rfl, rfl⟩))
  refine (gR X lo _ (some ⟨g, 0, none⟩) al cp cl L _ HP.out).mono ?_
  rintro e w1 ⟨rfl, g', hg', hq, hc⟩
  have HQ := zz hq
  have HC := zz hc
  have y_0 := hq.ps.c0
  have y_1 := hq.ps.c1
  have y_2 := hq.ps.c2
  have y_3 := hq.ps.c3
  have y_4 := hq.ps.c4
  have y_5 := hq.c5
  have yf := hq.ps.fz
  have ylt := hq.ps.lt
  clear hq hc
  go_wp2_with fail
  refine bodyPost_end (v := .tuple #[]) (by simp [results, Tryz.results135]) rfl ?_
  refine QR.only (p' := pst 3) (HQ.out.cells ?hc ?_ ?_ ?_ ?_ ?_ ?_ ?_ (.inl ⟨rfl, rfl, rfl⟩)) HP.out (HC.out.trans ?hc (fun i hi => .inl hi)) HR.out
  case hc => repeat (first | (with_reducible exact Ch.refl) | (with_reducible refine Ch.alloc ?_ _) | (with_reducible refine Ch.drew ?_) | (with_reducible refine Ch.setB ?_ _ _))
  all_goals first | (intro o; simp [go_sem, yf, ylt]; done) | (simp [go_sem, y_0, y_1, y_2, y_3, y_4, y_5, ylt, pst, pz]; done)
 have HR : Hid (Gr = (pz, [⟨4, n, p.priv, p.args, e0⟩])) := zz (by rw [← HGG.out]; exact cs6 HN.out HCC.out (by have := HV6.out; simp [inB] at this; omega))
 go_enter Tryz.func135, Tryz.ntmps135
 go_upto_region 17 with (first | (go_at_call 78; refine (cR _ _).mono ?_; rw [HCT.out]; rintro e w' ⟨rfl, rfl⟩) | (go_at_call 60; refine (lI _ _ _ _).mono ?_; (first | rw [HV8.out] | rw [HV6.out]); rintro e w' ⟨rfl, rfl⟩))
 go_cut [6] (fun s wx => CsiR p n m w s wx)
 case first =>
  have hS0 : w.cell? ⟨X, 2, none⟩ = some (.bool p.priv) ∧ w.cell? ⟨X, 1, none⟩ = some (.slice (some ⟨g, 0, none⟩) (m + 1) cp) := ⟨k_2, k_1⟩
  refine Za4 (fun w' => w'.cell? ⟨X, 2, none⟩ = some (.bool p.priv) ∧ w'.cell? ⟨X, 1, none⟩ = some (.slice (some ⟨g, 0, none⟩) (m + 1) cp)) (fun i => i == 15) (by kernel_rfl) hS0 ?_
  refine tW ?_ 0 rfl ?_ ?_; rotate_left
  ·intro w' hSw; go_simp; try rfl
  try simp only [Act.put,j1,j2,j3,j4,j5,j6]
  refine tW ?_ 1 rfl ?_ ?_; rotate_left
  ·intro w' hSw; go_simp; try rfl
  try simp only [Act.put,j1,j2,j3,j4,j5,j6]
  refine tW ?_ 2 rfl ?_ ?_; rotate_left
  ·intro w' hSw; go_simp; try rfl
  try simp only [Act.put,j1,j2,j3,j4,j5,j6]
  refine tW ?_ 3 rfl ?_ ?_; rotate_left
  ·intro w' hSw; go_simp; try rfl
  try simp only [Act.put,j1,j2,j3,j4,j5,j6]
  refine tW ?_ 4 rfl ?_ ?_; rotate_left
  ·intro w' hSw; go_simp; try rfl
  try simp only [Act.put,j1,j2,j3,j4,j5,j6]
  refine tL ?_ 5 rfl hS0 ?_ ?_; rotate_left
  ·intro w' hSw; obtain ⟨s0, s1⟩ := hSw; go_simp; try rfl
  try simp only [Act.put,j1,j2,j3,j4,j5,j6]
  refine tW ?_ 7 rfl ?_ ?_; rotate_left
  ·intro w' hSw; go_simp; try rfl
  try simp only [Act.put,j1,j2,j3,j4,j5,j6]
  refine tW ?_ 8 rfl ?_ ?_; rotate_left
  ·intro w' hSw; go_simp; try rfl
  try simp only [Act.put,j1,j2,j3,j4,j5,j6]
  refine tW ?_ 9 rfl ?_ ?_; rotate_left
  ·intro w' hSw; go_simp; try rfl
  try simp only [Act.put,j1,j2,j3,j4,j5,j6]
  refine tW ?_ 10 rfl ?_ ?_; rotate_left
  ·intro w' hSw; go_simp; try rfl
  try simp only [Act.put,j1,j2,j3,j4,j5,j6]
  refine tL ?_ 11 rfl hS0 ?_ ?_; rotate_left
  ·intro w' hSw; obtain ⟨s0, s1⟩ := hSw; go_simp; try rfl
  try simp only [Act.put,j1,j2,j3,j4,j5,j6]
  refine Zt0 (rs := [6, 14]) (by kernel_rfl) (by simp) ?_
  intro j hj
  simp only [List.mem_cons, List.not_mem_nil, or_false] at hj
  rcases hj with rfl | rfl
  ·skip
   refine ⟨_, rfl, fun K' hK => ?_⟩
   simp only [j1,j2,j3]
   go_simp
   obtain ⟨x1, hx1⟩ : ∃ x, (w.alloc (.cells #[] 3)).drew = x := ⟨_, rfl⟩
   have HB1 : Hid (Below w.heap.size w x1) := zz (by rw [← hx1]; exact ((bA).drew))
   have hz1 : w.heap.size < x1.heap.size := by rw [← hx1]; simp
   have hlt1 := Nat.lt_of_lt_of_le klt HB1.out.size
   have hS1 : x1.cell? ⟨X, 2, none⟩ = some (.bool p.priv) ∧ x1.cell? ⟨X, 1, none⟩ = some (.slice (some ⟨g, 0, none⟩) (m + 1) cp) := ⟨(HB1.out.cell (p := ⟨X, 2, none⟩) klt).trans k_2, (HB1.out.cell (p := ⟨X, 1, none⟩) klt).trans k_1⟩
   have HFZ : Hid (Fr iE 3 1 w.heap.size x1.heap.size (.slice (some ⟨w.heap.size, 0, none⟩) 0 0) ([] : List Int) x1) := zz (by rw [← hx1]; exact (Zb7 w.heap.size w _ rfl (by omega)).ch (M := fun _ => False) (Ch.of_below ((Below.refl _ _).drew)) (fun _ _ h => h))
   have HBW := HB1
   rw [hx1]
   clear hx1
   refine hK.out _ _ (Or.inr hS1) ?_
   clear hK K'
   try simp only [Act.put,j1,j2,j3,j4,j5,j6]
   refine Zt0 (rs := [12, 14]) (by kernel_rfl) (by simp) ?_
   intro j hj
   simp only [List.mem_cons, List.not_mem_nil, or_false] at hj
   rcases hj with rfl | rfl
   ·skip
    refine ⟨_, rfl, fun K' hK => ?_⟩
    simp only [j1,j2,j3]
    have HSRC : Hid (Src Tryz.prog 1 36 (.slice (some ⟨g, 0, none⟩) (m + 1) cp) p.args.length (p.args.flatMap iE) x1) := zz (by
     have h1 := Src.ofSl (P := Tryz.prog) (tx := 36) (enc := iE) (sz := 1) (xs := p.args) Tryz.underlying36 (fun _ => rfl) Zi9 (HSL.out.keep HBW.out) cp
     rwa [HLM.out] at h1 ⊢)
    rw [if_pos (by rfl)]
    refine sAc (.tmp 123) (.tmp 128) 36 36 w.heap.size 3 iI (.int .i64 0) 1 8 Tryz.underlying36 hI hI0 hI1 hI2 rfl (by decide) (some ⟨w.heap.size, 0, none⟩) 0 0 ([] : List Int) HFZ.out (.slice (some ⟨g, 0, none⟩) (m + 1) cp) p.args HSRC.out (by simp; omega) (by omega) ?_ ?_ ?_ ?_
    ·rfl
    ·rfl
    ·rfl
    intro a1 c1 x2 us hus hf hc hk
    have HUS : Hid (us = p.args) := zz (by simpa using hus.out)
    rw [HUS.out] at hf
    have HLS : Hid (us.length = m + 1) := zz (by rw [HUS.out]; exact HLM.out)
    rw [HLS.out]
    have HF := zz hf
    have HK := zz hk
    have HC := zz hc
    have HBX : Hid (Below w.heap.size w x2) := zz (HBW.out.trans (hc.below (by omega) (fun i hi => by simp [bO] at hi; omega)))
    have hz2 := hc.size
    have hlt2 : X < x2.heap.size := by omega
    have hS2 : x2.cell? ⟨X, 2, none⟩ = some (.bool p.priv) ∧ x2.cell? ⟨X, 1, none⟩ = some (.slice (some ⟨g, 0, none⟩) (m + 1) cp) := ⟨(HBX.out.cell (p := ⟨X, 2, none⟩) klt).trans k_2, (HBX.out.cell (p := ⟨X, 1, none⟩) klt).trans k_1⟩
    clear hus hf hc hk
    refine hK.out _ _ (Or.inr hS2) ?_
    clear hK K'
    try simp only [Act.put,j1,j2,j3,j4,j5,j6]
    refine tW ?_ 13 rfl ?_ ?_; rotate_left
    ·intro w' hSw; go_simp; try rfl
    try simp only [Act.put,j1,j2,j3,j4,j5,j6]
    refine w1G (i := 14) (by kernel_rfl) rfl hS2 (fun K' hK => ?_)
    simp only [j1,j2,j3]
    go_simp
    obtain ⟨x3, hx3⟩ : ∃ x, (x2.alloc (.cells #[.int .i64 0, .int .i64 0, .bool false, .slice none 0 0, .string ⟨#[]⟩] 38)) = x := ⟨_, rfl⟩
    have HB3 : Hid (Below x2.heap.size x2 x3) := zz (by rw [← hx3]; exact ((bA)))
    have hz3 : x2.heap.size < x3.heap.size := by rw [← hx3]; simp
    have hlt3 := Nat.lt_of_lt_of_le hlt2 HB3.out.size
    have hS3 : x3.cell? ⟨X, 2, none⟩ = some (.bool p.priv) ∧ x3.cell? ⟨X, 1, none⟩ = some (.slice (some ⟨g, 0, none⟩) (m + 1) cp) := ⟨(HB3.out.cell (p := ⟨X, 2, none⟩) hlt2).trans hS2.1, (HB3.out.cell (p := ⟨X, 1, none⟩) hlt2).trans hS2.2⟩
    have b3_0 : x3.cell? ⟨x2.heap.size, 0, none⟩ = some (.int .i64 0) := by rw [← hx3]; simp [go_sem]
    have b3_1 : x3.cell? ⟨x2.heap.size, 1, none⟩ = some (.int .i64 0) := by rw [← hx3]; simp [go_sem]
    have b3_2 : x3.cell? ⟨x2.heap.size, 2, none⟩ = some (.bool false) := by rw [← hx3]; simp [go_sem]
    have b3_3 : x3.cell? ⟨x2.heap.size, 3, none⟩ = some (.slice none 0 0) := by rw [← hx3]; simp [go_sem]
    have b3_4 : x3.cell? ⟨x2.heap.size, 4, none⟩ = some (.string ⟨#[]⟩) := by rw [← hx3]; simp [go_sem]
    have bf3 : ∀ o, x3.frozen? ⟨x2.heap.size, o, none⟩ = false := by intro o; rw [← hx3]; simp [go_sem]
    clear hx3
    refine hK.out _ _ (Or.inr ⟨by simpa [go_sem, hlt2] using hS2.1, by simpa [go_sem, hlt2] using hS2.2⟩) ?_
    clear hK K'
    try simp only [Act.put,j1,j2,j3,j4,j5,j6]
    refine w1G (i := 15) (by kernel_rfl) rfl (⟨by simpa [go_sem, hlt2] using hS2.1, by simpa [go_sem, hlt2] using hS2.2⟩) (fun K' hK => ?_)
    simp only [j1,j2,j3]
    go_simp
    refine hK.out _ _ (Or.inl rfl) ?_
    clear hK K'
    try simp only [Act.put,j1,j2,j3,j4,j5,j6]
    refine wD (by kernel_rfl) ?_ _
    go_wp2_with fail
    go_meet
    exact Yb4 HBX.out HF.out HLM.out
   ·skip
    refine ⟨_, rfl, fun K' hK => ?_⟩
    simp only [j1,j2,j3]
    go_simp
    obtain ⟨x2, hx2⟩ : ∃ x, (x1.alloc (.cells #[.int .i64 0, .int .i64 0, .bool false, .slice none 0 0, .string ⟨#[]⟩] 38)) = x := ⟨_, rfl⟩
    have HB2 : Hid (Below x1.heap.size x1 x2) := zz (by rw [← hx2]; exact ((bA)))
    have hz2 : x1.heap.size < x2.heap.size := by rw [← hx2]; simp
    have hlt2 := Nat.lt_of_lt_of_le hlt1 HB2.out.size
    have hS2 : x2.cell? ⟨X, 2, none⟩ = some (.bool p.priv) ∧ x2.cell? ⟨X, 1, none⟩ = some (.slice (some ⟨g, 0, none⟩) (m + 1) cp) := ⟨(HB2.out.cell (p := ⟨X, 2, none⟩) hlt1).trans hS1.1, (HB2.out.cell (p := ⟨X, 1, none⟩) hlt1).trans hS1.2⟩
    have b2_0 : x2.cell? ⟨x1.heap.size, 0, none⟩ = some (.int .i64 0) := by rw [← hx2]; simp [go_sem]
    have b2_1 : x2.cell? ⟨x1.heap.size, 1, none⟩ = some (.int .i64 0) := by rw [← hx2]; simp [go_sem]
    have b2_2 : x2.cell? ⟨x1.heap.size, 2, none⟩ = some (.bool false) := by rw [← hx2]; simp [go_sem]
    have b2_3 : x2.cell? ⟨x1.heap.size, 3, none⟩ = some (.slice none 0 0) := by rw [← hx2]; simp [go_sem]
    have b2_4 : x2.cell? ⟨x1.heap.size, 4, none⟩ = some (.string ⟨#[]⟩) := by rw [← hx2]; simp [go_sem]
    have bf2 : ∀ o, x2.frozen? ⟨x1.heap.size, o, none⟩ = false := by intro o; rw [← hx2]; simp [go_sem]
    have c2_0 := b2_0
    have c2_1 := b2_1
    have c2_2 := b2_2
    have c2_3 := b2_3
    have c2_4 := b2_4
    have cf2 := bf2
    have HBW : Hid (Below w.heap.size w x2) := zz (HB1.out.trans (HB2.out.mono (by omega)))
    have HFZ : Hid (Fr iE 3 1 w.heap.size x2.heap.size (.slice (some ⟨w.heap.size, 0, none⟩) 0 0) ([] : List Int) x2) := zz (HFZ.out.ch (M := fun _ => False) (Ch.of_below HB2.out) (fun _ _ h => h))
    rw [hx2]
    clear hx2
    refine hK.out _ _ (Or.inr hS2) ?_
    clear hK K'
    try simp only [Act.put,j1,j2,j3,j4,j5,j6]
    refine w1G (i := 12) (by kernel_rfl) rfl hS2 (fun K' hK => ?_)
    simp only [j1,j2,j3]
    have HSRC : Hid (Src Tryz.prog 1 36 (.slice (some ⟨g, 0, none⟩) (m + 1) cp) p.args.length (p.args.flatMap iE) x2) := zz (by
     have h1 := Src.ofSl (P := Tryz.prog) (tx := 36) (enc := iE) (sz := 1) (xs := p.args) Tryz.underlying36 (fun _ => rfl) Zi9 (HSL.out.keep HBW.out) cp
     rwa [HLM.out] at h1 ⊢)
    rw [if_pos (by rfl)]
    refine sAc (.tmp 123) (.tmp 128) 36 36 w.heap.size 3 iI (.int .i64 0) 1 8 Tryz.underlying36 hI hI0 hI1 hI2 rfl (by decide) (some ⟨w.heap.size, 0, none⟩) 0 0 ([] : List Int) HFZ.out (.slice (some ⟨g, 0, none⟩) (m + 1) cp) p.args HSRC.out (by simp; omega) (by omega) ?_ ?_ ?_ ?_
    ·rfl
    ·rfl
    ·rfl
    intro a1 c1 x3 us hus hf hc hk
    have HUS : Hid (us = p.args) := zz (by simpa using hus.out)
    rw [HUS.out] at hf
    have HLS : Hid (us.length = m + 1) := zz (by rw [HUS.out]; exact HLM.out)
    rw [HLS.out]
    have HF := zz hf
    have HK := zz hk
    have HC := zz hc
    have HBX : Hid (Below w.heap.size w x3) := zz (HBW.out.trans (hc.below (by omega) (fun i hi => by simp [bO] at hi; omega)))
    have hz3 := hc.size
    have hlt3 : X < x3.heap.size := by omega
    have hS3 : x3.cell? ⟨X, 2, none⟩ = some (.bool p.priv) ∧ x3.cell? ⟨X, 1, none⟩ = some (.slice (some ⟨g, 0, none⟩) (m + 1) cp) := ⟨(HBX.out.cell (p := ⟨X, 2, none⟩) klt).trans k_2, (HBX.out.cell (p := ⟨X, 1, none⟩) klt).trans k_1⟩
    clear hus hf hc hk
    have hHE : ¬ x1.heap.size = w.heap.size := by omega
    have q_0 : x3.cell? ⟨x1.heap.size, 0, none⟩ = some (.int .i64 0) := (HC.out.cell (p := ⟨x1.heap.size, 0, none⟩) (by show x1.heap.size < _; omega) (by simpa [bO] using hHE)).trans c2_0
    have q_1 : x3.cell? ⟨x1.heap.size, 1, none⟩ = some (.int .i64 0) := (HC.out.cell (p := ⟨x1.heap.size, 1, none⟩) (by show x1.heap.size < _; omega) (by simpa [bO] using hHE)).trans c2_1
    have q_2 : x3.cell? ⟨x1.heap.size, 2, none⟩ = some (.bool false) := (HC.out.cell (p := ⟨x1.heap.size, 2, none⟩) (by show x1.heap.size < _; omega) (by simpa [bO] using hHE)).trans c2_2
    have q_3 : x3.cell? ⟨x1.heap.size, 3, none⟩ = some (.slice none 0 0) := (HC.out.cell (p := ⟨x1.heap.size, 3, none⟩) (by show x1.heap.size < _; omega) (by simpa [bO] using hHE)).trans c2_3
    have q_4 : x3.cell? ⟨x1.heap.size, 4, none⟩ = some (.string ⟨#[]⟩) := (HC.out.cell (p := ⟨x1.heap.size, 4, none⟩) (by show x1.heap.size < _; omega) (by simpa [bO] using hHE)).trans c2_4
    have qf : ∀ o, x3.frozen? ⟨x1.heap.size, o, none⟩ = false := fun o => (HC.out.frozen (p := ⟨x1.heap.size, o, none⟩) (by show x1.heap.size < _; omega) (by simpa [bO] using hHE)).trans (cf2 o)
    have hHlt : x1.heap.size < x3.heap.size := by omega
    refine hK.out _ _ (Or.inr hS3) ?_
    clear hK K'
    try simp only [Act.put,j1,j2,j3,j4,j5,j6]
    refine tW ?_ 13 rfl ?_ ?_; rotate_left
    ·intro w' hSw; go_simp; try rfl
    try simp only [Act.put,j1,j2,j3,j4,j5,j6]
    refine w1G (i := 15) (by kernel_rfl) rfl hS3 (fun K' hK => ?_)
    simp only [j1,j2,j3]
    go_simp
    refine hK.out _ _ (Or.inl rfl) ?_
    clear hK K'
    try simp only [Act.put,j1,j2,j3,j4,j5,j6]
    refine wD (by kernel_rfl) ?_ _
    go_wp2_with fail
    go_meet
    exact Zn1 (by omega) (by omega) (fun hb => by have := HK.out _ hb; simp [bO] at this; omega) ⟨_, q_0⟩ ⟨_, q_1⟩ ⟨_, q_2⟩ ⟨_, q_3⟩ ⟨_, q_4⟩ HF.out HLM.out HBX.out
  ·skip
   refine ⟨_, rfl, fun K' hK => ?_⟩
   simp only [j1,j2,j3]
   go_simp
   obtain ⟨x1, hx1⟩ : ∃ x, (w.alloc (.cells #[.int .i64 0, .int .i64 0, .bool false, .slice none 0 0, .string ⟨#[]⟩] 38)).drew = x := ⟨_, rfl⟩
   have HB1 : Hid (Below w.heap.size w x1) := zz (by rw [← hx1]; exact ((bA).drew))
   have hz1 : w.heap.size < x1.heap.size := by rw [← hx1]; simp
   have hlt1 := Nat.lt_of_lt_of_le klt HB1.out.size
   have hS1 : x1.cell? ⟨X, 2, none⟩ = some (.bool p.priv) ∧ x1.cell? ⟨X, 1, none⟩ = some (.slice (some ⟨g, 0, none⟩) (m + 1) cp) := ⟨(HB1.out.cell (p := ⟨X, 2, none⟩) klt).trans k_2, (HB1.out.cell (p := ⟨X, 1, none⟩) klt).trans k_1⟩
   have b1_0 : x1.cell? ⟨w.heap.size, 0, none⟩ = some (.int .i64 0) := by rw [← hx1]; simp [go_sem]
   have b1_1 : x1.cell? ⟨w.heap.size, 1, none⟩ = some (.int .i64 0) := by rw [← hx1]; simp [go_sem]
   have b1_2 : x1.cell? ⟨w.heap.size, 2, none⟩ = some (.bool false) := by rw [← hx1]; simp [go_sem]
   have b1_3 : x1.cell? ⟨w.heap.size, 3, none⟩ = some (.slice none 0 0) := by rw [← hx1]; simp [go_sem]
   have b1_4 : x1.cell? ⟨w.heap.size, 4, none⟩ = some (.string ⟨#[]⟩) := by rw [← hx1]; simp [go_sem]
   have bf1 : ∀ o, x1.frozen? ⟨w.heap.size, o, none⟩ = false := by intro o; rw [← hx1]; simp [go_sem]
   rw [hx1]
   clear hx1
   refine hK.out _ _ (Or.inr hS1) ?_
   clear hK K'
   try simp only [Act.put,j1,j2,j3,j4,j5,j6]
   refine w1G (i := 6) (by kernel_rfl) rfl hS1 (fun K' hK => ?_)
   simp only [j1,j2,j3]
   go_simp
   obtain ⟨x2, hx2⟩ : ∃ x, (x1.alloc (.cells #[] 3)) = x := ⟨_, rfl⟩
   have HB2 : Hid (Below x1.heap.size x1 x2) := zz (by rw [← hx2]; exact ((bA)))
   have hz2 : x1.heap.size < x2.heap.size := by rw [← hx2]; simp
   have hlt2 := Nat.lt_of_lt_of_le hlt1 HB2.out.size
   have hS2 : x2.cell? ⟨X, 2, none⟩ = some (.bool p.priv) ∧ x2.cell? ⟨X, 1, none⟩ = some (.slice (some ⟨g, 0, none⟩) (m + 1) cp) := ⟨(HB2.out.cell (p := ⟨X, 2, none⟩) hlt1).trans hS1.1, (HB2.out.cell (p := ⟨X, 1, none⟩) hlt1).trans hS1.2⟩
   have HFZ : Hid (Fr iE 3 1 w.heap.size x2.heap.size (.slice (some ⟨x1.heap.size, 0, none⟩) 0 0) ([] : List Int) x2) := zz (by rw [← hx2]; exact Zb7 w.heap.size x1 _ rfl (by omega))
   have c2_0 := (HB2.out.cell (p := ⟨w.heap.size, 0, none⟩) (by show w.heap.size < _; omega)).trans b1_0
   have c2_1 := (HB2.out.cell (p := ⟨w.heap.size, 1, none⟩) (by show w.heap.size < _; omega)).trans b1_1
   have c2_2 := (HB2.out.cell (p := ⟨w.heap.size, 2, none⟩) (by show w.heap.size < _; omega)).trans b1_2
   have c2_3 := (HB2.out.cell (p := ⟨w.heap.size, 3, none⟩) (by show w.heap.size < _; omega)).trans b1_3
   have c2_4 := (HB2.out.cell (p := ⟨w.heap.size, 4, none⟩) (by show w.heap.size < _; omega)).trans b1_4
   have cf2 : ∀ o, x2.frozen? ⟨w.heap.size, o, none⟩ = false := fun o => (HB2.out.frozen (p := ⟨w.heap.size, o, none⟩) (by show w.heap.size < _; omega)).trans (bf1 o)
   have HBW : Hid (Below w.heap.size w x2) := zz (HB1.out.trans (HB2.out.mono (by omega)))
   rw [hx2]
   clear hx2
   refine hK.out _ _ (Or.inr hS2) ?_
   clear hK K'
   try simp only [Act.put,j1,j2,j3,j4,j5,j6]
   refine w1G (i := 12) (by kernel_rfl) rfl hS2 (fun K' hK => ?_)
   simp only [j1,j2,j3]
   have HSRC : Hid (Src Tryz.prog 1 36 (.slice (some ⟨g, 0, none⟩) (m + 1) cp) p.args.length (p.args.flatMap iE) x2) := zz (by
    have h1 := Src.ofSl (P := Tryz.prog) (tx := 36) (enc := iE) (sz := 1) (xs := p.args) Tryz.underlying36 (fun _ => rfl) Zi9 (HSL.out.keep HBW.out) cp
    rwa [HLM.out] at h1 ⊢)
   rw [if_pos (by rfl)]
   refine sAc (.tmp 123) (.tmp 128) 36 36 w.heap.size 3 iI (.int .i64 0) 1 8 Tryz.underlying36 hI hI0 hI1 hI2 rfl (by decide) (some ⟨x1.heap.size, 0, none⟩) 0 0 ([] : List Int) HFZ.out (.slice (some ⟨g, 0, none⟩) (m + 1) cp) p.args HSRC.out (by simp; omega) (by omega) ?_ ?_ ?_ ?_
   ·rfl
   ·rfl
   ·rfl
   intro a1 c1 x3 us hus hf hc hk
   have HUS : Hid (us = p.args) := zz (by simpa using hus.out)
   rw [HUS.out] at hf
   have HLS : Hid (us.length = m + 1) := zz (by rw [HUS.out]; exact HLM.out)
   rw [HLS.out]
   have HF := zz hf
   have HK := zz hk
   have HC := zz hc
   have HBX : Hid (Below w.heap.size w x3) := zz (HBW.out.trans (hc.below (by omega) (fun i hi => by simp [bO] at hi; omega)))
   have hz3 := hc.size
   have hlt3 : X < x3.heap.size := by omega
   have hS3 : x3.cell? ⟨X, 2, none⟩ = some (.bool p.priv) ∧ x3.cell? ⟨X, 1, none⟩ = some (.slice (some ⟨g, 0, none⟩) (m + 1) cp) := ⟨(HBX.out.cell (p := ⟨X, 2, none⟩) klt).trans k_2, (HBX.out.cell (p := ⟨X, 1, none⟩) klt).trans k_1⟩
   clear hus hf hc hk
   have hHE : ¬ w.heap.size = x1.heap.size := by omega
   have q_0 : x3.cell? ⟨w.heap.size, 0, none⟩ = some (.int .i64 0) := (HC.out.cell (p := ⟨w.heap.size, 0, none⟩) (by show w.heap.size < _; omega) (by simpa [bO] using hHE)).trans c2_0
   have q_1 : x3.cell? ⟨w.heap.size, 1, none⟩ = some (.int .i64 0) := (HC.out.cell (p := ⟨w.heap.size, 1, none⟩) (by show w.heap.size < _; omega) (by simpa [bO] using hHE)).trans c2_1
   have q_2 : x3.cell? ⟨w.heap.size, 2, none⟩ = some (.bool false) := (HC.out.cell (p := ⟨w.heap.size, 2, none⟩) (by show w.heap.size < _; omega) (by simpa [bO] using hHE)).trans c2_2
   have q_3 : x3.cell? ⟨w.heap.size, 3, none⟩ = some (.slice none 0 0) := (HC.out.cell (p := ⟨w.heap.size, 3, none⟩) (by show w.heap.size < _; omega) (by simpa [bO] using hHE)).trans c2_3
   have q_4 : x3.cell? ⟨w.heap.size, 4, none⟩ = some (.string ⟨#[]⟩) := (HC.out.cell (p := ⟨w.heap.size, 4, none⟩) (by show w.heap.size < _; omega) (by simpa [bO] using hHE)).trans c2_4
   have qf : ∀ o, x3.frozen? ⟨w.heap.size, o, none⟩ = false := fun o => (HC.out.frozen (p := ⟨w.heap.size, o, none⟩) (by show w.heap.size < _; omega) (by simpa [bO] using hHE)).trans (cf2 o)
   have hHlt : w.heap.size < x3.heap.size := by omega
   refine hK.out _ _ (Or.inr hS3) ?_
   clear hK K'
   try simp only [Act.put,j1,j2,j3,j4,j5,j6]
   refine tW ?_ 13 rfl ?_ ?_; rotate_left
   ·intro w' hSw; go_simp; try rfl
   try simp only [Act.put,j1,j2,j3,j4,j5,j6]
   refine w1G (i := 15) (by kernel_rfl) rfl hS3 (fun K' hK => ?_)
   simp only [j1,j2,j3]
   go_simp
   refine hK.out _ _ (Or.inl rfl) ?_
   clear hK K'
   try simp only [Act.put,j1,j2,j3,j4,j5,j6]
   refine wD (by kernel_rfl) ?_ _
   go_wp2_with fail
   go_meet
   exact Zn1 (by omega) (by omega) (fun hb => by have := HK.out _ hb; simp [bO] at this; omega) ⟨_, q_0⟩ ⟨_, q_1⟩ ⟨_, q_2⟩ ⟨_, q_3⟩ ⟨_, q_4⟩ HF.out HLM.out HBX.out
 case rest =>
  obtain ⟨H, a1, c1, rfl, hH1, hH2, hHa, h_0, h_1, h_2, h_3, h_4, hf, hb⟩ := hcut
  have HF := zz hf
  have HB := zz hb
  have HQ0 := zz (HP.out.keep hb)
  have HHA := zz hHa
  have hHX : ¬ H = X := by omega
  clear hf hb hHa
  go_wp2_with fail
  refine (gR X lo _ (some ⟨g, 0, none⟩) al cp cl L _ HQ0.out).mono ?_
  rintro e w1 ⟨rfl, g', hg', hq, hc⟩
  have HQ := zz hq
  have HC := zz hc
  have hz1 := hc.size
  have hHl : H < w1.heap.size := by omega
  have b_0 : w1.cell? ⟨H, 0, none⟩ = some (.int .i64 4) := (hc.cell (p := ⟨H, 0, none⟩) hH2 hHX).trans h_0
  have b_1 : w1.cell? ⟨H, 1, none⟩ = some (.int .i64 n) := (hc.cell (p := ⟨H, 1, none⟩) hH2 hHX).trans h_1
  have b_2 : w1.cell? ⟨H, 2, none⟩ = some (.bool p.priv) := (hc.cell (p := ⟨H, 2, none⟩) hH2 hHX).trans h_2
  have b_3 : w1.cell? ⟨H, 3, none⟩ = some (.slice a1 (m + 1) c1) := (hc.cell (p := ⟨H, 3, none⟩) hH2 hHX).trans h_3
  have b_4 : w1.cell? ⟨H, 4, none⟩ = some (.string ⟨#[]⟩) := (hc.cell (p := ⟨H, 4, none⟩) hH2 hHX).trans h_4
  have hfa := HF.out.ch hc (fun k hk e => by have := (Fr.blks HF.out k hk).1; omega)
  have HFA : Hid (Fr iE 3 1 lo w1.heap.size (.slice a1 p.args.length c1) p.args w1) := zz (hfa.mono hlo (Nat.le_refl _))
  have HD : Hid (∀ k ∈ bO a1, k ≠ X ∧ k ∉ bO (some (⟨g', 0, none⟩ : Addr)) ∧ k ∉ acB al L) := zz (fun k hk => by
   have h1 := Fr.blks HF.out k hk
   refine ⟨by omega, fun h => ?_, fun h => ?_⟩
   ·simp [bO] at h; omega
   ·have := (HP.out.ps.ro.bd actL k h).2; omega)
  have HT : Hid (Calls Tryz.prog 148 #[.pointer (some ⟨X, 0, none⟩), .agg #[.int .i64 4, .int .i64 n, .bool p.priv, .slice a1 (m + 1) c1, .string ⟨#[]⟩]] w1 (fun e w' => QR X lo (pz, [⟨4, n, p.priv, p.args, e0⟩]) L e w1 w')) := zz (by
   have h1 := Zb9 X lo pz (some ⟨g', 0, none⟩) al a1 0 cl c1 L ⟨4, n, p.priv, p.args, e0⟩ w1 HQ.out HFA.out HD.out hL (by show p.args.length ≤ _; omega)
   rw [show (⟨4, n, p.priv, p.args, e0⟩ : AV).args.length = m + 1 from HLM.out] at h1
   exact h1)
  clear hq hc hfa h_0 h_1 h_2 h_3 h_4
  go_wp2_with fail
  refine HT.out.mono ?_
  rintro e w2 hq
  have HQ2 := zz (hq.base ((HB.out.mono hlo).trans (HQ0.out.below1 HC.out)))
  obtain ⟨rfl, _⟩ := hq
  go_wp2_with fail
  refine bodyPost_end (v := .tuple #[]) (by simp [results, Tryz.results135]) rfl ?_
  rw [HR.out]
  exact HQ2.out
end
section
theorem takeC_r (p : PV) (X lo : Nat) (ap al : Option Addr) (cp cl : Nat) (L : List aA) (b : UInt8) (w : World) (h : QS X lo p ap cp L al cl w) (hL : L.length ≤ 1048576) (hs : p.state = 2) (hAA : argsB p.args = true) (hT : p.text = e0) (hU : p.utf = e0) :
 Calls Tryz.prog 106 #[.pointer (some ⟨X, 0, none⟩), .int .i64 b.toNat] w (fun e w' => QR X lo (cstep p b) L e w w') := by
 have HCA := zz (csi_r p X lo ap al cp cl L b w h hL hs hAA hT hU)
 have k_0 : w.cell? ⟨X, 0, none⟩ = some (.int .i64 2) := by rw [h.ps.c0, hs]
 have kf := h.ps.fz
 have klt := h.ps.lt
 clear h hs hAA hT hU
 go_enter Tryz.func106, Tryz.ntmps106
 go_wp2_with fail
 refine HCA.out.mono ?_
 rintro e w1 hq
 have HQ := zz hq
 obtain ⟨rfl, _⟩ := hq
 go_wp2_with fail
 refine bodyPost_end (v := .tuple #[]) (by simp [results, Tryz.results106]) rfl ?_
 exact HQ.out
theorem take_r (p : PV) (X lo : Nat) (ap al : Option Addr) (cp cl : Nat) (L : List aA) (b : UInt8) (w : World) (h : QS X lo p ap cp L al cl w) (hL : L.length ≤ 1048575) (ok : PvOK p) :
 Calls Tryz.prog 106 #[.pointer (some ⟨X, 0, none⟩), .int .i64 b.toNat] w (fun e w' => QR X lo (pstep p b) L e w w') := by
 obtain ⟨k1, k2, k3, k4, k5, k6, k7⟩ := ok
 have hL' : L.length ≤ 1048576 := by omega
 unfold pstep
 obtain ⟨s, a, v, t, u⟩ := p
 simp only at k1 k2 k3 k4 k5 k6 k7 ⊢
 by_cases s0 : s = 0
 ·rw [if_pos s0]
  obtain ⟨a1, a4⟩ := k3 (by omega)
  have a2 := k5 (by omega) (by omega)
  have a3 := k7 (by omega)
  subst s0 a1 a2 a3 a4
  exact Yd5 X lo ap al cp cl L b w h hL'
 rw [if_neg s0]
 by_cases s1 : s = 1
 ·rw [if_pos s1]
  obtain ⟨a1, a4⟩ := k3 (by omega)
  have a2 := k5 (by omega) (by omega)
  have a3 := k7 (by omega)
  subst s1 a1 a2 a3 a4
  exact Yc3 X lo ap al cp cl L b w h hL'
 rw [if_neg s1]
 by_cases s2 : s = 2
 ·rw [if_pos s2]
  exact takeC_r _ X lo ap al cp cl L b w h hL' s2 (k2 s2) (k5 (by omega) (by omega)) (k7 (by omega))
 rw [if_neg s2]
 by_cases s3 : s = 3
 ·rw [if_pos s3]
  obtain ⟨a1, a4⟩ := k3 (by omega)
  have a2 := k5 (by omega) (by omega)
  have a3 := k7 (by omega)
  subst s3 a1 a2 a3 a4
  exact takeS_r X lo ap al cp cl L b w h hL'
 rw [if_neg s3]
 by_cases s4 : s = 4
 ·rw [if_pos s4]
  obtain ⟨a1, a4⟩ := k3 (by omega)
  have a3 := k7 (by omega)
  have hT := Zx5 (k4 (by omega))
  subst s4 a1 a3 a4
  exact takeO_r t X lo ap al cp cl L b w h hL' hT
 rw [if_neg s4]
 by_cases s5 : s = 5
 ·rw [if_pos s5]
  obtain ⟨a1, a4⟩ := k3 (by omega)
  have a3 := k7 (by omega)
  subst s5 a1 a3 a4
  exact takeQ_r t X lo ap al cp cl L b w h hL'
 rw [if_neg s5]
 have s6 : s = 6 := by omega
 obtain ⟨a1, a4⟩ := k3 (by omega)
 have a2 := k5 (by omega) (by omega)
 have hT := k6 s6
 subst s6 a1 a2 a4
 exact takeU_r u X lo ap al cp cl L b w h hL hT
end
section
theorem Zx0 (lo : Nat) (w : World) (g : Nat) (hg : g = w.heap.size) (h : lo ≤ w.heap.size) : Fr actE 38 5 lo (w.alloc (.cells #[] 38)).heap.size (.slice (some ⟨g, 0, none⟩) 0 0) [] (w.alloc (.cells #[] 38)) := by
 subst hg
 exact (F_.of_own (World.ownsRow_made (base := lo) w #[] 0 h (by decide) rfl) rfl rfl).here
theorem actZero (lo : Nat) (w : World) (g : Nat) (hg : g = w.heap.size) (h : lo ≤ w.heap.size) : ActO lo [] (some ⟨g, 0, none⟩) 0 (w.alloc (.cells #[] 38)) :=
 ⟨Zx0 lo w g hg h, by simp, by simp [roB, bO]⟩
def OutP (G : PV × List AV) (w : World) (e : Ending) (w' : World) : Prop :=
 ∃ (ap : Option Addr) (cp : Nat) (al : Option Addr) (cl : Nat) (L : List aA), e = .returned (.tuple #[.agg #[.int .i64 G.1.state, .slice ap G.1.args.length cp, .bool G.1.priv, .string G.1.text, .string G.1.utf], .slice al L.length cl]) ∧ Fr iE 3 1 w.heap.size w'.heap.size (.slice ap G.1.args.length cp) G.1.args w' ∧ ActO w.heap.size L al cl w' ∧ (∀ k ∈ bO ap, k ∉ acB al L) ∧ L.map (·.A) = G.2 ∧ Below w.heap.size w w'
theorem QS.box {X lo : Nat} {p : PV} {ap al : Option Addr} {cp cl : Nat} {w : World} (hlo : lo ≤ X) (hlt : X < w.heap.size) (ha : Fr iE 3 1 lo w.heap.size (.slice ap p.args.length cp) p.args w) (hro : ActO lo [] al cl w)
 (c0 : w.cell? ⟨X, 0, none⟩ = some (.int .i64 p.state)) (c1 : w.cell? ⟨X, 1, none⟩ = some (.slice ap p.args.length cp)) (c2 : w.cell? ⟨X, 2, none⟩ = some (.bool p.priv))
 (c3 : w.cell? ⟨X, 3, none⟩ = some (.string p.text)) (c4 : w.cell? ⟨X, 4, none⟩ = some (.string p.utf)) (c5 : w.cell? ⟨X, 5, none⟩ = some (.slice al 0 cl)) (fz : ∀ o, w.frozen? ⟨X, o, none⟩ = false) (hn : X ∉ bO ap ++ bO al) (hd : ∀ k ∈ bO ap, k ∉ bO al) : QS X lo p ap cp [] al cl w :=
 ⟨⟨c0, c1, c2, c3, c4, fz, hlt, ha, hro, by simpa [acB, roB] using hn, fun k hk => by simpa [acB, roB] using hd k hk⟩, c5, hlo⟩
theorem run_r (ap : Option Addr) (cp : Nat) (p : PV) (s : ByteArray) (w : World) (ha : Sl iE 1 w ap p.args) (hs : s.size ≤ 131072) (ok : PvOK p) :
 Calls Tryz.prog 68 #[.agg #[.int .i64 p.state, .slice ap p.args.length cp, .bool p.priv, .string p.text, .string p.utf], .string s] w (OutP (prun p s.data.toList) w) := by
 have hl8 : p.args.length ≤ 1048576 := by
  by_cases h2 : p.state = 2
  ·have := ok.csi h2
   simp only [argsB, Bool.and_eq_true, decide_eq_true_eq] at this
   omega
  ·rw [(ok.nocsi h2).1]; simp
 have HOK := zz ok
 have HSZ : Hid (s.data.toList.length = s.size) := zz rfl
 have HOWN := zz (own_r ap cp p ((w.alloc (.cells #[.int .i64 p.state, .slice ap p.args.length cp, .bool p.priv, .string p.text, .string p.utf] 42)).alloc (.cells #[.int .i64 0, .slice none 0 0, .bool false, .string ⟨#[]⟩, .string ⟨#[]⟩] 42)) ((ha.alloc _).alloc _) hl8)
 clear ok ha
 obtain ⟨R, hR⟩ := eX (prun p s.data.toList)
 have HRE := zz hR
 rw [hR]
 clear hR
 go_enter Tryz.func68, Tryz.ntmps68
 go_wp2_with fail
 refine HOWN.out.mono ?_
 clear HOWN
 rintro e w1 ⟨a1, c1, rfl, hf, hb⟩
 have HF := zz hf
 have HB := zz hb
 have hz := hb.size
 simp only [World.size_alloc] at hz
 have hl0 : w.heap.size < w1.heap.size := by omega
 have hl1 : w.heap.size + 1 < w1.heap.size := by omega
 have r1_0 : w1.cell? ⟨w.heap.size + 1, 0, none⟩ = some (.int .i64 0) := (hb.cell (p := ⟨w.heap.size + 1, 0, none⟩) (by show w.heap.size + 1 < _; (try simp) <;> omega)).trans (by simp [go_sem])
 have r1_1 : w1.cell? ⟨w.heap.size + 1, 1, none⟩ = some (.slice none 0 0) := (hb.cell (p := ⟨w.heap.size + 1, 1, none⟩) (by show w.heap.size + 1 < _; (try simp) <;> omega)).trans (by simp [go_sem])
 have r1_2 : w1.cell? ⟨w.heap.size + 1, 2, none⟩ = some (.bool false) := (hb.cell (p := ⟨w.heap.size + 1, 2, none⟩) (by show w.heap.size + 1 < _; (try simp) <;> omega)).trans (by simp [go_sem])
 have r1_3 : w1.cell? ⟨w.heap.size + 1, 3, none⟩ = some (.string ⟨#[]⟩) := (hb.cell (p := ⟨w.heap.size + 1, 3, none⟩) (by show w.heap.size + 1 < _; (try simp) <;> omega)).trans (by simp [go_sem])
 have r1_4 : w1.cell? ⟨w.heap.size + 1, 4, none⟩ = some (.string ⟨#[]⟩) := (hb.cell (p := ⟨w.heap.size + 1, 4, none⟩) (by show w.heap.size + 1 < _; (try simp) <;> omega)).trans (by simp [go_sem])
 have rf1 : ∀ o, w1.frozen? ⟨w.heap.size + 1, o, none⟩ = false := fun o => (hb.frozen (p := ⟨w.heap.size + 1, o, none⟩) (by show w.heap.size + 1 < _; (try simp) <;> omega)).trans (by simp [go_sem])
 have HBW : Hid (Below w.heap.size w w1) := zz (((Below.refl w.heap.size w).alloc (Nat.le_refl _) _ |>.alloc (by simp) _).trans (hb.mono (by simp only [World.size_alloc]; omega)))
 clear hf hb
 go_upto_region 2 with fail
 obtain ⟨x, hx⟩ : ∃ x, ((w1.alloc (.cells #[] 38)).alloc (.cells #[.int .i64 p.state, .slice a1 p.args.length c1, .bool p.priv, .string p.text, .string p.utf, .slice (some ⟨w1.heap.size, 0, none⟩) 0 0] 130)) = x := ⟨_, rfl⟩
 have HBX : Hid (Below w1.heap.size w1 x) := zz (by rw [← hx]; exact (bA).alloc (by simp) _)
 have hzx : w1.heap.size + 1 < x.heap.size := by rw [← hx]; simp
 have HQ0 : Hid (QS (w1.heap.size + 1) (w.heap.size + 2) p a1 c1 [] (some ⟨w1.heap.size, 0, none⟩) 0 x) := zz (by
  have h1 := HF.out.ch (M := fun _ => False) (Ch.of_below HBX.out) (fun _ _ h => h)
  have hb1 := Fr.blks HF.out
  simp only [World.size_alloc] at h1 hb1
  refine QS.box (by omega) hzx h1 ?_ ?_ ?_ ?_ ?_ ?_ ?_ ?_ ?_ ?_
  ·rw [← hx]
   exact (actZero (w.heap.size + 2) w1 w1.heap.size rfl (by omega)).keep actL (bA)
  ·rw [← hx]; simp [go_sem]
  ·rw [← hx]; simp [go_sem]
  ·rw [← hx]; simp [go_sem]
  ·rw [← hx]; simp [go_sem]
  ·rw [← hx]; simp [go_sem]
  ·rw [← hx]; simp [go_sem]
  ·intro o; rw [← hx]; simp [go_sem]
  ·intro h
   rcases List.mem_append.1 h with h | h
   ·have := (hb1 _ h).2; omega
   ·simp [bO] at h
  ·intro k hk h
   have := (hb1 _ hk).2
   simp [bO] at h
   omega)
 rw [hx]
 clear hx
 have HBWX : Hid (Below w.heap.size w x) := zz (HBW.out.trans (HBX.out.mono (by omega)))
 have hx1 : w.heap.size + 1 < x.heap.size := by omega
 have x1_0 := kC HBX.out (by omega) r1_0
 have x1_1 := kC HBX.out (by omega) r1_1
 have x1_2 := kC HBX.out (by omega) r1_2
 have x1_3 := kC HBX.out (by omega) r1_3
 have x1_4 := kC HBX.out (by omega) r1_4
 have xf1 : ∀ o, x.frozen? ⟨w.heap.size + 1, o, none⟩ = false := fun o => (HBX.out.frozen (p := ⟨w.heap.size + 1, o, none⟩) (by show w.heap.size + 1 < _; omega)).trans (rf1 o)
 clear r1_0 r1_1 r1_2 r1_3 r1_4 rf1
 obtain ⟨X, hX⟩ := eX (w1.heap.size + 1)
 have hXlo : w.heap.size + 2 < X := by omega
 have hXx : X < x.heap.size := by omega
 rw [hX] at HQ0 ⊢
 clear hX hzx hl0 hl1 hz
 go_wp2_with fail
 go_loopw [7] (fun i wr => ∃ (k : Nat) (a5 : Option Addr) (c5 : Nat) (L5 : List aA) (al5 : Option Addr) (cl5 : Nat), k ≤ s.size ∧ i = .int .i64 k ∧ Hid (QS X (w.heap.size + 2) (prun p (s.data.toList.take k)).1 a5 c5 L5 al5 cl5 wr ∧ L5.map (·.A) = (prun p (s.data.toList.take k)).2 ∧ Below (w.heap.size + 2) x wr)) (fun i _ => s.size - (intOf i).toNat)
 case atStart => exact ⟨0, a1, c1, [], some ⟨w1.heap.size, 0, none⟩, 0, Nat.zero_le _, rfl, zz ⟨HQ0.out, rfl, Below.refl _ _⟩⟩
 case round =>
  obtain ⟨k, a5, c5, L5, al5, cl5, hk, rfl, HPP⟩ := hrel
  have hsz := HPP.out.2.2.size
  by_cases hlt : k < s.size
  ·obtain ⟨b, hbk⟩ := eX (s[k])
   have HBK : Hid (s.data.toList[k]'(by rw [HSZ.out]; exact hlt) = b) := zz hbk
   have h256 := b.toNat_lt
   have HLL : Hid (L5.length ≤ 1048575) := zz (by
    have h1 := congrArg List.length HPP.out.2.1
    have h2 := Zv6 (s.data.toList.take k) p
    have h3 := HSZ.out
    simp only [List.length_map, List.length_take] at h1 h2
    omega)
   obtain ⟨Pk, hPk⟩ := eX (prun p (s.data.toList.take k))
   have HPK := zz hPk
   rw [hPk] at HPP
   clear hPk
   have hu8 : IntKind.i64.wrap (b.toNat : Int) = (b.toNat : Int) := iIq _
   have HTK := zz (take_r Pk.1 X (w.heap.size + 2) a5 al5 c5 cl5 L5 b wr HPP.out.1 HLL.out (by rw [← HPK.out]; exact Ze9 _ HOK.out))
   go_wp2_with fail
   refine HTK.out.mono ?_
   clear HTK
   rintro e w6 ⟨rfl, a7, c7, L7, al7, cl7, g1, g2, g3⟩
   have G1 := zz g1
   have G2 := zz g2
   have G3 := zz g3
   clear g1 g2 g3
   go_wp2_with fail
   go_roundw
   case rel =>
    have hs : prun p (s.data.toList.take (k + 1)) = ((pstep Pk.1 b).1, Pk.2 ++ (pstep Pk.1 b).2) := by
     rw [List.take_succ_eq_append_getElem (by rw [HSZ.out]; exact hlt), Zl7, HPK.out, HBK.out]
    exact ⟨k + 1, a7, c7, L7, al7, cl7, by omega, by go_num, zz ⟨by rw [hs]; exact G1.out, by rw [hs, G2.out, HPP.out.2.1], HPP.out.2.2.trans G3.out⟩⟩
   case measure => simp [intOf]; omega
  ·obtain rfl : k = s.size := by omega
   rw [← HSZ.out, List.take_length] at HPP
   rw [HRE.out] at HPP
   have g1 := HPP.out.1
   have g3 := HPP.out.2.2
   have v0 := g1.ps.c0
   have v1 := g1.ps.c1
   have v2 := g1.ps.c2
   have v3 := g1.ps.c3
   have v4 := g1.ps.c4
   have v5 := g1.c5
   have vlt := g1.ps.lt
   have u0 : wr.cell? ⟨w.heap.size + 1, 0, none⟩ = some (.int .i64 0) := (g3.cell (p := ⟨w.heap.size + 1, 0, none⟩) (by show w.heap.size + 1 < _; omega)).trans x1_0
   have u1 : wr.cell? ⟨w.heap.size + 1, 1, none⟩ = some (.slice none 0 0) := (g3.cell (p := ⟨w.heap.size + 1, 1, none⟩) (by show w.heap.size + 1 < _; omega)).trans x1_1
   have u2 : wr.cell? ⟨w.heap.size + 1, 2, none⟩ = some (.bool false) := (g3.cell (p := ⟨w.heap.size + 1, 2, none⟩) (by show w.heap.size + 1 < _; omega)).trans x1_2
   have u3 : wr.cell? ⟨w.heap.size + 1, 3, none⟩ = some (.string ⟨#[]⟩) := (g3.cell (p := ⟨w.heap.size + 1, 3, none⟩) (by show w.heap.size + 1 < _; omega)).trans x1_3
   have u4 : wr.cell? ⟨w.heap.size + 1, 4, none⟩ = some (.string ⟨#[]⟩) := (g3.cell (p := ⟨w.heap.size + 1, 4, none⟩) (by show w.heap.size + 1 < _; omega)).trans x1_4
   have uf : ∀ o, wr.frozen? ⟨w.heap.size + 1, o, none⟩ = false := fun o => (g3.frozen (p := ⟨w.heap.size + 1, o, none⟩) (by show w.heap.size + 1 < _; omega)).trans (xf1 o)
   have ul : w.heap.size + 1 < wr.heap.size := by omega
   have hRl : R.1.args.length ≤ 1048576 := by
    have h1 := Ze9 s.data.toList HOK.out
    rw [HRE.out] at h1
    by_cases h2 : R.1.state = 2
    ·have := h1.csi h2
     simp only [argsB, Bool.and_eq_true, decide_eq_true_eq] at this
     omega
    ·rw [(h1.nocsi h2).1]; simp
   have HOW : Hid (∀ W, Below wr.heap.size wr W → Calls Tryz.prog 105 #[.agg #[.int .i64 R.1.state, .slice a5 R.1.args.length c5, .bool R.1.priv, .string R.1.text, .string R.1.utf]] W (ParR R.1 W)) := zz (fun W hW => own_r a5 c5 R.1 W (Sl.keep (w := wr) (Fr.sl (enc := iE) (fun _ => rfl) HPP.out.1.ps.args) hW) hRl)
   clear g1 g3
   go_upto_region 6 with fail
   have hS0 : wr.cell? ⟨X, 0, none⟩ = some (.int .i64 R.1.state) ∧ wr.cell? ⟨X, 1, none⟩ = some (.slice a5 R.1.args.length c5) ∧ wr.cell? ⟨X, 2, none⟩ = some (.bool R.1.priv) ∧ wr.cell? ⟨X, 3, none⟩ = some (.string R.1.text) ∧ wr.cell? ⟨X, 4, none⟩ = some (.string R.1.utf) ∧ wr.cell? ⟨X, 5, none⟩ = some (.slice al5 L5.length cl5) := ⟨v0, v1, v2, v3, v4, v5⟩
   refine Za4 (fun w' => w'.cell? ⟨X, 0, none⟩ = some (.int .i64 R.1.state) ∧ w'.cell? ⟨X, 1, none⟩ = some (.slice a5 R.1.args.length c5) ∧ w'.cell? ⟨X, 2, none⟩ = some (.bool R.1.priv) ∧ w'.cell? ⟨X, 3, none⟩ = some (.string R.1.text) ∧ w'.cell? ⟨X, 4, none⟩ = some (.string R.1.utf) ∧ w'.cell? ⟨X, 5, none⟩ = some (.slice al5 L5.length cl5)) (fun i => false) (by kernel_rfl) hS0 ?_
   refine tW ?_ 0 rfl ?_ ?_; rotate_left
   ·intro w' hSw; go_simp; try rfl
   try simp only [Act.put,j1,j2,j3,j4,j5,j6]
   refine tW ?_ 1 rfl ?_ ?_; rotate_left
   ·intro w' hSw; go_simp; try rfl
   try simp only [Act.put,j1,j2,j3,j4,j5,j6]
   refine tW ?_ 2 rfl ?_ ?_; rotate_left
   ·intro w' hSw; go_simp; try rfl
   try simp only [Act.put,j1,j2,j3,j4,j5,j6]
   refine tL ?_ 3 rfl hS0 ?_ ?_; rotate_left
   ·intro w' hSw; obtain ⟨s0, s1, s2, s3, s4, s5⟩ := hSw; go_simp; try rfl
   try simp only [Act.put,j1,j2,j3,j4,j5,j6]
   refine tW ?_ 5 rfl ?_ ?_; rotate_left
   ·intro w' hSw; go_simp; try rfl
   try simp only [Act.put,j1,j2,j3,j4,j5,j6]
   refine tW ?_ 6 rfl ?_ ?_; rotate_left
   ·intro w' hSw; go_simp; try rfl
   try simp only [Act.put,j1,j2,j3,j4,j5,j6]
   refine tW ?_ 7 rfl ?_ ?_; rotate_left
   ·intro w' hSw; go_simp; try rfl
   try simp only [Act.put,j1,j2,j3,j4,j5,j6]
   refine tL ?_ 8 rfl hS0 ?_ ?_; rotate_left
   ·intro w' hSw; obtain ⟨s0, s1, s2, s3, s4, s5⟩ := hSw; go_simp; try rfl
   try simp only [Act.put,j1,j2,j3,j4,j5,j6]
   refine w1G (i := 4) (by kernel_rfl) rfl hS0 (fun K' hK => ?_)
   simp only [j1,j2,j3]
   go_simp
   go_at_call 105
   refine (HOW.out wr.drew ((Below.refl _ _).drew)).mono ?_
   clear HOW
   rintro e w7 ⟨a8, c8, rfl, hf8, hb8⟩
   have HF8 := zz hf8
   have HB8 : Hid (Below wr.heap.size wr w7) := zz (((Below.refl _ _).drew).trans hb8)
   have hz8 := HB8.out.size
   have hS1 : w7.cell? ⟨X, 0, none⟩ = some (.int .i64 R.1.state) ∧ w7.cell? ⟨X, 1, none⟩ = some (.slice a5 R.1.args.length c5) ∧ w7.cell? ⟨X, 2, none⟩ = some (.bool R.1.priv) ∧ w7.cell? ⟨X, 3, none⟩ = some (.string R.1.text) ∧ w7.cell? ⟨X, 4, none⟩ = some (.string R.1.utf) ∧ w7.cell? ⟨X, 5, none⟩ = some (.slice al5 L5.length cl5) := ⟨(HB8.out.cell (p := ⟨X, 0, none⟩) vlt).trans v0, (HB8.out.cell (p := ⟨X, 1, none⟩) vlt).trans v1, (HB8.out.cell (p := ⟨X, 2, none⟩) vlt).trans v2, (HB8.out.cell (p := ⟨X, 3, none⟩) vlt).trans v3, (HB8.out.cell (p := ⟨X, 4, none⟩) vlt).trans v4, (HB8.out.cell (p := ⟨X, 5, none⟩) vlt).trans v5⟩
   have y0 := kC HB8.out ul u0
   have y1 := kC HB8.out ul u1
   have y2 := kC HB8.out ul u2
   have y3 := kC HB8.out ul u3
   have y4 := kC HB8.out ul u4
   have yf := fun o => kF HB8.out ul (uf o)
   have yl : w.heap.size + 1 < w7.heap.size := by omega
   clear hf8 hb8
   refine hK.out _ _ (Or.inr hS1) ?_
   clear hK K'
   try simp only [Act.put,j1,j2,j3,j4,j5,j6]
   have hXn : ¬ w.heap.size + 1 = X := by omega
   have hXm : ¬ X = w.heap.size + 1 := by omega
   obtain ⟨h_0, h_1, h_2, h_3, h_4, h_5⟩ := id hS1
   refine w1G (i := 9) (by kernel_rfl) rfl hS1 (fun K' hK => ?_)
   simp only [j1,j2,j3]
   go_simp
   refine hK.out _ _ (Or.inr (by refine ⟨?_, ?_, ?_, ?_, ?_, ?_⟩ <;> simp [go_sem, h_0, h_1, h_2, h_3, h_4, h_5, hXn, hXm])) ?_
   clear hK K'
   try simp only [Act.put,j1,j2,j3,j4,j5,j6]
   refine tW ?_ 10 rfl ?_ ?_; rotate_left
   ·intro w' hSw; go_simp; try rfl
   try simp only [Act.put,j1,j2,j3,j4,j5,j6]
   refine wD (by kernel_rfl) ?_ _
   go_wp2_with fail
   refine bodyPost_ret (v := .tuple #[.agg #[.int .i64 R.1.state, .slice a8 R.1.args.length c8, .bool R.1.priv, .string R.1.text, .string R.1.utf], .slice al5 L5.length cl5]) (by simp [results, Tryz.results68, go_sem, y0, y1, y2, y3, y4, yl]) rfl ?_
   have hc : ∀ y0 y1 y2 y3 y4, Ch (fun k => k = w.heap.size + 1) w7 (((((w7.setCell ⟨w.heap.size + 1, 0, none⟩ y0).setCell ⟨w.heap.size + 1, 1, none⟩ y1).setCell ⟨w.heap.size + 1, 2, none⟩ y2).setCell ⟨w.heap.size + 1, 3, none⟩ y3).setCell ⟨w.heap.size + 1, 4, none⟩ y4) := fun y0 y1 y2 y3 y4 => ((((Ch.set1 _ _ _ _).setB _ _).setB _ _).setB _ _).setB _ _
   have hcx := hc (.int .i64 R.1.state) (.slice a8 R.1.args.length c8) (.bool R.1.priv) (.string R.1.text) (.string R.1.utf)
   have hp := HPP.out.1.ps
   have hro := hp.ro.keep actL HB8.out
   have hbl := hp.ro.bd actL
   have hf := HF8.out
   have hfb := Fr.blks hf
   simp only [World.size_drew] at hf hfb
   refine ⟨a8, c8, al5, cl5, L5, rfl, ?_, ?_, ?_, HPP.out.2.1, ?_⟩
   ·exact (hf.ch hcx (fun k hk h => by have := (hfb k hk).1; omega)).mono (by omega) (Nat.le_refl _)
   ·exact (hro.ch actL hcx (fun k hk h => by have := (hbl k hk).1; omega)).low actL (by omega)
   ·intro k hk h
    have h1 := (hfb k hk).1
    have h2 := (hbl k h).2
    omega
   ·exact ((HBWX.out.trans (HPP.out.2.2.mono (by omega))).trans (HB8.out.mono (by omega))).trans (hcx.below (by omega) (fun k h => by omega))
end
section
theorem PvOK.len {p : PV} (h : PvOK p) : p.args.length ≤ 8 := by
 by_cases h2 : p.state = 2
 ·have := h.csi h2
  simp only [argsB, Bool.and_eq_true, decide_eq_true_eq] at this
  omega
 ·rw [(h.nocsi h2).1]; simp
theorem PvOK.arg {p : PV} (h : PvOK p) : ∀ x ∈ p.args, -1 ≤ x ∧ x ≤ 9999 := by
 intro x hx
 by_cases h2 : p.state = 2
 ·have := h.csi h2
  simp only [argsB, Bool.and_eq_true, decide_eq_true_eq, List.all_eq_true] at this
  exact this.2 x hx
 ·rw [(h.nocsi h2).1] at hx; simp at hx
theorem PvOK.tit {p : PV} (h : PvOK p) : p.text.size ≤ 40 ∧ ∀ x ∈ p.text.data.toList, 32 ≤ x.toNat ∧ x.toNat ≤ 126 := by
 by_cases h2 : p.state = 4 ∨ p.state = 5
 ·have := h.osc h2
  simp only [titB, Bool.and_eq_true, decide_eq_true_eq, List.all_eq_true] at this
  exact this
 ·rw [h.noosc (by omega) (by omega)]
  exact ⟨by decide, by simp [e0]⟩
theorem isEmp (s : ByteArray) : s.toList.isEmpty = decide (s.size = 0) := by
 by_cases h : s.size = 0
 ·rw [Zf0.1 h]; rw [Lib.toList_data]; rfl
 ·rw [Zj4 h]; simp [h]
end
section
theorem convS {a : Option Addr} {ca : Nat} {xs : List UInt8} {w : World} (ha : Sl yE 1 w a xs) : (convert 22 9 (.slice a xs.length ca)).run Tryz.prog w = .ok (.string ⟨xs.toArray⟩) w := by
 rcases ha with rfl | ⟨b, off, rfl, hlt, hc⟩
 ·cases a with
  | none =>
    show (convert 22 9 (.slice none 0 ca)).run Tryz.prog w = _
    rw [run_convert_bytes_string w 22 9 5 none 0 ca Tryz.underlying22 Tryz.underlying5 Tryz.underlying9]
    rfl
  | some a => exact run_convert_bytes_back w _ _ 5 a ca [] Tryz.underlying22 Tryz.underlying5 Tryz.underlying9 (fun j hj => by simp at hj)
 ·refine run_convert_bytes_back w _ _ 5 ⟨b, off, none⟩ ca xs Tryz.underlying22 Tryz.underlying5 Tryz.underlying9 (fun j hj => ?_)
  have := hc j hj 0 (by omega)
  simpa [yE, Addr.add_lit] using this
end
section
def ActS (w : World) (a : Option Addr) (rs : List aA) : Prop := Sl actE 5 w a rs ∧ ∀ r ∈ rs, Sl iE 1 w r.aa r.A.args
theorem ActS.keep {w w' : World} {a : Option Addr} {rs : List aA} (h : ActS w a rs) (hb : Below w.heap.size w w') : ActS w' a rs := ⟨h.1.keep hb, fun r hr => (h.2 r hr).keep hb⟩
end
section
theorem Yb7 (a b : Option Addr) (ca cb : Nat) (xs ys : List Int) (w : World) (ha : Sl iE 1 w a xs) (hb : Sl iE 1 w b ys) (la : xs.length ≤ 1048576) (lb : ys.length ≤ 1048576) :
 Calls Tryz.prog 47 #[.slice a xs.length ca, .slice b ys.length cb] w fun e w' => e = .returned (.bool (decide (xs = ys))) ∧ Below w.heap.size w w' := by
 by_cases hl : xs.length = ys.length
 ·go_enter Tryz.func47, Tryz.ntmps47
  go_wp2_with fail
  go_loopw [5] (fun i wr => ∃ k : Nat, k ≤ xs.length ∧ i = .int .i64 k ∧ xs.take k = ys.take k ∧ Below w.heap.size w wr) (fun i _ => xs.length - (intOf i).toNat)
  case atStart => exact ⟨0, Nat.zero_le _, rfl, rfl, Below.refl _ _⟩
  case round =>
   obtain ⟨k, hk, rfl, ht, hbel⟩ := hrel
   have HT := zz ht
   clear ht
   by_cases hlt : k < xs.length
   ·have hlt2 : k < ys.length := by omega
    obtain ⟨b1, o1, rfl, hb1, hc1⟩ := (ha.keep hbel).at hlt
    obtain ⟨b2, o2, rfl, hb2, hc2⟩ := (hb.keep hbel).at hlt2
    have c1 := hc1 k hlt 0 (by omega)
    have c2 := hc2 k hlt2 0 (by omega)
    simp only [iE, Nat.mul_one, Nat.add_zero, List.getElem?_cons_zero] at c1 c2
    clear hc1 hc2
    have HL := zz hl
    clear hl
    by_cases he : xs[k] = ys[k]
    ·have he' : (xs[k] == ys[k]) = true := by rw [he]; simp
     have HE := zz he
     clear he
     go_wp2_with fail
     go_quiet (fail)
     go_wp2_with fail
     go_roundw
     case rel =>
      refine ⟨k + 1, by omega, by go_num, ?_, hbel.trans (Zd1 _ _ _)⟩
      rw [List.take_succ_eq_append_getElem hlt, List.take_succ_eq_append_getElem hlt2, HT.out, HE.out]
     case measure => simp [intOf]; omega
    ·have he' : (xs[k] == ys[k]) = false := by simp [he]
     have HE := zz he
     clear he
     go_wp2_with fail
     go_quiet (fail)
     go_wp2_with fail
     go_ret
     refine ⟨?_, hbel.trans (Zd1 _ _ _)⟩
     have hne : xs ≠ ys := by rintro rfl; exact HE.out rfl
     simp [hne]
   ·have hkn : k = xs.length := by omega
    go_wp2_with fail
    go_ret
    refine ⟨?_, hbel⟩
    have h1 := HT.out
    rw [List.take_of_length_le (by omega), List.take_of_length_le (by omega)] at h1
    simp [h1]
 ·have hl' : ((xs.length : Int) == (ys.length : Int)) = false := by simp; omega
  have hd : decide (xs = ys) = false := by simp; intro h; exact hl (by rw [h])
  rw [hd]
  clear hd
  go_enter Tryz.func47, Tryz.ntmps47
  go_wp2_with fail
  go_ret
  exact ⟨rfl, (by repeat (first | exact Below.refl _ _ | (refine Below.alloc ?_ (by (try simp) <;> (try omega)) _) | (refine Below.setCell ?_ (by (try simp) <;> (try omega)) _) | (refine Below.drew ?_) | (refine Below.trans ?_ (Below.mono (by assumption) (by (try simp) <;> (try omega))))))⟩
theorem Zo5 (a b : Option Addr) (ca cb : Nat) (xs : List Int) (w : World) (ha : Sl iE 1 w a xs) (hb : Sl iE 1 w b xs) (la : xs.length ≤ 1048576) :
 Calls Tryz.prog 47 #[.slice a xs.length ca, .slice b xs.length cb] w fun e w' => e = .returned (.bool true) ∧ Below w.heap.size w w' :=
 (Yb7 a b ca cb xs xs w ha hb la la).mono (by rintro e w' ⟨h, hb⟩; exact ⟨by rw [h]; simp, hb⟩)
theorem Zl1 (ap aq : Option Addr) (cp cq : Nat) (p : PV) (w : World) (ha : Sl iE 1 w ap p.args) (hb : Sl iE 1 w aq p.args) (hl : p.args.length ≤ 1048576) :
 Calls Tryz.prog 20 #[.agg #[.int .i64 p.state, .slice ap p.args.length cp, .bool p.priv, .string p.text, .string p.utf], .agg #[.int .i64 p.state, .slice aq p.args.length cq, .bool p.priv, .string p.text, .string p.utf]] w fun e w' => e = .returned (.bool true) ∧ Below w.heap.size w w' := by
 have HC := zz (Zo5 ap aq cp cq p.args ((w.alloc (.cells #[.int .i64 p.state, .slice ap p.args.length cp, .bool p.priv, .string p.text, .string p.utf] 42)).alloc (.cells #[.int .i64 p.state, .slice aq p.args.length cq, .bool p.priv, .string p.text, .string p.utf] 42)) ((ha.alloc _).alloc _) ((hb.alloc _).alloc _) hl)
 clear ha hb
 go_enter Tryz.func20, Tryz.ntmps20
 go_wp2_with fail
 refine HC.out.mono ?_
 rintro e w1 ⟨rfl, hb1⟩
 have HB := zz hb1
 clear hb1
 go_wp2_with fail
 go_ret
 exact ⟨rfl, (((Below.refl w.heap.size w).alloc (Nat.le_refl _) _).alloc (by simp) _).trans (HB.out.mono (by simp; omega))⟩
end
section
theorem isRune_t (n : Int) (w : World) (h : rnOK n) : Calls Tryz.prog 57 #[.int .i64 n] w fun e w' => e = .returned (.bool true) ∧ w = w' := by
 obtain ⟨h1, h2, h3, h4⟩ := h
 have g1 : Hid (inB n 32 1114111 = true) := zz (by simp [inB]; omega)
 have g2 : Hid (inB n 55296 57343 = false) := zz (by simp [inB]; omega)
 have g3 : (n != 127) = true := bne_iff_ne.2 h3
 have g4 : (n == 127) = false := beq_eq_false_iff_ne.2 h3
 clear h1 h2 h3 h4
 go_enter Tryz.func57, Tryz.ntmps57
 go_wp2_with (go_at_call 31; refine (wI _ _ _ _).mono ?_; (first | rw [g1.out] | rw [g2.out]); rintro e w' ⟨rfl, rfl⟩)
 go_ret
 exact ⟨rfl, rfl⟩
theorem ctlN_I {n : Int} (h : ctlN n) : ctlI n = true := by
 obtain ⟨m, rfl⟩ : ∃ m : Nat, n = m := ⟨n.toNat, by unfold ctlN at h; omega⟩
 rw [Zt7]
 unfold ctlN at h
 simp only [ctl, Bool.or_eq_true, Bool.and_eq_true, decide_eq_true_eq, beq_iff_eq]
 omega
theorem escN_I {n : Int} (h : escN n) : escI n = true := by
 obtain ⟨m, rfl⟩ : ∃ m : Nat, n = m := ⟨n.toNat, by unfold escN at h; omega⟩
 rw [esc_eq]
 unfold escN at h
 simp only [esc, Bool.or_eq_true, beq_iff_eq]
 omega
theorem empE0 : e0.toList.isEmpty = true := by rw [isEmp]; rfl
theorem Yc0 (a : AV) (aa : Option Addr) (ca : Nat) (w : World) (h : AcOK a) (ha : Sl iE 1 w aa a.args) :
 Calls Tryz.prog 35 #[.agg #[.int .i64 a.kind, .int .i64 a.n, .bool a.priv, .slice aa a.args.length ca, .string a.text]] w fun e w' => e = .returned (.bool true) ∧ Below w.heap.size w w' := by
 obtain ⟨kd, n, pv, xs, tx⟩ := a
 rcases h with ⟨hk, ht, hA, h1, h2⟩ | ⟨hp, hA, ⟨hk, hn, ht⟩ | ⟨ht, ⟨hk, hn⟩ | ⟨hk, hn⟩ | ⟨hk, hn⟩⟩⟩
 all_goals simp only at hk
 all_goals subst hk
 ·simp only at ht hA h1 h2 ha ⊢
  subst ht
  have hl8 : xs.length ≤ 1048576 := by
   have := hA
   simp only [argsB, Bool.and_eq_true, decide_eq_true_eq] at this
   omega
  have g1 : Hid (inB n 64 126 = true) := zz (by simp [inB]; omega)
  have HA := zz (Zt1 aa ca xs (w.alloc (.cells #[.int .i64 4, .int .i64 n, .bool pv, .slice aa xs.length ca, .string e0] 38)) (ha.alloc _) (by omega))
  rw [hA] at HA
  have hE := empE0
  clear hA h1 h2 ha
  go_enter Tryz.func35, Tryz.ntmps35
  go_wp2_with (first | (go_at_call 31; refine (wI _ _ _ _).mono ?_; rw [g1.out]; rintro e w' ⟨rfl, rfl⟩) | (go_at_call 69; refine HA.out.mono ?_; rintro e w' ⟨rfl, rfl⟩))
  go_ret
  exact ⟨rfl, bA⟩
 ·simp only at hp hA hn ht ⊢
  subst hp hA hn
  have HT := zz ht
  have hz : tx.size ≤ 1048576 := by
   have := ht
   simp only [titB, Bool.and_eq_true, decide_eq_true_eq] at this
   omega
  clear ht ha
  go_enter Tryz.func35, Tryz.ntmps35
  go_wp2_with (go_at_call 52; refine (Za9 tx _ (by omega)).mono ?_; rw [HT.out]; rintro e w' ⟨rfl, rfl⟩)
  go_ret
  exact ⟨rfl, bA⟩
 ·simp only at hp hA hn ht ⊢
  subst hp hA ht
  have HT := zz hn
  have hE := empE0
  clear hn ha
  go_enter Tryz.func35, Tryz.ntmps35
  go_wp2_with (go_at_call 57; refine (isRune_t _ _ HT.out).mono ?_; rintro e w' ⟨rfl, rfl⟩)
  go_ret
  exact ⟨rfl, bA⟩
 ·simp only at hp hA hn ht ⊢
  subst hp hA ht
  have HT := zz (ctlN_I hn)
  have hE := empE0
  clear hn ha
  go_enter Tryz.func35, Tryz.ntmps35
  go_wp2_with (go_at_call 70; refine (iCq _ _).mono ?_; rw [HT.out]; rintro e w' ⟨rfl, rfl⟩)
  go_ret
  exact ⟨rfl, bA⟩
 ·simp only at hp hA hn ht ⊢
  subst hp hA ht
  have HT := zz (escN_I hn)
  have hE := empE0
  clear hn ha
  go_enter Tryz.func35, Tryz.ntmps35
  go_wp2_with (go_at_call 71; refine (Zh9 _ _).mono ?_; rw [HT.out]; rintro e w' ⟨rfl, rfl⟩)
  go_ret
  exact ⟨rfl, bA⟩
end
section
theorem Zx9 {s : ByteArray} {l : List UInt8} (h : s.data.toList = l) : s = ⟨l.toArray⟩ := by
 subst h
 cases s
 simp
end
section
def SrcAt (b : Nat) (a : Option Addr) (c : Nat) (xs : List UInt8) (K : Nat) (w : World) : Prop :=
 ∃ (p seed : Nat), xs.length ≤ 2097152 ∧ p ≤ K ∧ seed < 2147483648 ∧ w.cell? ⟨b, 0, none⟩ = some (.slice a xs.length c) ∧ w.cell? ⟨b, 1, none⟩ = some (.int .i64 p) ∧ w.cell? ⟨b, 2, none⟩ = some (.int .i64 seed) ∧ (∀ o, w.frozen? ⟨b, o, none⟩ = false) ∧ Sl yE 1 w a xs ∧ (∀ b' o, a = some ⟨b', o, none⟩ → xs = [] ∨ b' ≠ b) ∧ b < w.heap.size
def ByteR (b : Nat) (a : Option Addr) (c : Nat) (xs : List UInt8) (K m : Nat) (w : World) (e : Ending) (w' : World) : Prop :=
 ∃ n : Nat, n < m ∧ e = .returned (.int .i64 n) ∧ SrcAt b a c xs K w' ∧ Mid b (b + 1) w w'
theorem Sl.setCellE {α : Type} {enc : α → List Value} {sz : Nat} {w : World} {a : Option Addr} {xs : List α} {p : Addr} (h : Sl enc sz w a xs) (hp : ∀ b off, a = some ⟨b, off, none⟩ → xs = [] ∨ b ≠ p.block) (u : Value) : Sl enc sz (w.setCell p u) a xs := by
 by_cases hx : xs = []
 ·exact .inl hx
 ·exact h.setCell (fun b off e => (hp b off e).resolve_left hx) u
theorem SrcAt.below {b K c : Nat} {a : Option Addr} {xs : List UInt8} {w w' : World} (h : SrcAt b a c xs K w) (hb : Below w.heap.size w w') : SrcAt b a c xs K w' := by
 obtain ⟨p, seed, h1, h2, h3, c0, c1, c2, hf, hs, hne, hb0⟩ := h
 have hz := hb.size
 exact ⟨p, seed, h1, h2, h3, (hb.cell (p := ⟨b, 0, none⟩) hb0).trans c0, (hb.cell (p := ⟨b, 1, none⟩) hb0).trans c1, (hb.cell (p := ⟨b, 2, none⟩) hb0).trans c2, fun o => (hb.frozen (p := ⟨b, o, none⟩) hb0).trans (hf o), hs.keep hb, hne, by omega⟩
theorem SrcAt.mono {b K K' c : Nat} {a : Option Addr} {xs : List UInt8} {w : World} (h : SrcAt b a c xs K w) (hK : K ≤ K') : SrcAt b a c xs K' w := by
 obtain ⟨p, seed, h1, h2, h3, c0, c1, c2, hf, hs, hne, hb0⟩ := h
 exact ⟨p, seed, h1, by omega, h3, c0, c1, c2, hf, hs, hne, hb0⟩
theorem Mid.store {b o : Nat} {u : Value} {w : World} : Mid b (b + 1) w (w.setCell ⟨b, o, none⟩ u) := (Mid.refl b (b + 1) w).setCell (Nat.le_refl _) (by show b < b + 1; omega) u
theorem Mid.drewN {lo hi : Nat} {a w : World} (h : Mid lo hi a w) (n : Nat) : Mid lo hi a (w.drewN n) := h.trans ⟨rfl, rfl, rfl, Nat.le_refl _, fun _ _ _ => rfl⟩
theorem Mid.drew {lo hi : Nat} {a w : World} (h : Mid lo hi a w) : Mid lo hi a w.drew := h.trans ⟨rfl, rfl, rfl, Nat.le_refl _, fun _ _ _ => rfl⟩
theorem SrcAt.lt {b K c : Nat} {a : Option Addr} {xs : List UInt8} {w : World} (h : SrcAt b a c xs K w) : b < w.heap.size := by
 obtain ⟨p, seed, h1, h2, h3, c0, c1, c2, hf, hs, hne, hb0⟩ := h
 exact hb0
theorem SrcAt.far {b K c : Nat} {a : Option Addr} {xs : List UInt8} {w : World} (h : SrcAt b a c xs K w) : ∀ b' o, a = some ⟨b', o, none⟩ → xs = [] ∨ b' < w.heap.size := by
 obtain ⟨p, seed, h1, h2, h3, c0, c1, c2, hf, hs, hne, hb0⟩ := h
 intro b' o he
 rcases hs with hs | ⟨b2, o2, he2, hlt, _⟩
 ·exact .inl hs
 ·rw [he] at he2
  cases he2
  exact .inr hlt
theorem SrcAt.setCell {b K c : Nat} {a : Option Addr} {xs : List UInt8} {w : World} (h : SrcAt b a c xs K w) {p : Addr} (hp : ¬ p.block = b) (ha : ∀ b' o, a = some ⟨b', o, none⟩ → xs = [] ∨ b' ≠ p.block) (u : Value) : SrcAt b a c xs K (w.setCell p u) := by
 obtain ⟨q, seed, h1, h2, h3, c0, c1, c2, hf, hs, hne, hb0⟩ := h
 have hc : ∀ j, (w.setCell p u).cell? ⟨b, j, none⟩ = w.cell? ⟨b, j, none⟩ := fun j => World.cell?_setCell_other _ _ _ _ (fun e => hp (by first | exact congrArg Addr.block e | exact (congrArg Addr.block e).symm))
 have hfz : ∀ o, (w.setCell p u).frozen? ⟨b, o, none⟩ = w.frozen? ⟨b, o, none⟩ := fun o => by simp [go_sem]
 refine ⟨q, seed, h1, h2, h3, (hc 0).trans c0, (hc 1).trans c1, (hc 2).trans c2, fun o => (hfz o).trans (hf o), ?_, hne, by simpa using hb0⟩
 rcases hs with hs | ⟨b2, o2, he2, hlt, hcc⟩
 ·exact .inl hs
 ·rcases ha b2 o2 he2 with h | h
  ·exact .inl h
  ·exact (Sl.setCell (.inr ⟨b2, o2, he2, hlt, hcc⟩) (fun b' o e => by rw [he2] at e; cases e; exact h) u)
theorem Sl.boxM {α : Type} {enc : α → List Value} {sz : Nat} {w : World} (hs : ∀ x, (enc x).length = sz) (xs : List α) (cs : Array Value) (T : TypeId) (hc : cs.toList = xs.flatMap enc) (b : Nat) (hb : b = w.heap.size) : Sl enc sz (w.alloc (.cells cs T)) (some ⟨b, 0, none⟩) xs := by
 subst hb
 refine .inr ⟨w.heap.size, 0, rfl, by simp, fun i hi j hj => ?_⟩
 rw [World.cell?_alloc_new, ← Array.getElem?_toList, hc, Nat.zero_add]
 exact Zc0 enc sz hs xs i hi j hj
theorem Ye7 (b : Nat) (a : Option Addr) (c : Nat) (xs : List UInt8) (K : Nat) (w : World) (h : SrcAt b a c xs K w) (hK : K ≤ 1099511627776) :
 Calls Tryz.prog 92 #[.pointer (some ⟨b, 0, none⟩)] w (ByteR b a c xs (K + 1) 256 w) := by
 obtain ⟨p, seed, h1, h2, h3, c0, c1, c2, hf, hs, hne, hb0⟩ := h
 by_cases hp : p + 1 ≤ xs.length
 ·obtain ⟨bF, oF, rfl, hbF, hcF⟩ := hs.at (i := p) (by omega)
  have hneb := (hne bF oF rfl).resolve_left (fun h => by rw [h] at hp; simp at hp)
  have hneb' : ¬ b = bF := fun h => hneb h.symm
  have d := hcF p (by omega) 0 (by omega)
  simp only [yE, Nat.mul_one, Nat.add_zero, List.getElem?_cons_zero] at d
  have hn := xs[p].toNat_lt
  generalize xs[p].toNat = n at *
  have g1 : decide ((p : Int) + 1 ≤ (xs.length : Int)) = true := by simp; omega
  have g2 : (p : Int) + 1 ≤ (xs.length : Int) := by omega
  have e1 : wrap64 ((p : Int) + 1) = (p : Int) + 1 := IntWalk.wrap64_in _ ⟨by omega, by omega⟩
  have e2 : IntKind.i64.wrap ((p : Int) + 1 - 1) = (p : Int) := by rw [iIq _]; omega
  have e3 : IntKind.i64.wrap ((seed : Int) * 31) = (seed : Int) * 31 := iIq _
  have e4 : IntKind.i64.wrap ((seed : Int) * 31 + (n : Int)) = (seed : Int) * 31 + (n : Int) := iIq _
  have e5 : IntKind.i64.wrap ((seed : Int) * 31 + (n : Int) + 7) = (seed : Int) * 31 + (n : Int) + 7 := iIq _
  have HS := zz hs
  have HNE := zz hne
  clear hs hne hcF
  go_enter Tryz.func92, Tryz.ntmps92
  go_wp2_with fail
  go_quiet (fail)
  go_wp2_with fail
  go_region
  go_wp2_with fail
  go_quiet (fail)
  go_wp2_with fail
  go_ret
  refine ⟨n, hn, rfl, ⟨p + 1, (seed * 31 + n + 7) % 2147483648, h1, by omega, by omega, ?_, ?_, ?_, ?_, ?_, HNE.out, ?_⟩, ?_⟩
  ·simp [go_sem, c0]
  ·simp [go_sem, c1]
  ·simp [go_sem, c2]
  ·intro o
   simp [go_sem, hf]
  ·repeat (first | (with_reducible exact HS.out) | (with_reducible refine Sl.setCellE ?_ HNE.out _) | (with_reducible refine Sl.drewN ?_ _) | (with_reducible refine Sl.drew ?_))
  ·simpa using hb0
  ·repeat (first | (with_reducible exact Mid.refl _ _ _) | (with_reducible refine Mid.setCell ?_ ?_ ?_ _; rotate_left; (show b ≤ b; omega); (show b < b + 1; omega)) | (with_reducible refine Mid.drewN ?_ _) | (with_reducible refine Mid.drew ?_))
 ·have HS := zz hs
  have HNE := zz hne
  clear hs hne
  have g1 : decide ((p : Int) + 1 ≤ (xs.length : Int)) = false := by simp; omega
  have g2 : ¬ (p : Int) + 1 ≤ (xs.length : Int) := by omega
  have e1 : wrap64 ((p : Int) + 1) = (p : Int) + 1 := IntWalk.wrap64_in _ ⟨by omega, by omega⟩
  by_cases hb3 : 3000 < p + 1
  ·have g3 : (3000 : Int) < (p : Int) + 1 := by omega
   go_enter Tryz.func92, Tryz.ntmps92
   go_wp2_with fail
   go_quiet (fail)
   go_wp2_with fail
   go_ret
   refine ⟨0, by omega, rfl, ⟨p + 1, seed, h1, by omega, by omega, ?_, ?_, ?_, ?_, ?_, HNE.out, ?_⟩, ?_⟩
   ·simp [go_sem, c0]
   ·simp [go_sem, c1]
   ·simp [go_sem, c2]
   ·intro o
    simp [go_sem, hf]
   ·repeat (first | (with_reducible exact HS.out) | (with_reducible refine Sl.setCellE ?_ HNE.out _) | (with_reducible refine Sl.drewN ?_ _) | (with_reducible refine Sl.drew ?_))
   ·simpa using hb0
   ·repeat (first | (with_reducible exact Mid.refl _ _ _) | (with_reducible refine Mid.setCell ?_ ?_ ?_ _; rotate_left; (show b ≤ b; omega); (show b < b + 1; omega)) | (with_reducible refine Mid.drewN ?_ _) | (with_reducible refine Mid.drew ?_))
  ·have g3 : ¬ (3000 : Int) < (p : Int) + 1 := by omega
   go_enter Tryz.func92, Tryz.ntmps92
   go_wp2_with fail
   go_quiet (fail)
   go_wp2_with fail
   go_ret
   refine ⟨(seed * 1103515245 + 12345) % 2147483648 / 65536 % 256, by omega, congrArg (fun z => Ending.returned (.int .i64 z)) (by simp), ⟨p + 1, (seed * 1103515245 + 12345) % 2147483648, h1, by omega, by omega, ?_, ?_, ?_, ?_, ?_, HNE.out, ?_⟩, ?_⟩
   ·simp [go_sem, c0]
   ·simp [go_sem, c1]
   ·simp [go_sem, c2]
   ·intro o
    simp [go_sem, hf]
   ·repeat (first | (with_reducible exact HS.out) | (with_reducible refine Sl.setCellE ?_ HNE.out _) | (with_reducible refine Sl.drewN ?_ _) | (with_reducible refine Sl.drew ?_))
   ·simpa using hb0
   ·repeat (first | (with_reducible exact Mid.refl _ _ _) | (with_reducible refine Mid.setCell ?_ ?_ ?_ _; rotate_left; (show b ≤ b; omega); (show b < b + 1; omega)) | (with_reducible refine Mid.drewN ?_ _) | (with_reducible refine Mid.drew ?_))
theorem Zf4 (b : Nat) (a : Option Addr) (c : Nat) (xs : List UInt8) (K n : Nat) (w : World) (h : SrcAt b a c xs K w) (hK : K ≤ 1099511627776) (hn : 1 ≤ n) (hn2 : n ≤ 256) :
 Calls Tryz.prog 50 #[.pointer (some ⟨b, 0, none⟩), .int .i64 n] w (ByteR b a c xs (K + 1) n w) := by
 have HB := zz (Ye7 b a c xs K w h hK)
 have HS := zz h
 clear h
 by_cases h1 : n = 1
 ·subst h1
  go_enter Tryz.func50, Tryz.ntmps50
  go_wp2_with fail
  go_ret
  exact ⟨0, by omega, rfl, HS.out.mono (by omega), Mid.refl _ _ _⟩
 ·have g1 : (1 : Int) < (n : Int) := by omega
  have g2 : (n : Int) ≤ 256 := by omega
  have g3 : ¬ n = 0 := by omega
  go_enter Tryz.func50, Tryz.ntmps50
  go_wp2_with fail
  refine HB.out.mono ?_
  rintro e w1 ⟨m, hm, rfl, hs1, hm1⟩
  have HS1 := zz hs1
  have HM1 := zz hm1
  clear hs1 hm1
  go_wp2_with fail
  go_ret
  refine ⟨m % n, Nat.mod_lt _ (by omega), congrArg (fun z => Ending.returned (.int .i64 z)) (by simp), HS1.out, HM1.out⟩
def PickR (b : Nat) (a : Option Addr) (c : Nat) (xs : List UInt8) (K : Nat) (L : List ByteArray) (w : World) (e : Ending) (w' : World) : Prop :=
 ∃ s, s ∈ L ∧ e = .returned (.string s) ∧ SrcAt b a c xs K w' ∧ Mid b (b + 1) w w'
theorem Zq6 (b : Nat) (a : Option Addr) (c : Nat) (xs : List UInt8) (K : Nat) (a1 : Option Addr) (c1 : Nat) (L : List ByteArray) (w : World) (h : SrcAt b a c xs K w) (hK : K ≤ 1099511627776) (ha : Sl sE 1 w a1 L) (hne : ∀ b' o, a1 = some ⟨b', o, none⟩ → b' ≠ b) (hl : 1 ≤ L.length) (hl2 : L.length ≤ 256) :
 Calls Tryz.prog 83 #[.pointer (some ⟨b, 0, none⟩), .slice a1 L.length c1] w (PickR b a c xs (K + 1) L w) := by
 have HB := zz (Zf4 b a c xs K L.length w h hK hl hl2)
 obtain ⟨bF, oF, rfl, hbF, hcF⟩ := ha.at (i := 0) (by omega)
 have hneb := hne bF oF rfl
 have hside : bF < b ∨ b + 1 ≤ bF := by omega
 have HC := zz hcF
 have g1 : ¬ L.length = 0 := by omega
 have g2 : decide ((L.length : Int) = 0) = false := decide_eq_false (by omega)
 clear h hcF hne ha
 go_enter Tryz.func83, Tryz.ntmps83
 go_wp2_with fail
 refine HB.out.mono ?_
 rintro e w1 ⟨m, hm, rfl, hs1, hm1⟩
 have d := HC.out m hm 0 (by omega)
 simp only [sE, Nat.mul_one, Nat.add_zero, List.getElem?_cons_zero] at d
 have d1 : w1.cell? ⟨bF, oF + m, none⟩ = some (.string L[m]) := by
  rw [hm1.cell (p := ⟨bF, oF + m, none⟩) hbF hside]
  exact d
 have hmem : L[m] ∈ L := List.getElem_mem hm
 have HS1 := zz hs1
 have HM1 := zz hm1
 have hm' : (m : Int) < (L.length : Int) := by omega
 have hm0 : (0 : Int) ≤ (m : Int) := by omega
 clear hs1 hm1 d
 generalize L[m] = s at *
 go_wp2_with fail
 go_ret
 exact ⟨s, hmem, rfl, HS1.out, HM1.out⟩
end
section
theorem convB (l : List UInt8) (v : Array Value) (hv : v.toList = l.flatMap yE) (w : World) (n : Nat) (hn : n = l.length) : (convert 22 9 (.slice (some ⟨w.heap.size, 0, none⟩) n n)).run Tryz.prog (w.alloc (.cells v 5)) = .ok (.string ⟨l.toArray⟩) (w.alloc (.cells v 5)) := by
 subst hn
 exact convS (Sl.boxM (enc := yE) (sz := 1) (fun _ => rfl) l v 5 hv w.heap.size rfl)
theorem utf1_c (m : Nat) (w : World) (h : m < 128) :
 Calls Tryz.prog 153 #[.int .i64 m] w fun e w' => e = .returned (.string ⟨#[u8 (m)]⟩) ∧ Below w.heap.size w w' := by
 have hb0 : ((m : Int)) % 256 = ((u8 (m)).toNat : Int) := by have := u8N (n := m) (by omega); omega
 obtain ⟨x0, hx0⟩ : ∃ x : UInt8, u8 (m) = x := ⟨_, rfl⟩
 rw [hx0] at hb0 ⊢
 clear hx0
 have HB := zz (And.intro hb0 trivial)
 clear hb0
 have g1 : (m : Int) < 128 := by omega
 go_enter Tryz.func153, Tryz.ntmps153
 go_wp2_with fail
 rw [convB [x0] _ (by have := HB.out; simp [yE]; omega) w 1 rfl]
 go_wp2_with fail
 go_ret
 exact ⟨rfl, bA⟩
theorem utf2_c (m : Nat) (w : World) (h1 : ¬ m < 128) (h : m < 2048) :
 Calls Tryz.prog 153 #[.int .i64 m] w fun e w' => e = .returned (.string ⟨#[u8 (192 + m / 64), u8 (128 + m % 64)]⟩) ∧ Below w.heap.size w w' := by
 have hb0 : (192 + (m : Int) / 64) % 256 = ((u8 (192 + m / 64)).toNat : Int) := by have := u8N (n := 192 + m / 64) (by omega); omega
 obtain ⟨x0, hx0⟩ : ∃ x : UInt8, u8 (192 + m / 64) = x := ⟨_, rfl⟩
 rw [hx0] at hb0 ⊢
 clear hx0
 have hb1 : (128 + (m : Int) % 64) % 256 = ((u8 (128 + m % 64)).toNat : Int) := by have := u8N (n := 128 + m % 64) (by omega); omega
 obtain ⟨x1, hx1⟩ : ∃ x : UInt8, u8 (128 + m % 64) = x := ⟨_, rfl⟩
 rw [hx1] at hb1 ⊢
 clear hx1
 have HB := zz (And.intro hb0 hb1)
 clear hb0 hb1
 have g1 : ¬ (m : Int) < 128 := by omega
 have g2 : (m : Int) < 2048 := by omega
 go_enter Tryz.func153, Tryz.ntmps153
 go_wp2_with fail
 rw [convB [x0, x1] _ (by have := HB.out; simp [yE]; omega) w 2 rfl]
 go_wp2_with fail
 go_ret
 exact ⟨rfl, bA⟩
theorem utf3_c (m : Nat) (w : World) (h1 : ¬ m < 128) (h2 : ¬ m < 2048) (h : m < 65536) :
 Calls Tryz.prog 153 #[.int .i64 m] w fun e w' => e = .returned (.string ⟨#[u8 (224 + m / 4096), u8 (128 + m / 64 % 64), u8 (128 + m % 64)]⟩) ∧ Below w.heap.size w w' := by
 have hb0 : (224 + (m : Int) / 4096) % 256 = ((u8 (224 + m / 4096)).toNat : Int) := by have := u8N (n := 224 + m / 4096) (by omega); omega
 obtain ⟨x0, hx0⟩ : ∃ x : UInt8, u8 (224 + m / 4096) = x := ⟨_, rfl⟩
 rw [hx0] at hb0 ⊢
 clear hx0
 have hb1 : (128 + (m : Int) / 64 % 64) % 256 = ((u8 (128 + m / 64 % 64)).toNat : Int) := by have := u8N (n := 128 + m / 64 % 64) (by omega); omega
 obtain ⟨x1, hx1⟩ : ∃ x : UInt8, u8 (128 + m / 64 % 64) = x := ⟨_, rfl⟩
 rw [hx1] at hb1 ⊢
 clear hx1
 have hb2 : (128 + (m : Int) % 64) % 256 = ((u8 (128 + m % 64)).toNat : Int) := by have := u8N (n := 128 + m % 64) (by omega); omega
 obtain ⟨x2, hx2⟩ : ∃ x : UInt8, u8 (128 + m % 64) = x := ⟨_, rfl⟩
 rw [hx2] at hb2 ⊢
 clear hx2
 have HB := zz (And.intro hb0 (And.intro hb1 hb2))
 clear hb0 hb1 hb2
 have g1 : ¬ (m : Int) < 128 := by omega
 have g2 : ¬ (m : Int) < 2048 := by omega
 have g3 : (m : Int) < 65536 := by omega
 go_enter Tryz.func153, Tryz.ntmps153
 go_wp2_with fail
 rw [convB [x0, x1, x2] _ (by have := HB.out; simp [yE]; omega) w 3 rfl]
 go_wp2_with fail
 go_ret
 exact ⟨rfl, bA⟩
theorem utf4_c (m : Nat) (w : World) (h1 : ¬ m < 128) (h2 : ¬ m < 2048) (h3 : ¬ m < 65536) (h : m ≤ 1114111) :
 Calls Tryz.prog 153 #[.int .i64 m] w fun e w' => e = .returned (.string ⟨#[u8 (240 + m / 262144), u8 (128 + m / 4096 % 64), u8 (128 + m / 64 % 64), u8 (128 + m % 64)]⟩) ∧ Below w.heap.size w w' := by
 have hb0 : (240 + (m : Int) / 262144) % 256 = ((u8 (240 + m / 262144)).toNat : Int) := by have := u8N (n := 240 + m / 262144) (by omega); omega
 obtain ⟨x0, hx0⟩ : ∃ x : UInt8, u8 (240 + m / 262144) = x := ⟨_, rfl⟩
 rw [hx0] at hb0 ⊢
 clear hx0
 have hb1 : (128 + (m : Int) / 4096 % 64) % 256 = ((u8 (128 + m / 4096 % 64)).toNat : Int) := by have := u8N (n := 128 + m / 4096 % 64) (by omega); omega
 obtain ⟨x1, hx1⟩ : ∃ x : UInt8, u8 (128 + m / 4096 % 64) = x := ⟨_, rfl⟩
 rw [hx1] at hb1 ⊢
 clear hx1
 have hb2 : (128 + (m : Int) / 64 % 64) % 256 = ((u8 (128 + m / 64 % 64)).toNat : Int) := by have := u8N (n := 128 + m / 64 % 64) (by omega); omega
 obtain ⟨x2, hx2⟩ : ∃ x : UInt8, u8 (128 + m / 64 % 64) = x := ⟨_, rfl⟩
 rw [hx2] at hb2 ⊢
 clear hx2
 have hb3 : (128 + (m : Int) % 64) % 256 = ((u8 (128 + m % 64)).toNat : Int) := by have := u8N (n := 128 + m % 64) (by omega); omega
 obtain ⟨x3, hx3⟩ : ∃ x : UInt8, u8 (128 + m % 64) = x := ⟨_, rfl⟩
 rw [hx3] at hb3 ⊢
 clear hx3
 have HB := zz (And.intro hb0 (And.intro hb1 (And.intro hb2 hb3)))
 clear hb0 hb1 hb2 hb3
 have g1 : ¬ (m : Int) < 128 := by omega
 have g2 : ¬ (m : Int) < 2048 := by omega
 have g3 : ¬ (m : Int) < 65536 := by omega
 go_enter Tryz.func153, Tryz.ntmps153
 go_wp2_with fail
 rw [convB [x0, x1, x2, x3] _ (by have := HB.out; simp [yE]; omega) w 4 rfl]
 go_wp2_with fail
 go_ret
 exact ⟨rfl, bA⟩
theorem l03Utf_c (n : Int) (w : World) (h : rnOK n) :
 Calls Tryz.prog 153 #[.int .i64 n] w fun e w' => e = .returned (.string ⟨(utfB n.toNat).toArray⟩) ∧ Below w.heap.size w w' := by
 obtain ⟨m, rfl⟩ : ∃ m : Nat, n = m := ⟨n.toNat, by have := h.1; omega⟩
 have hm := h.2.1
 show Calls Tryz.prog 153 #[.int .i64 m] w fun e w' => e = .returned (.string ⟨(utfB m).toArray⟩) ∧ Below w.heap.size w w'
 unfold utfB
 by_cases a1 : m < 128
 ·rw [if_pos a1]; exact utf1_c m w a1
 rw [if_neg a1]
 by_cases a2 : m < 2048
 ·rw [if_pos a2]; exact utf2_c m w a1 a2
 rw [if_neg a2]
 by_cases a3 : m < 65536
 ·rw [if_pos a3]; exact utf3_c m w a1 a2 a3
 rw [if_neg a3]
 exact utf4_c m w a1 a2 a3 (by omega)
end
section
def beB (n c j : Nat) : UInt8 := UInt8.ofNat (n / 256 ^ (c - 1 - j))
def be (n c : Nat) : List UInt8 := (List.range c).map (beB n c)
theorem Za8 (n c : Nat) : (be n c).length = c := by simp [be]
theorem Zl9 (n c j : Nat) : (beB n c j).toNat = n / 256 ^ (c - 1 - j) % 256 := by
 unfold beB
 rw [UInt8.toNat_ofNat']
theorem be_snoc (n c d : Nat) : (List.range (d + 1)).map (beB n c) = (List.range d).map (beB n c) ++ [beB n c d] := by simp [List.range_succ]
theorem sh8 (n q : Nat) : (n : Int) / 2 ^ (8 * q) % 256 = ((n / 256 ^ q % 256 : Nat) : Int) := by
 rw [show (2 : Int) ^ (8 * q) = ((256 ^ q : Nat) : Int) by rw [Int.natCast_pow, Int.pow_mul]; rfl]
 simp
def sO_ (l : List UInt8) : ByteArray := ⟨l.toArray⟩
theorem Zg5 (n c : Nat) (w : World) (hn : n ≤ 1099511627776) (hc : 1 ≤ c ∧ c ≤ 8) :
 Calls Tryz.prog 128 #[.int .i64 n, .int .i64 c] w (Ze0 yE 5 1 w (be n c)) := by
 obtain ⟨i0, hi, hz0, hz1, hz2⟩ := info_parts Tryz.infoByte
 obtain ⟨hc1, hc2⟩ := hc
 go_enter Tryz.func128, Tryz.ntmps128
 go_wp2_with fail
 go_loopw [5, 6] (fun v i wr => ∃ d : Nat, d ≤ c ∧ i = .int .i64 ((c : Int) - 1 - d) ∧ F_ yE 5 1 w.heap.size v ((List.range d).map (beB n c)) wr ∧ Below w.heap.size w wr) (fun _ i _ => (intOf i + 1).toNat)
 case atStart => exact ⟨0, Nat.zero_le _, by go_num, F_.of_own (World.ownsRow_made _ #[] 0 (Nat.le_refl _) (by decide) rfl) rfl rfl, (by repeat (first | exact Below.refl _ _ | (refine Below.alloc ?_ (by (try simp) <;> (try omega)) _) | (refine Below.setCell ?_ (by (try simp) <;> (try omega)) _) | (refine Below.drew ?_) | (refine Below.trans ?_ (Below.mono (by assumption) (by (try simp) <;> (try omega))))))⟩
 case round =>
  obtain ⟨d, hd, rfl, ⟨av, cv, rfl, hcv, ho⟩, hbel⟩ := hrel
  have hLl : ((List.range d).map (beB n c)).length ≤ d := by simp
  have hL := zz (be_snoc n c d)
  generalize hL0 : (List.range d).map (beB n c) = L at *
  have HL0 := zz hL0
  clear hL0
  by_cases hlt : d < c
  ·obtain ⟨q, hq⟩ : ∃ q, d + q + 1 = c := ⟨c - (d + 1), by omega⟩
   have hq8 : q ≤ 7 := by omega
   have e1 : (c : Int) - 1 - (d : Int) = (q : Int) := by omega
   rw [e1]
   have HQ := zz hq
   clear e1 hq
   have HO := zz ho
   go_wp2_with (at_builtin; refine wpList_append_own _ rfl _ _ 22 rfl w.heap.size 5 i0 (.int .u8 0) 1 1 Tryz.underlying22 hi hz0 hz1 hz2 rfl (by decide) _ _ _ rfl (ho.alloc _) ⟨wr.heap.size, 0, none⟩ 1 1 [.int .u8 ((n : Int) / 2 ^ (8 * q) % 256)] rfl rfl ?c1 ?c2 ?c3 ?c4 ?c5 ?_)
   case c1 => intro j u hu; match j, hu with | 0, hu => simp at hu; subst hu; simp [Addr.add]
   case c2 => simp [Value.oneCell']
   case c3 => unfold maxLen; omega
   case c4 => omega
   case c5 => have := hbel.size; simp; omega
   intro v' w1 hown1 hgrow _
   have hb1' : Below w.heap.size w w1 := (hbel.alloc hbel.size _).grown hgrow (by have := hbel.size; simp; omega) (fun k hk => (HO.out.lt k hk).1)
   have hf : F_ yE 5 1 w.heap.size v' ((List.range (d + 1)).map (beB n c)) w1 := by
    rw [hL.out]
    refine F_.of_own hown1 (by simp) ?_
    simp only [List.flatMap_append, List.flatMap_cons, List.flatMap_nil, List.append_nil, yE, Zl9]
    rw [show c - 1 - d = q by have := HQ.out; omega, sh8]
   clear hown1 hgrow ho
   have HF := zz hf
   clear hf
   go_wp2_with fail
   go_roundw
   case rel => exact ⟨d + 1, by omega, by congr 1; have := HQ.out; omega, HF.out, hb1'⟩
   case measure => simp [intOf]
  ·obtain rfl : d = c := by omega
   have HO := zz ho
   have e1 : (d : Int) - 1 - (d : Int) = -1 := by omega
   rw [e1]
   clear ho e1
   go_wp2_with fail
   go_ret
   exact ⟨_, rfl, F_.of_own HO.out (by rw [← HL0.out]; rfl) (by rw [← HL0.out]; rfl), hbel⟩
def bn (l : List UInt8) : Nat := l.foldl (fun n b => n * 256 + b.toNat) 0
end
section
def hdr (s : ByteArray) : List UInt8 := be s.size 3
theorem Zc7 (l : List UInt8) : (sO_ l).size = l.length := rfl
theorem Yf0 : ∀ (x : UInt8), ∀ u ∈ yE x, u.oneCell' = true := fun x u hu => by simp [yE] at hu; subst hu; rfl
theorem sizeData (s : ByteArray) : s.data.toList.length = s.size := rfl
end
section
theorem Tryz.sizeBuilder : (Tryz.prog.info? 95).map (·.size) = some 2 := by kernel_rfl
theorem Tryz.liesBuilder : liesAt Tryz.prog Tryz.prog.depth 95 (2 / Tryz.prog.cellsOf 95) 0 95 1 = true := by kernel_rfl
theorem Zm5 (b : Nat) (w : World) (h0 : w.cell? ⟨b, 0, none⟩ = some (.pointer (some ⟨b, 0, none⟩))) :
 Calls Tryz.prog 99 #[.pointer (some ⟨b, 0, none⟩)] w fun e w' => e = .returned (.tuple #[]) ∧ w' = w := by
 obtain ⟨j, hj, _⟩ := Option.map_eq_some_iff.1 Tryz.sizeBuilder
 go_enter Tryz.func99, Tryz.ntmps99
 go_wp2
 rw [Lib.run_neq_ptr_same w _ Tryz.underlying93 hj]
 go_wp2
 go_end0
 exact ⟨rfl, rfl⟩
theorem Zk1 (b : Nat) (w : World) (h0 : w.cell? ⟨b, 0, none⟩ = some (.pointer none)) (hsh : w.shape? b = some (95, 2)) (hfz : w.frozen? ⟨b, 0, none⟩ = false) :
 Calls Tryz.prog 99 #[.pointer (some ⟨b, 0, none⟩)] w fun e w' => e = .returned (.tuple #[]) ∧ w' = w.setCell ⟨b, 0, none⟩ (.pointer (some ⟨b, 0, none⟩)) := by
 obtain ⟨j, hj, hjs⟩ := Option.map_eq_some_iff.1 Tryz.sizeBuilder
 go_enter Tryz.func99, Tryz.ntmps99
 go_wp2
 rw [Lib.run_to_unsafe w ⟨b, 0, none⟩ Tryz.underlying93 Tryz.underlying144 hj (by rw [hjs]; decide) hsh (Nat.zero_lt_succ 1)]
 simp only [Result.andThen]
 rw [Oper.upon_value]
 go_wp2
 rw [run_callFunc_extern Tryz.func129 (by kernel_rfl) (by kernel_rfl) (by kernel_rfl) (e := Extern.AbiNoEscape.same) (by kernel_rfl)]
 rw [Lib.run_noEscape]
 simp only [Result.andThen]
 rw [Oper.upon_value]
 go_wp2
 rw [Lib.run_from_unsafe w ⟨b, 0, none⟩ Tryz.underlying144 Tryz.underlying93 hj hsh Tryz.liesBuilder]
 simp only [Result.andThen]
 rw [Oper.upon_value]
 go_wp2
 go_end0
 exact ⟨rfl, rfl⟩
theorem Zu9 (B b : Nat) (bs : List Value) (w : World) (h : Lib.IsBuilder 95 5 B b bs w) :
 Calls Tryz.prog 99 #[.pointer (some ⟨b, 0, none⟩)] w fun e w' => e = .returned (.tuple #[]) ∧ (Lib.BuilderAt 95 5 B b (.pointer (some ⟨b, 0, none⟩)) bs w' ∧ Below B w w') := by
 rcases h with h | h
 ·refine (Zk1 b w h.cell0 h.shape h.frozen0).mono ?_
  rintro e w' ⟨rfl, rfl⟩
  exact ⟨rfl, h.used _, (Below.refl B w).setCell (p := ⟨b, 0, none⟩) h.1 _⟩
 ·refine (Zm5 b w h.cell0).mono ?_
  rintro e w' ⟨rfl, rfl⟩
  exact ⟨rfl, h, Below.refl B _⟩
def Bld (B b : Nat) (l : List UInt8) (w : World) : Prop := Lib.IsBuilder 95 5 B b (Lib.byteCells l) w
theorem Zq2 (l m : List UInt8) : Lib.byteCells (l ++ m) = Lib.byteCells l ++ Lib.byteCells m := by simp [Lib.byteCells]
end
section
open Go.Shelf Go.RowKit
def Tryz.lays169_ren : Go.Shelf.Ren := ⟨fun | 169 => 65 | n => n, fun | 70 => 93 | 9 => 9 | 0 => 0 | 72 => 95 | 37 => 22 | 127 => 126 | 3 => 3 | 5 => 5 | n => n, fun | n => n⟩
theorem Tryz.lays169 : Go.Proofs.Lays.n169 Tryz.prog Tryz.lays169_ren := {
 mixed := by kernel_rfl
 f169 := Tryz.func65.trans (congrArg some (by kernel_rfl))
 t0 := Tryz.underlying0
 a0 := Tryz.isAgg0
 z0 := Tryz.sizeOf0
 v0 := Tryz.zeroValue0
 t3 := Tryz.underlying3
 a3 := Tryz.isAgg3
 z3 := Tryz.sizeOf3
 v3 := Tryz.zeroValue3
 t9 := Tryz.underlying9
 a9 := Tryz.isAgg9
 z9 := Tryz.sizeOf9
 v9 := Tryz.zeroValue9
 t37 := Tryz.underlying22
 a37 := Tryz.isAgg22
 z37 := Tryz.sizeOf22
 v37 := Tryz.zeroValue22
 t70 := Tryz.underlying93
 a70 := Tryz.isAgg93
 z70 := Tryz.sizeOf93
 v70 := Tryz.zeroValue93
 t72 := Tryz.underlying95
 a72 := Tryz.isAgg95
 z72 := Tryz.sizeOf95
 v72 := Tryz.zeroValue95
 t127 := Tryz.underlying126
 a127 := Tryz.isAgg126
 z127 := Tryz.sizeOf126
 v127 := Tryz.zeroValue126 }
theorem Tryz.Builder_Extra_169 : Builder.Extra Tryz.prog Tryz.lays169_ren := {
 sizeBuilder := by kernel_rfl
 liesBuilder := by kernel_rfl
 t5 := Tryz.underlying5
 a5 := Tryz.isAgg5
 z5 := Tryz.sizeOf5
 v5 := Tryz.zeroValue5
 infoByte := by kernel_rfl
 cellsByte := by kernel_rfl
 sizeByte := by kernel_rfl
 neB5 := by decide }
theorem Zw7 (B b : Nat) (l : List UInt8) (w : World) (h : Bld B b l w) (hBw : B ≤ w.heap.size) :
 Calls Tryz.prog 65 #[.pointer (some ⟨b, 0, none⟩)] w fun e w' => e = .returned (.string (sO_ l)) ∧ Below B w w' := Any.Builder_String_any Tryz.lays169 Tryz.Builder_Extra_169 B b l w h hBw
theorem bld_new (w : World) (B : Nat) (hB : B ≤ w.heap.size) : Bld B w.heap.size [] (w.alloc (.cells #[.pointer none, .slice none 0 0] 95)) :=
 .inl ⟨hB, _, heap_alloc_new w _, World.ownsRow_nil _ _ _ _, by simp [Value.ownBlock]⟩
theorem Bld.below {B b : Nat} {l : List UInt8} {w w' : World} (h : Bld B b l w) (hb : Below w.heap.size w w') : Bld B b l w' := by
 have key : ∀ p, Lib.BuilderAt 95 5 B b p (Lib.byteCells l) w → Lib.BuilderAt 95 5 B b p (Lib.byteCells l) w' := by
  rintro p ⟨h1, v, h2, h3, h4⟩
  refine ⟨h1, v, ?_, Yg7 h3 hb, h4⟩
  rw [hb.block b (Array.getElem?_eq_some_iff.1 h2).1]
  exact h2
 rcases h with h | h
 ·exact .inl (key _ h)
 ·exact .inr (key _ h)
end
section
def Win {α : Type} (enc : α → List Value) (e : TypeId) (sz lo : Nat) (w : World) (ad : Option Addr) (c : Nat) (xs : List α) : Prop :=
 (ad = none ∧ c = 0 ∧ xs = []) ∨ ∃ g off cur, ad = some ⟨g, off, none⟩ ∧ lo ≤ g ∧ w.heap[g]? = some (.cells cur e (0, 0)) ∧ xs.length ≤ c ∧ off + c * sz ≤ cur.size ∧ c ≤ maxLen ∧ (cur.toList.drop off).take (xs.length * sz) = xs.flatMap enc
section
variable {α : Type} {enc : α → List Value} {e : TypeId} {sz lo : Nat} {w w' : World} {ad : Option Addr} {c : Nat} {xs : List α}
theorem Win.nil : Win enc e sz lo w none 0 [] := .inl ⟨rfl, rfl, rfl⟩
theorem Win.cap (h : Win enc e sz lo w ad c xs) : xs.length ≤ c ∧ c ≤ maxLen := by
 rcases h with ⟨_, rfl, rfl⟩ | ⟨g, off, cur, _, _, _, h1, _, h2, _⟩
 ·exact ⟨Nat.le_refl _, Nat.zero_le _⟩
 ·exact ⟨h1, h2⟩
theorem Win.blk (h : Win enc e sz lo w ad c xs) : ∀ k ∈ bO ad, lo ≤ k ∧ k < w.heap.size := by
 rcases h with ⟨rfl, _⟩ | ⟨g, off, cur, rfl, hlo, hg, _⟩
 ·simp [bO]
 ·intro k hk
  simp only [bO, List.mem_singleton] at hk
  subst hk
  exact ⟨hlo, (Array.getElem?_eq_some_iff.1 hg).1⟩
theorem Win.ch {M : Nat → Prop} (h : Win enc e sz lo w ad c xs) (hc : Ch M w w') (hM : ∀ k ∈ bO ad, ¬ M k) : Win enc e sz lo w' ad c xs := by
 rcases h with h | ⟨g, off, cur, rfl, hlo, hg, r⟩
 ·exact .inl h
 ·refine .inr ⟨g, off, cur, rfl, hlo, ?_, r⟩
  rw [hc.block g (Array.getElem?_eq_some_iff.1 hg).1 (hM g (by simp [bO]))]
  exact hg
theorem Win.below (h : Win enc e sz lo w ad c xs) (hb : Below w.heap.size w w') : Win enc e sz lo w' ad c xs := h.ch (M := fun _ => False) (Ch.of_below hb) (fun _ _ h => h)
theorem Win.alloc (h : Win enc e sz lo w ad c xs) (o : Obj) : Win enc e sz lo (w.alloc o) ad c xs := h.below (bA)
theorem Win.drew (h : Win enc e sz lo w ad c xs) : Win enc e sz lo w.drew ad c xs := h.below ((Below.refl _ _).drew)
theorem Win.low {lo' : Nat} (h : Win enc e sz lo w ad c xs) (hl : lo' ≤ lo) : Win enc e sz lo' w ad c xs := by
 rcases h with h | ⟨g, off, cur, r1, r2, r3⟩
 ·exact .inl h
 ·exact .inr ⟨g, off, cur, r1, Nat.le_trans hl r2, r3⟩
theorem Win.cells (h : Win enc e sz lo w ad c xs) (h0 : xs ≠ []) : ∃ g off, ad = some ⟨g, off, none⟩ ∧ g < w.heap.size ∧ ∀ j u, (xs.flatMap enc)[j]? = some u → w.cell? ⟨g, off + j, none⟩ = some u := by
 rcases h with ⟨_, _, rfl⟩ | ⟨g, off, cur, rfl, hlo, hg, h1, h2, _, h3⟩
 ·exact absurd rfl h0
 ·refine ⟨g, off, rfl, (Array.getElem?_eq_some_iff.1 hg).1, fun j u hu => ?_⟩
  rw [← h3, List.getElem?_take] at hu
  split at hu
  ·rw [List.getElem?_drop] at hu
   rw [cell_of_row w g _ cur e (0, 0) hg]
   simpa using hu
  ·cases hu
theorem Win.sl (hs : ∀ x, (enc x).length = sz) (h : Win enc e sz lo w ad c xs) : Sl enc sz w ad xs := by
 by_cases h0 : xs = []
 ·exact .inl h0
 ·obtain ⟨g, off, rfl, hlt, hc⟩ := h.cells h0
  refine .inr ⟨g, off, rfl, hlt, fun i hi j hj => ?_⟩
  have h1 := Zc0 enc sz hs xs i hi j hj
  have hlt : j < (enc xs[i]).length := by rw [hs]; exact hj
  rw [List.getElem?_eq_getElem hlt] at h1 ⊢
  have := hc _ _ h1
  rwa [← Nat.add_assoc] at this
theorem Fr.win {hi n : Nat} (h : Fr enc e sz lo hi (.slice ad n c) xs w) : Win enc e sz lo w ad c xs := by
 obtain ⟨⟨a', cap', hv, h1, h2⟩, h3⟩ := h
 cases hv
 rcases h2.2 with ⟨hv, hn⟩ | ⟨g, cap, cur, hv, hbg, hg, hnc, hcm, hcs, htake⟩
 ·simp only [Value.slice.injEq] at hv
  obtain ⟨rfl, _, rfl⟩ := hv
  exact .inl ⟨rfl, rfl, List.eq_nil_of_length_eq_zero hn⟩
 ·simp only [Value.slice.injEq] at hv
  obtain ⟨rfl, _, rfl⟩ := hv
  exact .inr ⟨g, 0, cur, rfl, hbg, hg, hnc, by omega, hcm, by simpa using htake⟩
theorem Win.tail {x : α} {g off : Nat} (hs : ∀ x, (enc x).length = sz) (h : Win enc e sz lo w (some ⟨g, off, none⟩) c (x :: xs)) : Win enc e sz lo w (some ⟨g, off + sz, none⟩) (c - 1) xs := by
 rcases h with ⟨h, _⟩ | ⟨g', off', cur, he, hlo, hg, h1, h2, h4, h3⟩
 ·cases h
 ·cases he
  simp only [List.length_cons] at h1 h3
  have e1 : c * sz = (c - 1) * sz + sz := by rw [← Nat.succ_mul]; congr 1; omega
  refine .inr ⟨g, off + sz, cur, rfl, hlo, hg, by omega, by omega, by omega, ?_⟩
  have h5 := congrArg (List.drop sz) h3
  rw [List.drop_take, List.drop_drop, List.flatMap_cons, List.drop_left' (hs x)] at h5
  rw [← h5]
  congr 1
  rw [Nat.succ_mul]
  omega
theorem Win.pre {ys : List α} (hs : ∀ x, (enc x).length = sz) (h : Win enc e sz lo w ad c (xs ++ ys)) : Win enc e sz lo w ad c xs := by
 rcases h with ⟨h1, h2, h3⟩ | ⟨g, off, cur, h1, hlo, hg, h2, h3, h4, h5⟩
 ·exact .inl ⟨h1, h2, (List.append_eq_nil_iff.1 h3).1⟩
 ·refine .inr ⟨g, off, cur, h1, hlo, hg, by simp at h2; omega, h3, h4, ?_⟩
  have h6 := congrArg (List.take (xs.length * sz)) h5
  rw [List.take_take, List.length_append, Nat.add_mul, Nat.min_eq_left (by omega), List.flatMap_append, ← fL enc sz hs xs, List.take_left] at h6
  rwa [fL enc sz hs xs] at h6
theorem Zm1 {P : Program} (t tx ty : TypeId) (i : TypeInfo) (z : Value) (bytes : Nat) (ht : P.underlying t = some (.slice e)) (hi : P.info? e = some i) (hz : i.zero = some z)
 (hsize : i.size = sz) (hby : i.bytes = bytes) (hzs : z.cells.size = sz) (hbp : 0 < bytes) (hs : ∀ x, (enc x).length = sz)
 (hw : Win enc e sz lo w ad c xs) (x : Value) (ys : List α) (hsrc : Src P sz tx x ys.length (ys.flatMap enc) w)
 (hbytes : (xs.length + ys.length) * bytes ≤ 140737488355328) (hlo : lo ≤ w.heap.size) :
 ∃ a' c' w', (Builtin.append_ #[t, tx] ty #[.slice ad xs.length c, x]).run P w = .ok (.slice a' (xs ++ ys).length c') w' ∧ Win enc e sz lo w' a' c' (xs ++ ys) ∧ Ch (· ∈ bO ad) w w' ∧ (∀ k ∈ bO a', k ∈ bO ad ∨ k = w.heap.size) ∧ Win enc e sz lo w' ad c xs ∧ ((a' = ad ∧ c' = c) ∨ ∀ k ∈ bO a', k = w.heap.size) := by
 subst hsize
 subst hby
 have hnl := hsrc.newsLen
 have h63 : xs.length + ys.length ≤ maxLen := by
  have : xs.length + ys.length ≤ (xs.length + ys.length) * i.bytes := Nat.le_mul_of_pos_right _ hbp
  unfold maxLen; omega
 have hsmall : ((xs.length + ys.length : Nat) : Int) ≤ 9223372036854775807 := by simp only [maxLen] at h63; omega
 have hlen := fL enc i.size hs (xs ++ ys)
 have hfl : xs.flatMap enc ++ ys.flatMap enc = (xs ++ ys).flatMap enc := by rw [List.flatMap_append]
 have hll : (xs ++ ys).length = xs.length + ys.length := by simp
 have grown : ∀ (old : Nat) (hr : (Builtin.append_ #[t, tx] ty #[.slice ad xs.length c, x]).run P w = .ok (.slice (some ⟨w.heap.size, 0, none⟩) (xs.length + ys.length) (grownCap w (xs.length + ys.length) old e)) (w.drew.alloc (.cells ((xs.flatMap enc ++ ys.flatMap enc).toArray ++ Builtin.zeroCells z.cells (grownCap w (xs.length + ys.length) old e - (xs.length + ys.length))) e))),
  ∃ a' c' w', (Builtin.append_ #[t, tx] ty #[.slice ad xs.length c, x]).run P w = .ok (.slice a' (xs ++ ys).length c') w' ∧ Win enc e i.size lo w' a' c' (xs ++ ys) ∧ Ch (· ∈ bO ad) w w' ∧ (∀ k ∈ bO a', k ∈ bO ad ∨ k = w.heap.size) ∧ Win enc e i.size lo w' ad c xs ∧ ((a' = ad ∧ c' = c) ∨ ∀ k ∈ bO a', k = w.heap.size) := by
  intro old hr
  have hge := grownCap_ge w (xs.length + ys.length) old e
  have hcm : grownCap w (xs.length + ys.length) old e ≤ maxLen := grownCap_le_maxLen w (xs.length + ys.length) old e h63
  refine ⟨_, _, _, by rw [hll]; exact hr, .inr ⟨w.heap.size, 0, _, rfl, hlo, heap_alloc_new w.drew _, by rw [hll]; exact hge, ?_, hcm, ?_⟩, (Ch.refl.drew).alloc _, fun k hk => .inr (by simpa [bO] using hk), hw.ch (M := fun _ => False) ((Ch.refl.drew).alloc _) (fun _ _ h => h), .inr (fun k hk => by simpa [bO] using hk)⟩
  ·simp only [Array.size_append, List.size_toArray, size_zeroCells, hzs]
   rw [hfl, hlen, hll, ← Nat.add_mul, Nat.zero_add]
   exact Nat.mul_le_mul_right _ (by omega)
  ·rw [List.drop_zero, ← hlen, ← hfl, Array.toList_append]
   exact List.take_left
 by_cases h0 : xs = [] ∧ ad = none
 ·obtain ⟨rfl, rfl⟩ := h0
  obtain rfl : c = 0 := by
   rcases hw with ⟨_, h, _⟩ | ⟨_, _, _, h, _⟩
   ·exact h
   ·cases h
  by_cases hm : ys.length = 0
  ·obtain rfl : ys = [] := List.eq_nil_of_length_eq_zero hm
   exact ⟨none, 0, w, run_append_nothing w t tx ty e i ht hi none 0 0 (Nat.le_refl _) x hsrc, .inl ⟨rfl, rfl, rfl⟩, Ch.refl, fun k hk => .inl hk, .inl ⟨rfl, rfl, rfl⟩, .inl ⟨rfl, rfl⟩⟩
  ·have hr := run_append_grow_src (P := P) w t tx ty e i z ht hi hz none 0 0 [] (run_firstCells_none w.drew i.size 0 0 0) x ys.length (ys.flatMap enc) hsrc (by omega) (by simpa using hsmall) (growslice_fits (by omega) (by simpa using hbytes))
   exact grown 0 (by simpa using hr)
 ·have hw' := hw
  rcases hw' with ⟨h1, _, h2⟩ | ⟨g, off, cur, rfl, hlo', hg, h1, h2, h4, h3⟩
  ·exact absurd ⟨h2, h1⟩ h0
  ·by_cases hroom : xs.length + ys.length ≤ c
   ·have hk : (xs.length + ys.length) * i.size ≤ c * i.size := Nat.mul_le_mul_right _ hroom
    rw [Nat.add_mul] at hk
    have hcl : ∀ j, j < (ys.flatMap enc).length → (w.cell? ⟨g, off + xs.length * i.size + j, none⟩).isSome = true := by
     intro j hj
     rw [cell_of_row w g _ cur e (0, 0) hg, Array.getElem?_eq_getElem (by omega)]
     rfl
    have hf : ∀ j, j < (ys.flatMap enc).length → w.frozen? ⟨g, off + xs.length * i.size + j, none⟩ = false := fun j hj => frozen_of_row w g _ cur e hg
    have hr := run_append_room_src (P := P) w t tx ty e i ht hi g off xs.length c x ys.length (ys.flatMap enc) hsrc hroom hcl hf
    obtain ⟨cur', k1, k2, k3⟩ := Ze7 g e (ys.flatMap enc) (off + xs.length * i.size) w cur hg (by omega)
    have hgr := Zc3 g (ys.flatMap enc) (off + xs.length * i.size) w
    refine ⟨_, _, _, by rw [hll]; exact hr, .inr ⟨g, off, cur', rfl, hlo', k1, by rw [hll]; exact hroom, by omega, h4, ?_⟩, ⟨hgr.os, hgr.tape, hgr.output, hgr.size, fun k hk hne => hgr.block k hk (fun e => hne (by cases e; simp [bO]))⟩, fun k hk => .inl hk, .inr ⟨g, off, cur', rfl, hlo', k1, h1, by omega, h4, ?_⟩, .inl ⟨rfl, rfl⟩⟩
    rotate_left
    ·have hcl0 : cur.toList.length = cur.size := Array.length_toList
     have k5 := congrArg (List.take (off + xs.length * i.size)) k3
     rw [List.take_take, Nat.min_eq_left (by omega), List.take_append_of_le_length (by rw [List.length_take]; omega), List.take_take, Nat.min_self] at k5
     have k6 := congrArg (List.drop off) k5
     rw [List.drop_take, List.drop_take, show off + xs.length * i.size - off = xs.length * i.size by omega, h3] at k6
     exact k6
    have e1 : (xs ++ ys).length * i.size = xs.length * i.size + (ys.flatMap enc).length := by rw [hll, Nat.add_mul, hnl]
    have hcl0 : cur.toList.length = cur.size := Array.length_toList
    have k4 := congrArg (List.drop off) k3
    rw [List.drop_take, show off + xs.length * i.size + (ys.flatMap enc).length - off = xs.length * i.size + (ys.flatMap enc).length by omega, List.drop_append_of_le_length (by rw [List.length_take]; omega), List.drop_take, show off + xs.length * i.size - off = xs.length * i.size by omega, h3] at k4
    rw [e1, k4, hfl]
   ·have holds : ∀ j u, (xs.flatMap enc)[j]? = some u → w.drew.cell? ((⟨g, off, none⟩ : Addr).add j) = some u := by
     intro j u hu
     rw [← h3, List.getElem?_take] at hu
     split at hu
     ·rw [List.getElem?_drop] at hu
      rw [Addr.add_lit, World.cell?_drew, cell_of_row w g _ cur e (0, 0) hg]
      simpa using hu
     ·cases hu
    have hr := run_append_grow_src (P := P) w t tx ty e i z ht hi hz (some ⟨g, off, none⟩) xs.length c (xs.flatMap enc) (run_firstCells_some w.drew i.size xs.length ⟨g, off, none⟩ xs.length c (xs.flatMap enc) (fL enc i.size hs xs) holds) x ys.length (ys.flatMap enc) hsrc (by omega) hsmall (growslice_fits (by omega) hbytes)
    exact grown c hr
theorem Ze5 {P : Program} {o : Oper} {a : Act} {K : Act → World → Prop} {Q : Exit → Act → World → Prop} (s x : Operand) (t tx : TypeId)
 (i : TypeInfo) (z : Value) (bytes : Nat) (ht : P.underlying t = some (.slice e)) (hi : P.info? e = some i) (hz : i.zero = some z)
 (hsize : i.size = sz) (hby : i.bytes = bytes) (hzs : z.cells.size = sz) (hbp : 0 < bytes) (hs : ∀ x, (enc x).length = sz)
 (n : Nat) (hn : xs.length = n) (hw : Win enc e sz lo w ad c xs) (xv : Value) (ys : List α) (hsrc : Src P sz tx xv ys.length (ys.flatMap enc) w)
 (hbytes : (xs.length + ys.length) * bytes ≤ 140737488355328) (hlo : lo ≤ w.heap.size)
 (ho : o.op = .call { callee := .builtin .append, args := #[s, x], argTypes := #[t, tx] }) (hv : a.eval s = .slice ad n c) (hx : a.eval x = xv)
 (h : ∀ a' c' w' us, Hid (us = xs ++ ys) → Win enc e sz lo w' a' c' us → Ch (· ∈ bO ad) w w' → (∀ k ∈ bO a', k ∈ bO ad ∨ k = w.heap.size) → Win enc e sz lo w' ad c xs → ((a' = ad ∧ c' = c) ∨ ∀ k ∈ bO a', k = w.heap.size) → K (a.put o.dst (.slice a' us.length c')) w') : Oper.wp P o a w K Q := by
 subst hn
 obtain ⟨a', c', w', hr, k1, k2, k3, k4, k5⟩ := Zm1 (P := P) t tx o.type i z bytes ht hi hz hsize hby hzs hbp hs hw xv ys hsrc hbytes hlo
 unfold Oper.wp execOp
 simp only [ho, resolve, invoke, builtin, Sem.run_bind, Sem.run_pure, Result.andThen_ok, List.map_toArray, List.map_cons, List.map_nil, hv, hx, hr]
 exact h a' c' w' _ rfl k1 k2 k3 k4 k5
theorem Yd7 (hs : ∀ x, (enc x).length = sz) (k : Nat) : (xs.flatMap enc).take (k * sz) = (xs.take k).flatMap enc := by
 induction xs generalizing k with
 | nil => simp
 | cons x xs ih =>
   cases k with
   | zero => simp
   | succ k =>
     rw [List.take_succ_cons, List.flatMap_cons, List.flatMap_cons, Nat.succ_mul, Nat.add_comm (k * sz) sz, ← hs x, List.take_length_add_append, hs x, ih]
theorem Yg9 (hs : ∀ x, (enc x).length = sz) (k : Nat) : (xs.flatMap enc).drop (k * sz) = (xs.drop k).flatMap enc := by
 induction xs generalizing k with
 | nil => simp
 | cons x xs ih =>
   cases k with
   | zero => simp
   | succ k =>
     rw [List.drop_succ_cons, List.flatMap_cons, Nat.succ_mul, Nat.add_comm (k * sz) sz, ← hs x, List.drop_length_add_append, hs x, ih]
theorem Zg4 {P : Program} {hi n g c dLen dCap sLen sCap off : Nat} {dp sp : Option Addr} (dT sT ty elem : TypeId) (hu : P.underlying dT = some (.slice elem)) (hsz : (P.info? elem).map (·.size) = some sz) (hs : ∀ x, (enc x).length = sz) (h1 : ∀ x, ∀ u ∈ enc x, u.oneCell' = true)
 (hF : Fr enc e sz lo hi (.slice (some ⟨g, 0, none⟩) n c) xs w) (ys : List α) (hn : ys.length = Nat.min sLen dLen)
 (hpos : 0 < ys.length → dp = some ⟨g, off * sz, none⟩ ∧ Sl enc sz w sp ys) (hfit : off + ys.length ≤ xs.length) :
 ∃ w', (Builtin.copy_ #[dT, sT] ty #[.slice dp dLen dCap, .slice sp sLen sCap]).run P w = .ok (goInt ys.length) w' ∧ Fr enc e sz lo hi (.slice (some ⟨g, 0, none⟩) n c) (splice xs off ys) w' ∧ Ch (· = g) w w' := by
 have hi0 : ∃ i, P.info? elem = some i ∧ i.size = sz := by
  cases hq : P.info? elem with
  | none => rw [hq] at hsz; cases hsz
  | some i => exact ⟨i, rfl, by simpa [hq] using hsz⟩
 obtain ⟨i, hq, his⟩ := hi0
 by_cases h0 : ys.length = 0
 ·obtain rfl : ys = [] := List.eq_nil_of_length_eq_zero h0
  refine ⟨w, ?_, ?_, Ch.refl⟩
  ·have hm : Nat.min sLen dLen = 0 := by simpa using hn.symm
   have hl0 : ∀ a, (loadCells a 0).run P w = .ok #[] w := fun a => run_loadCells_list (P := P) w a [] (by simp)
   cases dp <;> cases sp <;> simp [Builtin.copy_, run_underlying hu, Builtin.lenOf, Builtin.firstCells, sizeOf, typeInfo, hq, hm, hl0, storeCells]
  ·have : splice xs off [] = xs := by simp [splice]
   rw [this]
   exact hF
 obtain ⟨hdp, hsl⟩ := hpos (by omega)
 subst hdp
 have hyn : ys ≠ [] := fun e => h0 (by rw [e]; rfl)
 obtain ⟨b, so, hsp, hblt, hcells⟩ : ∃ b so, sp = some ⟨b, so, none⟩ ∧ b < w.heap.size ∧ ∀ j v, (ys.flatMap enc)[j]? = some v → w.cell? ((⟨b, so, none⟩ : Addr).add j) = some v := by
  rcases hsl with h | ⟨b, so, rfl, hlt, hc⟩
  ·exact absurd h hyn
  ·refine ⟨b, so, rfl, hlt, fun j v hv => ?_⟩
   have hj : j < ys.length * sz := by rw [← fL enc sz hs ys]; exact (List.getElem?_eq_some_iff.1 hv).1
   have hszp : 0 < sz := by
    rcases Nat.eq_zero_or_pos sz with h | h
    ·rw [h] at hj; simp at hj
    ·exact h
   have hq1 : j / sz < ys.length := Nat.div_lt_of_lt_mul (by rw [Nat.mul_comm]; exact hj)
   have hr1 : j % sz < sz := Nat.mod_lt _ hszp
   have hj' : j = j / sz * sz + j % sz := by rw [Nat.mul_comm]; exact (Nat.div_add_mod j sz).symm
   have k2 := hc (j / sz) hq1 (j % sz) hr1
   have k3 := Zc0 enc sz hs ys (j / sz) hq1 (j % sz) hr1
   rw [← hj', hv] at k3
   rw [← k3] at k2
   have hadd : (⟨b, so, none⟩ : Addr).add j = ⟨b, so + j / sz * sz + j % sz, none⟩ := by
    rw [Addr.add_lit, Nat.add_assoc, ← hj']
   rw [hadd, k2]
 subst hsp
 obtain ⟨⟨a', cap', hv, hle, ho⟩, hup⟩ := hF
 cases hv
 obtain ⟨hol, ho2⟩ := ho
 rcases ho2 with ⟨hv, _⟩ | ⟨g', cap, cur, hv, hbg, hg, hnc, hcm, hcs, htake⟩
 ·cases hv
 ·cases hv
  have hyl := fL enc sz hs ys
  have hfl2 : (off + ys.length) * sz ≤ xs.length * sz := Nat.mul_le_mul_right _ hfit
  have hnc2 : xs.length * sz ≤ c * sz := Nat.mul_le_mul_right _ hnc
  rw [Nat.add_mul] at hfl2
  have hl := run_loadCells_list (P := P) w ⟨b, so, none⟩ (ys.flatMap enc) hcells
  have hone : ∀ v ∈ ys.flatMap enc, v.oneCell' = true := fun v hv => by
   obtain ⟨x, _, hx⟩ := List.mem_flatMap.1 hv
   exact h1 x v hx
  have hst := run_storeCells_at P g (off * sz) e (ys.flatMap enc) 0 cur w hg (by omega) hone
  rw [hyl] at hl
  have hrun : (Builtin.copy_ #[dT, sT] ty #[.slice (some ⟨g, off * sz, none⟩) dLen dCap, .slice (some ⟨b, so, none⟩) sLen sCap]).run P w = .ok (goInt ys.length) (w.setRow g (cur.toList.take (off * sz + 0) ++ ys.flatMap enc ++ cur.toList.drop (off * sz + 0 + (ys.flatMap enc).length)).toArray) := by
   simp [Builtin.copy_, run_underlying hu, Builtin.lenOf, Builtin.firstCells, sizeOf, typeInfo, hq, his, ← hn, hl, hst]
  refine ⟨_, hrun, ?_, ⟨rfl, rfl, rfl, by simp [World.setRow], fun k _ hk => setRow_other w g k _ hk⟩⟩
  refine ⟨⟨_, _, by rw [length_splice _ _ _ hfit], by rw [length_splice _ _ _ hfit]; exact hle, ?_, .inr ⟨g, c, _, rfl, hbg, setRow_heap w g cur _ e _ hg, by rw [length_splice _ _ _ hfit]; exact hnc, hcm, ?_, ?_⟩⟩, fun k hk => hup k (by simpa [Value.ownBlock] using hk)⟩
  ·rw [fL enc sz hs]
  ·simp only [List.size_toArray, List.length_append, List.length_take, List.length_drop, Array.length_toList]
   omega
  ·have e1 : cur.toList.take (off * sz) = (xs.take off).flatMap enc := by
    rw [← Yd7 hs, ← htake, List.take_take, Nat.min_eq_left (by omega)]
   have e2 : (cur.toList.drop (off * sz + (ys.flatMap enc).length)).take (xs.length * sz - (off * sz + (ys.flatMap enc).length)) = (xs.drop (off + ys.length)).flatMap enc := by
    rw [← Yg9 hs, ← htake, List.drop_take, hyl, Nat.add_mul]
   rw [length_splice _ _ _ hfit]
   simp only [Nat.add_zero, List.toList_toArray, splice, List.flatMap_append]
   rw [← e1, ← e2, List.append_assoc, List.take_append, List.take_append]
   have hcl0 : cur.toList.length = cur.size := Array.length_toList
   have hl1 : (cur.toList.take (off * sz)).length = off * sz := by rw [List.length_take]; omega
   rw [List.take_of_length_le (by omega)]
   congr 1
   rw [hl1, List.take_of_length_le (by omega)]
   congr 2
   omega
theorem sCf {P : Program} {o : Oper} {a : Act} {K : Act → World → Prop} {Q : Exit → Act → World → Prop} {hi n g c dLen dCap sLen sCap off : Nat} {dp sp : Option Addr} (d s : Operand) (dT sT elem : TypeId) (hu : P.underlying dT = some (.slice elem)) (hsz : (P.info? elem).map (·.size) = some sz) (hs : ∀ x, (enc x).length = sz) (h1 : ∀ x, ∀ u ∈ enc x, u.oneCell' = true)
 (hF : Fr enc e sz lo hi (.slice (some ⟨g, 0, none⟩) n c) xs w) (ys : List α) (hn : ys.length = Nat.min sLen dLen)
 (hpos : 0 < ys.length → dp = some ⟨g, off * sz, none⟩ ∧ Sl enc sz w sp ys) (hfit : off + ys.length ≤ xs.length)
 (ho : o.op = .call { callee := .builtin .copy, args := #[d, s], argTypes := #[dT, sT] }) (hd : a.eval d = .slice dp dLen dCap) (hv : a.eval s = .slice sp sLen sCap)
 (h : ∀ w', Fr enc e sz lo hi (.slice (some ⟨g, 0, none⟩) n c) (splice xs off ys) w' → Ch (· = g) w w' → K (a.put o.dst (goInt ys.length)) w') : Oper.wp P o a w K Q := by
 obtain ⟨w', hr, k1, k2⟩ := Zg4 (P := P) dT sT o.type elem hu hsz hs h1 hF ys hn hpos hfit
 unfold Oper.wp execOp
 simp only [ho, resolve, invoke, builtin, Sem.run_bind, Sem.run_pure, Result.andThen_ok, List.map_toArray, List.map_cons, List.map_nil, hd, hv]
 rw [hr]
 exact h w' k1 k2
end
end
section
abbrev Cl := Int × Int
def Za0 (c : Cl) : List Value := [.int .i64 c.1, .int .i64 c.2]
structure Scr where
 w : Nat
 h : Nat
 x : Nat
 y : Nat
 look : Nat
 top : Nat
 bot : Nat
 sx : Nat
 sy : Nat
 title : ByteArray
 cells : List Cl
 hist : List ByteArray
def blank : Cl := (32, 0)
def bL (n : Nat) : List Cl := List.replicate n blank
def trimC (l : List Cl) : List Cl := (l.reverse.dropWhile (fun c => c.1 == 32)).reverse
def rowL (l : List Cl) : List UInt8 := (trimC l).flatMap fun c => utfB c.1.toNat
def rowC (s : Scr) (y : Nat) : List Cl := (s.cells.drop (y * s.w)).take s.w
def rowT (s : Scr) (y : Nat) : ByteArray := ⟨(rowL (rowC s y)).toArray⟩
def pushH (l : List ByteArray) (r : ByteArray) : List ByteArray := if 6 < (l ++ [r]).length then (l ++ [r]).tail else l ++ [r]
def up1 (w a b : Nat) (l : List Cl) : List Cl := l.take (a * w) ++ ((l.drop ((a + 1) * w)).take ((b - a) * w) ++ (bL w ++ l.drop ((b + 1) * w)))
def dn1 (w a b : Nat) (l : List Cl) : List Cl := l.take (a * w) ++ (bL w ++ ((l.drop (a * w)).take ((b - a) * w) ++ l.drop ((b + 1) * w)))
def scU1 (keep : Bool) (a b : Nat) (s : Scr) : Scr := { s with cells := up1 s.w a b s.cells, hist := if a = 0 ∧ keep = true then pushH s.hist (rowT s 0) else s.hist }
def scU (keep : Bool) (a b : Nat) : Nat → Scr → Scr
 | 0, s => s
 | n + 1, s => scU1 keep a b (scU keep a b n s)
def scD1 (a b : Nat) (s : Scr) : Scr := { s with cells := dn1 s.w a b s.cells }
def scD (a b : Nat) : Nat → Scr → Scr
 | 0, s => s
 | n + 1, s => scD1 a b (scD a b n s)
def clrL (f t : Nat) (l : List Cl) : List Cl := l.take f ++ (bL (t - f) ++ l.drop t)
def clr (f t : Nat) (s : Scr) : Scr := { s with cells := clrL f t s.cells }
def downS (s : Scr) : Scr := if s.y = s.bot then scU true s.top s.bot 1 s else { s with y := min (s.h - 1) (s.y + 1) }
def upS (s : Scr) : Scr := if s.y = s.top then scD s.top s.bot 1 s else { s with y := s.y - 1 }
def wrapS (s : Scr) : Scr := if s.x = s.w then downS { s with x := 0 } else s
def putS (s : Scr) (n : Int) : Scr := { s with cells := s.cells.set (s.y * s.w + s.x) (n, (s.look : Int)), x := s.x + 1 }
def Zh5 (s : Scr) (n : Int) : Scr := putS (wrapS s) n
def ctlS (s : Scr) (n : Int) : Scr :=
 if n = 8 then { s with x := min s.x (s.w - 1) - 1 } else if n = 9 then { s with x := min (s.w - 1) ((s.x / 8 + 1) * 8) }
 else if n = 10 then downS s else if n = 13 then { s with x := 0 } else s
def newS (w h : Nat) : Scr := ⟨w, h, 0, 0, 0, 0, h - 1, 0, 0, e0, bL (w * h), []⟩
def escS (s : Scr) (n : Int) : Scr :=
 if n = 55 then { s with sx := s.x, sy := s.y } else if n = 56 then { s with x := s.sx, y := s.sy } else if n = 68 then downS s
 else if n = 69 then downS { s with x := 0 } else if n = 77 then upS s else if n = 99 then { newS s.w s.h with hist := s.hist } else s
def lookN (l : Nat) (n : Int) : Nat :=
 if n ≤ 0 then 0 else if n = 1 then l ||| 64 else if n = 4 then l ||| 32 else if n = 7 then l ||| 16
 else if 30 ≤ n ∧ n ≤ 37 then (l &&& 112) ||| (n - 29).toNat else if n = 39 then l &&& 112 else l
def argA (xs : List Int) (i : Nat) (d : Int) : Int := if h : i < xs.length then (if xs[i] < 0 then d else xs[i]) else d
def arg1 (xs : List Int) (i : Nat) : Nat := max 1 (argA xs i 1).toNat
def curS (s : Scr) : Nat := s.y * s.w + min s.x (s.w - 1)
def eraS (s : Scr) (n : Int) (f t : Nat) : Scr :=
 if n = 0 then clr (curS s) t s else if n = 1 then clr f (curS s + 1) s else if n = 2 then clr f t s else s
def csiS (s : Scr) (c : Int) (xs : List Int) : Scr :=
 if c = 65 then { s with y := s.y - arg1 xs 0 }
 else if c = 66 then { s with y := min (s.h - 1) (s.y + arg1 xs 0) }
 else if c = 67 then { s with x := min (s.w - 1) (s.x + arg1 xs 0) }
 else if c = 68 then { s with x := min s.x (s.w - 1) - arg1 xs 0 }
 else if c = 72 ∨ c = 102 then { s with y := min s.h (arg1 xs 0) - 1, x := min s.w (arg1 xs 1) - 1 }
 else if c = 74 then eraS s (argA xs 0 0) 0 (s.w * s.h)
 else if c = 75 then eraS s (argA xs 0 0) (s.y * s.w) ((s.y + 1) * s.w)
 else if c = 76 then (if s.top ≤ s.y ∧ s.y ≤ s.bot then { scD s.y s.bot (min (arg1 xs 0) (s.bot - s.y + 1)) s with x := 0 } else s)
 else if c = 77 then (if s.top ≤ s.y ∧ s.y ≤ s.bot then { scU false s.y s.bot (min (arg1 xs 0) (s.bot - s.y + 1)) s with x := 0 } else s)
 else if c = 83 then scU true s.top s.bot (min (arg1 xs 0) (s.bot - s.top + 1)) s
 else if c = 84 then scD s.top s.bot (min (arg1 xs 0) (s.bot - s.top + 1)) s
 else if c = 109 then { s with look := xs.foldl lookN s.look }
 else if c = 114 then (if arg1 xs 0 < min s.h (argA xs 1 s.h).toNat then { s with top := arg1 xs 0 - 1, bot := min s.h (argA xs 1 s.h).toNat - 1, x := 0, y := 0 } else s)
 else s
def actS (s : Scr) (a : AV) : Scr :=
 if a.kind = 1 then Zh5 s a.n else if a.kind = 2 then ctlS s a.n else if a.kind = 3 then escS s a.n
 else if a.kind = 4 then (if a.priv = true then s else csiS s a.n a.args) else if a.kind = 5 then { s with title := a.text } else s
def actsS (s : Scr) (l : List AV) : Scr := l.foldl actS s
def celOK (c : Cl) : Prop := rnOK c.1 ∧ 0 ≤ c.2 ∧ c.2 ≤ 127
structure sK (s : Scr) : Prop where
 w1 : 2 ≤ s.w
 w2 : s.w ≤ 24
 h1 : 2 ≤ s.h
 h2 : s.h ≤ 10
 hx : s.x ≤ s.w
 hy : s.y < s.h
 lk : s.look ≤ 127
 tb : s.top < s.bot
 bh : s.bot < s.h
 hsx : s.sx ≤ s.w
 hsy : s.sy < s.h
 ti : titB s.title = true
 cn : s.cells.length = s.w * s.h
 cs : ∀ c ∈ s.cells, celOK c
 hn : s.hist.length ≤ 6
 hs : ∀ t ∈ s.hist, t.size ≤ 96
theorem Zw8 : celOK blank := ⟨⟨by decide, by decide, by decide, by decide⟩, by decide, by decide⟩
theorem Zc1 {n : Nat} : ∀ c ∈ bL n, celOK c := fun c h => by rw [(List.mem_replicate.1 h).2]; exact Zw8
theorem Zh4 {α : Type} (p : α → Bool) : ∀ l : List α, (l.dropWhile p).length ≤ l.length
 | [] => Nat.le_refl _
 | a :: l => by
   rw [List.dropWhile_cons]
   split
   ·exact Nat.le_succ_of_le (Zh4 p l)
   ·exact Nat.le_refl _
theorem Yf5 (l : List Cl) : (trimC l).length ≤ l.length := by
 have := Zh4 (fun c : Cl => c.1 == 32) l.reverse
 simpa [trimC] using this
theorem Zk0 : ∀ l : List Cl, (l.flatMap fun c => utfB c.1.toNat).length ≤ 4 * l.length
 | [] => Nat.le_refl _
 | c :: l => by
   rw [List.flatMap_cons, List.length_append, List.length_cons]
   have h1 := Zz7 c.1.toNat
   have h2 := Zk0 l
   omega
theorem Ye4 (s : Scr) (y : Nat) : (rowT s y).size ≤ 4 * s.w := by
 have h1 := Zk0 (trimC (rowC s y))
 have h2 := Yf5 (rowC s y)
 have h3 : (rowC s y).length ≤ s.w := by simp only [rowC, List.length_take]; omega
 show (rowL (rowC s y)).toArray.size ≤ _
 rw [List.size_toArray]
 unfold rowL
 omega
theorem Za2 {a b w : Nat} (h : a ≤ b) : a * w ≤ b * w := Nat.mul_le_mul_right w h
theorem up1_len {w a b n : Nat} {l : List Cl} (hl : l.length = w * n) (hab : a ≤ b) (hb : b < n) : (up1 w a b l).length = w * n := by
 have h1 : (b + 1) * w ≤ n * w := Za2 (by omega)
 have h2 : a * w ≤ b * w := Za2 hab
 have e1 : (a + 1) * w = a * w + w := Nat.succ_mul a w
 have e2 : (b + 1) * w = b * w + w := Nat.succ_mul b w
 have e3 : (b - a) * w = b * w - a * w := Nat.sub_mul b a w
 have e4 : w * n = n * w := Nat.mul_comm w n
 simp only [up1, bL, List.length_append, List.length_take, List.length_drop, List.length_replicate, hl]
 omega
theorem dn1_len {w a b n : Nat} {l : List Cl} (hl : l.length = w * n) (hab : a ≤ b) (hb : b < n) : (dn1 w a b l).length = w * n := by
 have h1 : (b + 1) * w ≤ n * w := Za2 (by omega)
 have h2 : a * w ≤ b * w := Za2 hab
 have e2 : (b + 1) * w = b * w + w := Nat.succ_mul b w
 have e3 : (b - a) * w = b * w - a * w := Nat.sub_mul b a w
 have e4 : w * n = n * w := Nat.mul_comm w n
 simp only [dn1, bL, List.length_append, List.length_take, List.length_drop, List.length_replicate, hl]
 omega
theorem Ya1 {f t : Nat} {l : List Cl} (hf : f ≤ t) (ht : t ≤ l.length) : (clrL f t l).length = l.length := by
 simp only [clrL, bL, List.length_append, List.length_take, List.length_drop, List.length_replicate]
 omega
theorem up1_ok {w a b : Nat} {l : List Cl} (h : ∀ c ∈ l, celOK c) : ∀ c ∈ up1 w a b l, celOK c := by
 intro c hc
 simp only [up1, List.mem_append] at hc
 rcases hc with hc | hc | hc | hc
 ·exact h c (List.mem_of_mem_take hc)
 ·exact h c (List.mem_of_mem_drop (List.mem_of_mem_take hc))
 ·exact Zc1 c hc
 ·exact h c (List.mem_of_mem_drop hc)
theorem dn1_ok {w a b : Nat} {l : List Cl} (h : ∀ c ∈ l, celOK c) : ∀ c ∈ dn1 w a b l, celOK c := by
 intro c hc
 simp only [dn1, List.mem_append] at hc
 rcases hc with hc | hc | hc | hc
 ·exact h c (List.mem_of_mem_take hc)
 ·exact Zc1 c hc
 ·exact h c (List.mem_of_mem_drop (List.mem_of_mem_take hc))
 ·exact h c (List.mem_of_mem_drop hc)
theorem clrL_ok {f t : Nat} {l : List Cl} (h : ∀ c ∈ l, celOK c) : ∀ c ∈ clrL f t l, celOK c := by
 intro c hc
 simp only [clrL, List.mem_append] at hc
 rcases hc with hc | hc | hc
 ·exact h c (List.mem_of_mem_take hc)
 ·exact Zc1 c hc
 ·exact h c (List.mem_of_mem_drop hc)
theorem pushH_ok {l : List ByteArray} {r : ByteArray} (h1 : l.length ≤ 6) (h2 : ∀ t ∈ l, t.size ≤ 96) (h3 : r.size ≤ 96) : (pushH l r).length ≤ 6 ∧ ∀ t ∈ pushH l r, t.size ≤ 96 := by
 have hm : ∀ t ∈ l ++ [r], t.size ≤ 96 := fun t ht => by
  rcases List.mem_append.1 ht with ht | ht
  ·exact h2 t ht
  ·simp at ht; subst ht; exact h3
 unfold pushH
 split
 ·refine ⟨by simp; omega, fun t ht => hm t (List.mem_of_mem_tail ht)⟩
 ·refine ⟨by simp at *; omega, hm⟩
section
variable {s : Scr}
theorem sK.okRow (h : sK s) (y : Nat) : (rowT s y).size ≤ 96 := by have := Ye4 s y; have := h.w2; omega
theorem sK.okU1 (h : sK s) {k : Bool} {a b : Nat} (hab : a ≤ b) (hb : b < s.h) : sK (scU1 k a b s) := by
 have hp := pushH_ok h.hn h.hs (h.okRow 0)
 have hq : (scU1 k a b s).hist.length ≤ 6 ∧ ∀ t ∈ (scU1 k a b s).hist, t.size ≤ 96 := by
  unfold scU1
  simp only
  split
  ·exact hp
  ·exact ⟨h.hn, h.hs⟩
 exact ⟨h.w1, h.w2, h.h1, h.h2, h.hx, h.hy, h.lk, h.tb, h.bh, h.hsx, h.hsy, h.ti, up1_len h.cn hab hb, up1_ok h.cs, hq.1, hq.2⟩
theorem Zd2 (k : Bool) (a b : Nat) (s : Scr) : ∀ n, (scU k a b n s).w = s.w ∧ (scU k a b n s).h = s.h ∧ (scU k a b n s).x = s.x ∧ (scU k a b n s).y = s.y ∧ (scU k a b n s).look = s.look ∧ (scU k a b n s).top = s.top ∧ (scU k a b n s).bot = s.bot ∧ (scU k a b n s).sx = s.sx ∧ (scU k a b n s).sy = s.sy ∧ (scU k a b n s).title = s.title
 | 0 => ⟨rfl, rfl, rfl, rfl, rfl, rfl, rfl, rfl, rfl, rfl⟩
 | n + 1 => Zd2 k a b s n
theorem Zc2 (a b : Nat) (s : Scr) : ∀ n, (scD a b n s).w = s.w ∧ (scD a b n s).h = s.h ∧ (scD a b n s).x = s.x ∧ (scD a b n s).y = s.y ∧ (scD a b n s).look = s.look ∧ (scD a b n s).top = s.top ∧ (scD a b n s).bot = s.bot ∧ (scD a b n s).sx = s.sx ∧ (scD a b n s).sy = s.sy ∧ (scD a b n s).title = s.title ∧ (scD a b n s).hist = s.hist
 | 0 => ⟨rfl, rfl, rfl, rfl, rfl, rfl, rfl, rfl, rfl, rfl, rfl⟩
 | n + 1 => Zc2 a b s n
theorem sK.okU (h : sK s) {k : Bool} {a b : Nat} (hab : a ≤ b) (hb : b < s.h) : ∀ n, sK (scU k a b n s)
 | 0 => h
 | n + 1 => (h.okU hab hb n).okU1 hab (by rw [(Zd2 k a b s n).2.1]; exact hb)
theorem sK.okD1 (h : sK s) {a b : Nat} (hab : a ≤ b) (hb : b < s.h) : sK (scD1 a b s) :=
 ⟨h.w1, h.w2, h.h1, h.h2, h.hx, h.hy, h.lk, h.tb, h.bh, h.hsx, h.hsy, h.ti, dn1_len h.cn hab hb, dn1_ok h.cs, h.hn, h.hs⟩
theorem sK.okD (h : sK s) {a b : Nat} (hab : a ≤ b) (hb : b < s.h) : ∀ n, sK (scD a b n s)
 | 0 => h
 | n + 1 => (h.okD hab hb n).okD1 hab (by rw [(Zc2 a b s n).2.1]; exact hb)
theorem sK.xy (h : sK s) {x y : Nat} (hx : x ≤ s.w) (hy : y < s.h) : sK { s with x := x, y := y } :=
 ⟨h.w1, h.w2, h.h1, h.h2, hx, hy, h.lk, h.tb, h.bh, h.hsx, h.hsy, h.ti, h.cn, h.cs, h.hn, h.hs⟩
theorem sK.down (h : sK s) : sK (downS s) := by
 unfold downS
 split
 ·exact h.okU (Nat.le_of_lt h.tb) h.bh 1
 ·exact h.xy h.hx (by have := h.h1; omega)
theorem sK.up (h : sK s) : sK (upS s) := by
 unfold upS
 split
 ·exact h.okD (Nat.le_of_lt h.tb) h.bh 1
 ·exact h.xy h.hx (by have := h.hy; omega)
theorem Zg0 (s : Scr) : (downS s).w = s.w ∧ (downS s).h = s.h ∧ (downS s).x = s.x ∧ (downS s).look = s.look := by unfold downS; split <;> exact ⟨rfl, rfl, rfl, rfl⟩
theorem sK.wrap (h : sK s) : sK (wrapS s) ∧ (wrapS s).x < (wrapS s).w := by
 unfold wrapS
 split
 ·refine ⟨(h.xy (x := 0) (y := s.y) (Nat.zero_le _) h.hy).down, ?_⟩
  have h1 := Zg0 { s with x := 0 }
  rw [h1.1, h1.2.2.1]
  show 0 < s.w
  have := h.w1; omega
 ·exact ⟨h, by have := h.hx; omega⟩
theorem Ya6 {α : Type} {l : List α} {i : Nat} {x c : α} (h : c ∈ l.set i x) : c = x ∨ c ∈ l := by
 rcases List.mem_or_eq_of_mem_set h with h | h
 ·exact .inr h
 ·exact .inl h
theorem sK.put (h : sK s) (hx : s.x < s.w) {n : Int} (hn : rnOK n) : sK (putS s n) :=
 ⟨h.w1, h.w2, h.h1, h.h2, hx, h.hy, h.lk, h.tb, h.bh, h.hsx, h.hsy, h.ti, by simp only [putS, List.length_set]; exact h.cn, fun c hc => by
   rcases Ya6 hc with rfl | hc
   ·exact ⟨hn, by have := h.lk; simp only; omega⟩
   ·exact h.cs c hc, h.hn, h.hs⟩
theorem sK.print (h : sK s) {n : Int} (hn : rnOK n) : sK (Zh5 s n) := h.wrap.1.put h.wrap.2 hn
theorem sK.ctl (h : sK s) (n : Int) : sK (ctlS s n) := by
 have := h.hx
 unfold ctlS
 split
 ·exact h.xy (x := min s.x (s.w - 1) - 1) (y := s.y) (by omega) h.hy
 split
 ·exact h.xy (x := min (s.w - 1) ((s.x / 8 + 1) * 8)) (y := s.y) (by omega) h.hy
 split
 ·exact h.down
 split
 ·exact h.xy (x := 0) (y := s.y) (by omega) h.hy
 ·exact h
theorem sK.new {w h : Nat} (h1 : 2 ≤ w) (h2 : w ≤ 24) (h3 : 2 ≤ h) (h4 : h ≤ 10) : sK (newS w h) :=
 ⟨h1, h2, h3, h4, Nat.zero_le _, by simp only [newS]; omega, by simp only [newS]; omega, by simp only [newS]; omega, by simp only [newS]; omega, Nat.zero_le _, by simp only [newS]; omega, by rfl, by simp [newS, bL], Zc1, by simp [newS], by simp [newS]⟩
theorem sK.esc (h : sK s) (n : Int) : sK (escS s n) := by
 unfold escS
 split
 ·exact ⟨h.w1, h.w2, h.h1, h.h2, h.hx, h.hy, h.lk, h.tb, h.bh, h.hx, h.hy, h.ti, h.cn, h.cs, h.hn, h.hs⟩
 split
 ·exact h.xy h.hsx h.hsy
 split
 ·exact h.down
 split
 ·exact (h.xy (x := 0) (y := s.y) (Nat.zero_le _) h.hy).down
 split
 ·exact h.up
 split
 ·have k := sK.new h.w1 h.w2 h.h1 h.h2
  exact ⟨k.w1, k.w2, k.h1, k.h2, k.hx, k.hy, k.lk, k.tb, k.bh, k.hsx, k.hsy, k.ti, k.cn, k.cs, h.hn, h.hs⟩
 ·exact h
theorem or_le {a b : Nat} (ha : a ≤ 127) (hb : b ≤ 127) : a ||| b ≤ 127 := by
 have := Nat.or_lt_two_pow (x := a) (y := b) (n := 7) (by omega) (by omega)
 omega
theorem Zz4 {l : Nat} (h : l ≤ 127) (n : Int) : lookN l n ≤ 127 := by
 unfold lookN
 split
 ·omega
 split
 ·exact or_le h (by omega)
 split
 ·exact or_le h (by omega)
 split
 ·exact or_le h (by omega)
 split
 ·exact or_le (Nat.le_trans Nat.and_le_left h) (by omega)
 split
 ·exact Nat.le_trans Nat.and_le_left h
 ·exact h
theorem Zq0 {l : Nat} (h : l ≤ 127) : ∀ xs : List Int, xs.foldl lookN l ≤ 127
 | [] => h
 | x :: xs => by rw [List.foldl_cons]; exact Zq0 (Zz4 h x) xs
theorem sK.okClr (h : sK s) {f t : Nat} (hf : f ≤ t) (ht : t ≤ s.w * s.h) : sK (clr f t s) :=
 ⟨h.w1, h.w2, h.h1, h.h2, h.hx, h.hy, h.lk, h.tb, h.bh, h.hsx, h.hsy, h.ti, (Ya1 hf (by rw [h.cn]; exact ht)).trans h.cn, clrL_ok h.cs, h.hn, h.hs⟩
theorem sK.cur (h : sK s) : s.y * s.w ≤ curS s ∧ curS s + 1 ≤ (s.y + 1) * s.w ∧ (s.y + 1) * s.w ≤ s.w * s.h := by
 have h1 : (s.y + 1) * s.w ≤ s.h * s.w := Za2 h.hy
 have e1 : (s.y + 1) * s.w = s.y * s.w + s.w := Nat.succ_mul _ _
 have e2 : s.w * s.h = s.h * s.w := Nat.mul_comm _ _
 have := h.w1
 unfold curS
 omega
theorem sK.era (h : sK s) (n : Int) {f t : Nat} (hf : f ≤ curS s) (ht : curS s + 1 ≤ t) (ht2 : t ≤ s.w * s.h) : sK (eraS s n f t) := by
 unfold eraS
 split
 ·exact h.okClr (by omega) ht2
 split
 ·exact h.okClr (by omega) (by omega)
 split
 ·exact h.okClr (by omega) ht2
 ·exact h
theorem Zz9 (xs : List Int) (i : Nat) : 1 ≤ arg1 xs i := by unfold arg1; omega
theorem iO {α : Type} {P : α → Prop} {c : Prop} [Decidable c] {a b : α} (h1 : c → P a) (h2 : ¬ c → P b) : P (if c then a else b) := by split <;> first | exact h1 ‹_› | exact h2 ‹_›
theorem sK.csi (h : sK s) (c : Int) (xs : List Int) : sK (csiS s c xs) := by
 have hy := h.hy
 have hx := h.hx
 have hh := h.h1
 have hw := h.w1
 have hc := h.cur
 have p0 := Zz9 xs 0
 have p1 := Zz9 xs 1
 unfold csiS
 refine iO (fun hcc => ?_) (fun _ => ?_)
 ·exact h.xy (x := s.x) (y := s.y - arg1 xs 0) hx (by omega)
 refine iO (fun hcc => ?_) (fun _ => ?_)
 ·exact h.xy (x := s.x) (y := min (s.h - 1) (s.y + arg1 xs 0)) hx (by omega)
 refine iO (fun hcc => ?_) (fun _ => ?_)
 ·exact h.xy (x := min (s.w - 1) (s.x + arg1 xs 0)) (y := s.y) (by omega) hy
 refine iO (fun hcc => ?_) (fun _ => ?_)
 ·exact h.xy (x := min s.x (s.w - 1) - arg1 xs 0) (y := s.y) (by omega) hy
 refine iO (fun hcc => ?_) (fun _ => ?_)
 ·exact h.xy (x := min s.w (arg1 xs 1) - 1) (y := min s.h (arg1 xs 0) - 1) (by omega) (by omega)
 refine iO (fun hcc => ?_) (fun _ => ?_)
 ·exact h.era _ (Nat.zero_le _) (by omega) (Nat.le_refl _)
 refine iO (fun hcc => ?_) (fun _ => ?_)
 ·exact h.era _ hc.1 hc.2.1 hc.2.2
 refine iO (fun hcc => ?_) (fun _ => ?_)
 ·refine iO (fun hin => ?_) (fun _ => h)
  ·have k := h.okD (a := s.y) (b := s.bot) hin.2 h.bh (min (arg1 xs 0) (s.bot - s.y + 1))
   exact k.xy (x := 0) (y := (scD s.y s.bot _ s).y) (Nat.zero_le _) k.hy
 refine iO (fun hcc => ?_) (fun _ => ?_)
 ·refine iO (fun hin => ?_) (fun _ => h)
  ·have k := h.okU (k := false) (a := s.y) (b := s.bot) hin.2 h.bh (min (arg1 xs 0) (s.bot - s.y + 1))
   exact k.xy (x := 0) (y := (scU false s.y s.bot _ s).y) (Nat.zero_le _) k.hy
 refine iO (fun hcc => ?_) (fun _ => ?_)
 ·exact h.okU (Nat.le_of_lt h.tb) h.bh _
 refine iO (fun hcc => ?_) (fun _ => ?_)
 ·exact h.okD (Nat.le_of_lt h.tb) h.bh _
 refine iO (fun hcc => ?_) (fun _ => ?_)
 ·exact ⟨h.w1, h.w2, h.h1, h.h2, h.hx, h.hy, Zq0 h.lk xs, h.tb, h.bh, h.hsx, h.hsy, h.ti, h.cn, h.cs, h.hn, h.hs⟩
 refine iO (fun hcc => ?_) (fun _ => ?_)
 ·refine iO (fun hin => ?_) (fun _ => h)
  ·exact ⟨h.w1, h.w2, h.h1, h.h2, Nat.zero_le _, by simp only; omega, h.lk, by simp only; omega, by simp only; omega, h.hsx, h.hsy, h.ti, h.cn, h.cs, h.hn, h.hs⟩
 ·exact h
theorem sK.act (h : sK s) {a : AV} (ha : AcOK a) : sK (actS s a) := by
 rcases ha with ⟨hk, ht, hA, h1, h2⟩ | ⟨hp, hA, ⟨hk, hn, ht⟩ | ⟨ht, ⟨hk, hn⟩ | ⟨hk, hn⟩ | ⟨hk, hn⟩⟩⟩
 ·unfold actS
  rw [hk]
  simp only [show ¬ (4 : Int) = 1 by decide, show ¬ (4 : Int) = 2 by decide, show ¬ (4 : Int) = 3 by decide, if_false, if_true]
  split
  ·exact h
  ·exact h.csi _ _
 ·unfold actS
  rw [hk]
  simp only [show ¬ (5 : Int) = 1 by decide, show ¬ (5 : Int) = 2 by decide, show ¬ (5 : Int) = 3 by decide, show ¬ (5 : Int) = 4 by decide, if_false, if_true]
  exact ⟨h.w1, h.w2, h.h1, h.h2, h.hx, h.hy, h.lk, h.tb, h.bh, h.hsx, h.hsy, ht, h.cn, h.cs, h.hn, h.hs⟩
 ·unfold actS
  rw [hk, if_pos rfl]
  exact h.print hn
 ·unfold actS
  rw [hk]
  simp only [show ¬ (2 : Int) = 1 by decide, if_false, if_true]
  exact h.ctl _
 ·unfold actS
  rw [hk]
  simp only [show ¬ (3 : Int) = 1 by decide, show ¬ (3 : Int) = 2 by decide, if_false, if_true]
  exact h.esc _
theorem sK.acts (h : sK s) : ∀ {l : List AV}, (∀ a ∈ l, AcOK a) → sK (actsS s l) := by
 intro l
 induction l generalizing s with
 | nil => intro _; exact h
 | cons a l ih => intro hl; exact ih (h.act (hl a (by simp))) (fun b hb => hl b (by simp [hb]))
end
end
section
theorem Ze2 : ∀ x : Cl, ∀ u ∈ Za0 x, u.oneCell' = true := fun x u hu => by
 simp only [Za0, List.mem_cons, List.not_mem_nil, or_false] at hu
 rcases hu with rfl | rfl <;> rfl
structure SA (lo b o : Nat) (s : Scr) (g cc : Nat) (ah : Option Addr) (dh : Nat) (w : World) : Prop where
 c0 : w.cell? ⟨b, o, none⟩ = some (.int .i64 s.w)
 c1 : w.cell? ⟨b, o + 1, none⟩ = some (.int .i64 s.h)
 c2 : w.cell? ⟨b, o + 2, none⟩ = some (.int .i64 s.x)
 c3 : w.cell? ⟨b, o + 3, none⟩ = some (.int .i64 s.y)
 c4 : w.cell? ⟨b, o + 4, none⟩ = some (.int .i64 s.look)
 c5 : w.cell? ⟨b, o + 5, none⟩ = some (.int .i64 s.top)
 c6 : w.cell? ⟨b, o + 6, none⟩ = some (.int .i64 s.bot)
 c7 : w.cell? ⟨b, o + 7, none⟩ = some (.int .i64 s.sx)
 c8 : w.cell? ⟨b, o + 8, none⟩ = some (.int .i64 s.sy)
 c9 : w.cell? ⟨b, o + 9, none⟩ = some (.string s.title)
 c10 : w.cell? ⟨b, o + 10, none⟩ = some (.slice (some ⟨g, 0, none⟩) s.cells.length cc)
 c11 : w.cell? ⟨b, o + 11, none⟩ = some (.slice ah s.hist.length dh)
 fz : ∀ k, w.frozen? ⟨b, k, none⟩ = false
 lt : b < w.heap.size
 row : Fr Za0 87 2 lo w.heap.size (.slice (some ⟨g, 0, none⟩) s.cells.length cc) s.cells w
 win : Win sE 9 1 lo w ah dh s.hist
 gb : g ≠ b
 hb : ∀ k ∈ bO ah, k ≠ b ∧ k ≠ g
theorem Upd.transN {g lo hi : Nat} {S N : Nat → Prop} {a w w' : World} (h : Upd g lo hi S a w) (k : Upd g lo hi N w w') (hN : ∀ i, N i → S i ∨ a.heap.size ≤ i) : Upd g lo hi S a w' :=
 ⟨k.os.trans h.os, k.tape.trans h.tape, k.output.trans h.output, Nat.le_trans h.size k.size, fun i h1 h2 h3 => (k.block i (Nat.lt_of_lt_of_le h1 h.size) h2 (fun t => by
   rcases hN i t with h4 | h4
   ·exact h3 h4
   ·omega)).trans (h.block i h1 h2 h3), fun o ho => (k.cell o ho).trans (h.cell o ho), fun o => (k.fz o).trans (h.fz o)⟩
theorem Upd.ofCh {g lo hi : Nat} {M S : Nat → Prop} {w w' : World} (h : Ch M w w') (hg : g < w.heap.size) (hn : ¬ M g) (hS : ∀ i, M i → S i ∨ w.heap.size ≤ i) : Upd g lo hi S w w' :=
 ⟨h.os, h.tape, h.output, h.size, fun k h1 _ h3 => h.block k h1 (fun hm => by
   rcases hS k hm with h4 | h4
   ·exact h3 h4
   ·omega), fun o _ => h.cell (p := ⟨g, o, none⟩) hg hn, fun o => h.frozen (p := ⟨g, o, none⟩) hg hn⟩
theorem Upd.drew {g lo hi : Nat} {S : Nat → Prop} {w w' : World} (h : Upd g lo hi S w w') : Upd g lo hi S w w'.drew := ⟨h.os, h.tape, h.output, h.size, h.block, h.cell, h.fz⟩
theorem Upd.ch {g lo hi : Nat} {S : Nat → Prop} {w w' : World} (h : Upd g lo hi S w w') : Ch (fun k => k = g ∨ S k) w w' := ⟨h.os, h.tape, h.output, h.size, fun k h1 h2 => h.block k h1 (fun e => h2 (.inl e)) (fun e => h2 (.inr e))⟩
theorem Upd.set1 {g lo hi o : Nat} {S : Nat → Prop} {w : World} (h1 : lo ≤ o) (h2 : o < hi) (u : Value) : Upd g lo hi S w (w.setCell ⟨g, o, none⟩ u) := Upd.refl.setCell o h1 h2 u
theorem Ch.set1' (w : World) (b k : Nat) (u : Value) : Ch (· = b) w (w.setCell ⟨b, k, none⟩ u) := (Ch.refl (M := (· = b)) (w := w)).setCell (p := ⟨b, k, none⟩) (.inl rfl) u
def sR (lo b o : Nat) (s' : Scr) (g : Nat) (ah : Option Addr) (w w' : World) : Prop :=
 ∃ g' cc' ah' dh', SA lo b o s' g' cc' ah' dh' w' ∧ Upd b o (o + 12) (fun k => k = g ∨ k ∈ bO ah) w w' ∧ (g' = g ∨ w.heap.size ≤ g') ∧ ∀ k ∈ bO ah', k ∈ bO ah ∨ w.heap.size ≤ k
theorem sR.mk {lo b o : Nat} {s : Scr} {g cc : Nat} {ah : Option Addr} {dh : Nat} {w w' : World} (h : SA lo b o s g cc ah dh w') (u : Upd b o (o + 12) (fun k => k = g ∨ k ∈ bO ah) w w') : sR lo b o s g ah w w' :=
 ⟨g, cc, ah, dh, h, u, .inl rfl, fun _ hk => .inl hk⟩
theorem sR.trans {lo b o : Nat} {s' s2 : Scr} {g g' cc' : Nat} {ah ah' : Option Addr} {dh' : Nat} {w w' w2 : World} (_ : SA lo b o s' g' cc' ah' dh' w') (u : Upd b o (o + 12) (fun k => k = g ∨ k ∈ bO ah) w w') (hg : g' = g ∨ w.heap.size ≤ g') (ha : ∀ k ∈ bO ah', k ∈ bO ah ∨ w.heap.size ≤ k) (k : sR lo b o s2 g' ah' w' w2) : sR lo b o s2 g ah w w2 := by
 obtain ⟨g3, c3, a3, d3, h3, u3, hg3, ha3⟩ := k
 have hz := u.size
 refine ⟨g3, c3, a3, d3, h3, u.transN u3 (fun i hi => ?_), ?_, fun i hi => ?_⟩
 ·rcases hi with hi | hi
  ·subst hi
   rcases hg with hg | hg
   ·exact .inl (.inl hg)
   ·exact .inr hg
  ·rcases ha i hi with h | h
   ·exact .inl (.inr h)
   ·exact .inr h
 ·rcases hg3 with h | h
  ·rw [h]; exact hg
  ·exact .inr (by omega)
 ·rcases ha3 i hi with h | h
  ·exact ha i h
  ·exact .inr (by omega)
section
variable {lo b o : Nat} {s : Scr} {g cc : Nat} {ah : Option Addr} {dh : Nat} {w w' : World} {M : Nat → Prop}
theorem SA.ch (h : SA lo b o s g cc ah dh w) (hc : Ch M w w') (h1 : ¬ M b) (h2 : ¬ M g) (h3 : ∀ k ∈ bO ah, ¬ M k) : SA lo b o s g cc ah dh w' where
 c0 := (hc.cell (p := ⟨b, o, none⟩) h.lt h1).trans h.c0
 c1 := (hc.cell (p := ⟨b, o + 1, none⟩) h.lt h1).trans h.c1
 c2 := (hc.cell (p := ⟨b, o + 2, none⟩) h.lt h1).trans h.c2
 c3 := (hc.cell (p := ⟨b, o + 3, none⟩) h.lt h1).trans h.c3
 c4 := (hc.cell (p := ⟨b, o + 4, none⟩) h.lt h1).trans h.c4
 c5 := (hc.cell (p := ⟨b, o + 5, none⟩) h.lt h1).trans h.c5
 c6 := (hc.cell (p := ⟨b, o + 6, none⟩) h.lt h1).trans h.c6
 c7 := (hc.cell (p := ⟨b, o + 7, none⟩) h.lt h1).trans h.c7
 c8 := (hc.cell (p := ⟨b, o + 8, none⟩) h.lt h1).trans h.c8
 c9 := (hc.cell (p := ⟨b, o + 9, none⟩) h.lt h1).trans h.c9
 c10 := (hc.cell (p := ⟨b, o + 10, none⟩) h.lt h1).trans h.c10
 c11 := (hc.cell (p := ⟨b, o + 11, none⟩) h.lt h1).trans h.c11
 fz := fun k => (hc.frozen (p := ⟨b, k, none⟩) h.lt h1).trans (h.fz k)
 lt := Nat.lt_of_lt_of_le h.lt hc.size
 row := h.row.ch hc (fun k hk => by simp only [bO, List.mem_singleton] at hk; subst hk; exact h2)
 win := h.win.ch hc h3
 gb := h.gb
 hb := h.hb
theorem SA.below (h : SA lo b o s g cc ah dh w) (hb : Below w.heap.size w w') : SA lo b o s g cc ah dh w' := h.ch (M := fun _ => False) (Ch.of_below hb) (fun h => h) (fun h => h) (fun _ _ h => h)
theorem SA.alloc (h : SA lo b o s g cc ah dh w) (x : Obj) : SA lo b o s g cc ah dh (w.alloc x) := h.below (bA)
theorem SA.drew (h : SA lo b o s g cc ah dh w) : SA lo b o s g cc ah dh w.drew := h.below ((Below.refl _ _).drew)
theorem SA.low {lo' : Nat} (h : SA lo b o s g cc ah dh w) (hl : lo' ≤ lo) : SA lo' b o s g cc ah dh w :=
 ⟨h.c0, h.c1, h.c2, h.c3, h.c4, h.c5, h.c6, h.c7, h.c8, h.c9, h.c10, h.c11, h.fz, h.lt, h.row.mono hl (Nat.le_refl _), h.win.low hl, h.gb, h.hb⟩
theorem SA.glt (h : SA lo b o s g cc ah dh w) : lo ≤ g ∧ g < w.heap.size := Fr.blks h.row g (by simp [bO])
theorem SA.sl (h : SA lo b o s g cc ah dh w) : Sl Za0 2 w (some ⟨g, 0, none⟩) s.cells := h.row.sl (fun _ => rfl)
theorem SA.hsl (h : SA lo b o s g cc ah dh w) : Sl sE 1 w ah s.hist := h.win.sl (fun _ => rfl)
theorem SA.cell (h : SA lo b o s g cc ah dh w) {i : Nat} (hi : i < s.cells.length) : w.cell? ⟨g, i * 2, none⟩ = some (.int .i64 s.cells[i].1) ∧ w.cell? ⟨g, i * 2 + 1, none⟩ = some (.int .i64 s.cells[i].2) := by
 obtain ⟨b', o', he, hlt, hc⟩ := h.sl.at hi
 cases he
 have h0 := hc i hi 0 (by omega)
 have h1 := hc i hi 1 (by omega)
 simp only [Za0, Nat.zero_add, Nat.add_zero, List.getElem?_cons_zero, List.getElem?_cons_succ] at h0 h1
 exact ⟨h0, h1⟩
theorem SA.gfz (h : SA lo b o s g cc ah dh w) : ∀ k, w.frozen? ⟨g, k, none⟩ = false := by
 obtain ⟨⟨a', cap', hv, h1, h2⟩, _⟩ := h.row
 cases hv
 exact fun k => h2.frozenAt k
theorem Upd.refl' : Upd b o (o + 12) (fun k => k = g ∨ k ∈ bO ah) w w := Upd.refl
theorem SA.set2 (h : SA lo b o s g cc ah dh w) (v : Nat) : SA lo b o { s with x := v } g cc ah dh (w.setCell ⟨b, o + 2, none⟩ (.int .i64 v)) where
 c0 := sO h.c0
 c1 := sO h.c1
 c2 := World.cell?_setCell_same _ _ _ h.c2
 c3 := sO h.c3
 c4 := sO h.c4
 c5 := sO h.c5
 c6 := sO h.c6
 c7 := sO h.c7
 c8 := sO h.c8
 c9 := sO h.c9
 c10 := sO h.c10
 c11 := sO h.c11
 fz := fun k => (World.frozen?_setCell _ _ _ _).trans (h.fz k)
 lt := by have := h.lt; simpa [World.setCell] using this
 row := h.row.ch (Ch.set1' w b (o + 2) _) (fun k hk e => by simp only [bO, List.mem_singleton] at hk; exact h.gb (hk.symm.trans e))
 win := h.win.ch (Ch.set1' w b (o + 2) _) (fun k hk e => (h.hb k hk).1 e)
 gb := h.gb
 hb := h.hb
theorem SA.setv2 (h : SA lo b o s g cc ah dh w) (v : Nat) {z : Int} (hz : z = (v : Int)) : SA lo b o { s with x := v } g cc ah dh (w.setCell ⟨b, o + 2, none⟩ (.int .i64 z)) := by subst hz; exact h.set2 v
theorem Upd.set2 (h : Upd b o (o + 12) (fun k => k = g ∨ k ∈ bO ah) w w') (v : Value) : Upd b o (o + 12) (fun k => k = g ∨ k ∈ bO ah) w (w'.setCell ⟨b, o + 2, none⟩ v) := h.setCell (o + 2) (by omega) (by omega) v
theorem SA.set3 (h : SA lo b o s g cc ah dh w) (v : Nat) : SA lo b o { s with y := v } g cc ah dh (w.setCell ⟨b, o + 3, none⟩ (.int .i64 v)) where
 c0 := sO h.c0
 c1 := sO h.c1
 c2 := sO h.c2
 c3 := World.cell?_setCell_same _ _ _ h.c3
 c4 := sO h.c4
 c5 := sO h.c5
 c6 := sO h.c6
 c7 := sO h.c7
 c8 := sO h.c8
 c9 := sO h.c9
 c10 := sO h.c10
 c11 := sO h.c11
 fz := fun k => (World.frozen?_setCell _ _ _ _).trans (h.fz k)
 lt := by have := h.lt; simpa [World.setCell] using this
 row := h.row.ch (Ch.set1' w b (o + 3) _) (fun k hk e => by simp only [bO, List.mem_singleton] at hk; exact h.gb (hk.symm.trans e))
 win := h.win.ch (Ch.set1' w b (o + 3) _) (fun k hk e => (h.hb k hk).1 e)
 gb := h.gb
 hb := h.hb
theorem SA.setv3 (h : SA lo b o s g cc ah dh w) (v : Nat) {z : Int} (hz : z = (v : Int)) : SA lo b o { s with y := v } g cc ah dh (w.setCell ⟨b, o + 3, none⟩ (.int .i64 z)) := by subst hz; exact h.set3 v
theorem Upd.set3 (h : Upd b o (o + 12) (fun k => k = g ∨ k ∈ bO ah) w w') (v : Value) : Upd b o (o + 12) (fun k => k = g ∨ k ∈ bO ah) w (w'.setCell ⟨b, o + 3, none⟩ v) := h.setCell (o + 3) (by omega) (by omega) v
theorem SA.set4 (h : SA lo b o s g cc ah dh w) (v : Nat) : SA lo b o { s with look := v } g cc ah dh (w.setCell ⟨b, o + 4, none⟩ (.int .i64 v)) where
 c0 := sO h.c0
 c1 := sO h.c1
 c2 := sO h.c2
 c3 := sO h.c3
 c4 := World.cell?_setCell_same _ _ _ h.c4
 c5 := sO h.c5
 c6 := sO h.c6
 c7 := sO h.c7
 c8 := sO h.c8
 c9 := sO h.c9
 c10 := sO h.c10
 c11 := sO h.c11
 fz := fun k => (World.frozen?_setCell _ _ _ _).trans (h.fz k)
 lt := by have := h.lt; simpa [World.setCell] using this
 row := h.row.ch (Ch.set1' w b (o + 4) _) (fun k hk e => by simp only [bO, List.mem_singleton] at hk; exact h.gb (hk.symm.trans e))
 win := h.win.ch (Ch.set1' w b (o + 4) _) (fun k hk e => (h.hb k hk).1 e)
 gb := h.gb
 hb := h.hb
theorem SA.setv4 (h : SA lo b o s g cc ah dh w) (v : Nat) {z : Int} (hz : z = (v : Int)) : SA lo b o { s with look := v } g cc ah dh (w.setCell ⟨b, o + 4, none⟩ (.int .i64 z)) := by subst hz; exact h.set4 v
theorem Upd.set4 (h : Upd b o (o + 12) (fun k => k = g ∨ k ∈ bO ah) w w') (v : Value) : Upd b o (o + 12) (fun k => k = g ∨ k ∈ bO ah) w (w'.setCell ⟨b, o + 4, none⟩ v) := h.setCell (o + 4) (by omega) (by omega) v
theorem SA.set5 (h : SA lo b o s g cc ah dh w) (v : Nat) : SA lo b o { s with top := v } g cc ah dh (w.setCell ⟨b, o + 5, none⟩ (.int .i64 v)) where
 c0 := sO h.c0
 c1 := sO h.c1
 c2 := sO h.c2
 c3 := sO h.c3
 c4 := sO h.c4
 c5 := World.cell?_setCell_same _ _ _ h.c5
 c6 := sO h.c6
 c7 := sO h.c7
 c8 := sO h.c8
 c9 := sO h.c9
 c10 := sO h.c10
 c11 := sO h.c11
 fz := fun k => (World.frozen?_setCell _ _ _ _).trans (h.fz k)
 lt := by have := h.lt; simpa [World.setCell] using this
 row := h.row.ch (Ch.set1' w b (o + 5) _) (fun k hk e => by simp only [bO, List.mem_singleton] at hk; exact h.gb (hk.symm.trans e))
 win := h.win.ch (Ch.set1' w b (o + 5) _) (fun k hk e => (h.hb k hk).1 e)
 gb := h.gb
 hb := h.hb
theorem SA.setv5 (h : SA lo b o s g cc ah dh w) (v : Nat) {z : Int} (hz : z = (v : Int)) : SA lo b o { s with top := v } g cc ah dh (w.setCell ⟨b, o + 5, none⟩ (.int .i64 z)) := by subst hz; exact h.set5 v
theorem Upd.set5 (h : Upd b o (o + 12) (fun k => k = g ∨ k ∈ bO ah) w w') (v : Value) : Upd b o (o + 12) (fun k => k = g ∨ k ∈ bO ah) w (w'.setCell ⟨b, o + 5, none⟩ v) := h.setCell (o + 5) (by omega) (by omega) v
theorem SA.set6 (h : SA lo b o s g cc ah dh w) (v : Nat) : SA lo b o { s with bot := v } g cc ah dh (w.setCell ⟨b, o + 6, none⟩ (.int .i64 v)) where
 c0 := sO h.c0
 c1 := sO h.c1
 c2 := sO h.c2
 c3 := sO h.c3
 c4 := sO h.c4
 c5 := sO h.c5
 c6 := World.cell?_setCell_same _ _ _ h.c6
 c7 := sO h.c7
 c8 := sO h.c8
 c9 := sO h.c9
 c10 := sO h.c10
 c11 := sO h.c11
 fz := fun k => (World.frozen?_setCell _ _ _ _).trans (h.fz k)
 lt := by have := h.lt; simpa [World.setCell] using this
 row := h.row.ch (Ch.set1' w b (o + 6) _) (fun k hk e => by simp only [bO, List.mem_singleton] at hk; exact h.gb (hk.symm.trans e))
 win := h.win.ch (Ch.set1' w b (o + 6) _) (fun k hk e => (h.hb k hk).1 e)
 gb := h.gb
 hb := h.hb
theorem SA.setv6 (h : SA lo b o s g cc ah dh w) (v : Nat) {z : Int} (hz : z = (v : Int)) : SA lo b o { s with bot := v } g cc ah dh (w.setCell ⟨b, o + 6, none⟩ (.int .i64 z)) := by subst hz; exact h.set6 v
theorem Upd.set6 (h : Upd b o (o + 12) (fun k => k = g ∨ k ∈ bO ah) w w') (v : Value) : Upd b o (o + 12) (fun k => k = g ∨ k ∈ bO ah) w (w'.setCell ⟨b, o + 6, none⟩ v) := h.setCell (o + 6) (by omega) (by omega) v
theorem SA.set7 (h : SA lo b o s g cc ah dh w) (v : Nat) : SA lo b o { s with sx := v } g cc ah dh (w.setCell ⟨b, o + 7, none⟩ (.int .i64 v)) where
 c0 := sO h.c0
 c1 := sO h.c1
 c2 := sO h.c2
 c3 := sO h.c3
 c4 := sO h.c4
 c5 := sO h.c5
 c6 := sO h.c6
 c7 := World.cell?_setCell_same _ _ _ h.c7
 c8 := sO h.c8
 c9 := sO h.c9
 c10 := sO h.c10
 c11 := sO h.c11
 fz := fun k => (World.frozen?_setCell _ _ _ _).trans (h.fz k)
 lt := by have := h.lt; simpa [World.setCell] using this
 row := h.row.ch (Ch.set1' w b (o + 7) _) (fun k hk e => by simp only [bO, List.mem_singleton] at hk; exact h.gb (hk.symm.trans e))
 win := h.win.ch (Ch.set1' w b (o + 7) _) (fun k hk e => (h.hb k hk).1 e)
 gb := h.gb
 hb := h.hb
theorem SA.setv7 (h : SA lo b o s g cc ah dh w) (v : Nat) {z : Int} (hz : z = (v : Int)) : SA lo b o { s with sx := v } g cc ah dh (w.setCell ⟨b, o + 7, none⟩ (.int .i64 z)) := by subst hz; exact h.set7 v
theorem Upd.set7 (h : Upd b o (o + 12) (fun k => k = g ∨ k ∈ bO ah) w w') (v : Value) : Upd b o (o + 12) (fun k => k = g ∨ k ∈ bO ah) w (w'.setCell ⟨b, o + 7, none⟩ v) := h.setCell (o + 7) (by omega) (by omega) v
theorem SA.set8 (h : SA lo b o s g cc ah dh w) (v : Nat) : SA lo b o { s with sy := v } g cc ah dh (w.setCell ⟨b, o + 8, none⟩ (.int .i64 v)) where
 c0 := sO h.c0
 c1 := sO h.c1
 c2 := sO h.c2
 c3 := sO h.c3
 c4 := sO h.c4
 c5 := sO h.c5
 c6 := sO h.c6
 c7 := sO h.c7
 c8 := World.cell?_setCell_same _ _ _ h.c8
 c9 := sO h.c9
 c10 := sO h.c10
 c11 := sO h.c11
 fz := fun k => (World.frozen?_setCell _ _ _ _).trans (h.fz k)
 lt := by have := h.lt; simpa [World.setCell] using this
 row := h.row.ch (Ch.set1' w b (o + 8) _) (fun k hk e => by simp only [bO, List.mem_singleton] at hk; exact h.gb (hk.symm.trans e))
 win := h.win.ch (Ch.set1' w b (o + 8) _) (fun k hk e => (h.hb k hk).1 e)
 gb := h.gb
 hb := h.hb
theorem SA.setv8 (h : SA lo b o s g cc ah dh w) (v : Nat) {z : Int} (hz : z = (v : Int)) : SA lo b o { s with sy := v } g cc ah dh (w.setCell ⟨b, o + 8, none⟩ (.int .i64 z)) := by subst hz; exact h.set8 v
theorem Upd.set8 (h : Upd b o (o + 12) (fun k => k = g ∨ k ∈ bO ah) w w') (v : Value) : Upd b o (o + 12) (fun k => k = g ∨ k ∈ bO ah) w (w'.setCell ⟨b, o + 8, none⟩ v) := h.setCell (o + 8) (by omega) (by omega) v
theorem SA.set9 (h : SA lo b o s g cc ah dh w) (v : ByteArray) : SA lo b o { s with title := v } g cc ah dh (w.setCell ⟨b, o + 9, none⟩ (.string v)) where
 c0 := sO h.c0
 c1 := sO h.c1
 c2 := sO h.c2
 c3 := sO h.c3
 c4 := sO h.c4
 c5 := sO h.c5
 c6 := sO h.c6
 c7 := sO h.c7
 c8 := sO h.c8
 c9 := World.cell?_setCell_same _ _ _ h.c9
 c10 := sO h.c10
 c11 := sO h.c11
 fz := fun k => (World.frozen?_setCell _ _ _ _).trans (h.fz k)
 lt := by have := h.lt; simpa [World.setCell] using this
 row := h.row.ch (Ch.set1' w b (o + 9) _) (fun k hk e => by simp only [bO, List.mem_singleton] at hk; exact h.gb (hk.symm.trans e))
 win := h.win.ch (Ch.set1' w b (o + 9) _) (fun k hk e => (h.hb k hk).1 e)
 gb := h.gb
 hb := h.hb
theorem Upd.set9 (h : Upd b o (o + 12) (fun k => k = g ∨ k ∈ bO ah) w w') (v : Value) : Upd b o (o + 12) (fun k => k = g ∨ k ∈ bO ah) w (w'.setCell ⟨b, o + 9, none⟩ v) := h.setCell (o + 9) (by omega) (by omega) v
theorem SA.hist (h : SA lo b o s g cc ah dh w) {us : List ByteArray} {a' : Option Addr} {c' : Nat} (hw : Win sE 9 1 lo w a' c' us) (hd : ∀ k ∈ bO a', k ≠ b ∧ k ≠ g) : SA lo b o { s with hist := us } g cc a' c' (w.setCell ⟨b, o + 11, none⟩ (.slice a' us.length c')) where
 c0 := sO h.c0
 c1 := sO h.c1
 c2 := sO h.c2
 c3 := sO h.c3
 c4 := sO h.c4
 c5 := sO h.c5
 c6 := sO h.c6
 c7 := sO h.c7
 c8 := sO h.c8
 c9 := sO h.c9
 c10 := sO h.c10
 c11 := World.cell?_setCell_same _ _ _ h.c11
 fz := fun k => (World.frozen?_setCell _ _ _ _).trans (h.fz k)
 lt := by have := h.lt; simpa [World.setCell] using this
 row := h.row.ch (Ch.set1' w b (o + 11) _) (fun k hk e => by simp only [bO, List.mem_singleton] at hk; exact h.gb (hk.symm.trans e))
 win := hw.ch (Ch.set1' w b (o + 11) _) (fun k hk e => (hd k hk).1 e)
 gb := h.gb
 hb := hd
theorem SA.cells (h : SA lo b o s g cc ah dh w) {l : List Cl} (hf : Fr Za0 87 2 lo w'.heap.size (.slice (some ⟨g, 0, none⟩) s.cells.length cc) l w') (hl : l.length = s.cells.length) (hc : Ch (· = g) w w') : SA lo b o { s with cells := l } g cc ah dh w' where
 c0 := (hc.cell (p := ⟨b, o, none⟩) h.lt (fun e => h.gb e.symm)).trans h.c0
 c1 := (hc.cell (p := ⟨b, o + 1, none⟩) h.lt (fun e => h.gb e.symm)).trans h.c1
 c2 := (hc.cell (p := ⟨b, o + 2, none⟩) h.lt (fun e => h.gb e.symm)).trans h.c2
 c3 := (hc.cell (p := ⟨b, o + 3, none⟩) h.lt (fun e => h.gb e.symm)).trans h.c3
 c4 := (hc.cell (p := ⟨b, o + 4, none⟩) h.lt (fun e => h.gb e.symm)).trans h.c4
 c5 := (hc.cell (p := ⟨b, o + 5, none⟩) h.lt (fun e => h.gb e.symm)).trans h.c5
 c6 := (hc.cell (p := ⟨b, o + 6, none⟩) h.lt (fun e => h.gb e.symm)).trans h.c6
 c7 := (hc.cell (p := ⟨b, o + 7, none⟩) h.lt (fun e => h.gb e.symm)).trans h.c7
 c8 := (hc.cell (p := ⟨b, o + 8, none⟩) h.lt (fun e => h.gb e.symm)).trans h.c8
 c9 := (hc.cell (p := ⟨b, o + 9, none⟩) h.lt (fun e => h.gb e.symm)).trans h.c9
 c10 := by rw [hl]; exact (hc.cell (p := ⟨b, o + 10, none⟩) h.lt (fun e => h.gb e.symm)).trans h.c10
 c11 := (hc.cell (p := ⟨b, o + 11, none⟩) h.lt (fun e => h.gb e.symm)).trans h.c11
 fz := fun k => (hc.frozen (p := ⟨b, k, none⟩) h.lt (fun e => h.gb e.symm)).trans (h.fz k)
 lt := Nat.lt_of_lt_of_le h.lt hc.size
 row := by rw [hl]; exact hf
 win := h.win.ch hc (fun k hk => (h.hb k hk).2)
 gb := h.gb
 hb := h.hb
theorem Zx8 (xs : List Cl) (i : Nat) (hi : i < xs.length) (c : Cl) : ((xs.flatMap Za0).set (i * 2) (.int .i64 c.1)).set (i * 2 + 1) (.int .i64 c.2) = (xs.set i c).flatMap Za0 := Yh3 Za0 (fun _ => rfl) xs i hi c _ _ rfl
theorem SA.setC (h : SA lo b o s g cc ah dh w) {i : Nat} (hi : i < s.cells.length) (c : Cl) : SA lo b o { s with cells := s.cells.set i c } g cc ah dh ((w.setCell ⟨g, i * 2, none⟩ (.int .i64 c.1)).setCell ⟨g, i * 2 + 1, none⟩ (.int .i64 c.2)) := by
 have hc : Ch (· = g) w ((w.setCell ⟨g, i * 2, none⟩ (.int .i64 c.1)).setCell ⟨g, i * 2 + 1, none⟩ (.int .i64 c.2)) := (Ch.set1' w g (i * 2) _).trans (Ch.set1' _ g (i * 2 + 1) _) (fun _ h => .inl h)
 refine h.cells ?_ (by simp) hc
 obtain ⟨⟨a', cap', hv, h1, h2⟩, h3⟩ := h.row
 cases hv
 obtain ⟨hol, ho⟩ := h2
 rcases ho with ⟨hv, _⟩ | ⟨g', cap, cur, hv, hbg, hg, hnc, hcm, hcs, htake⟩
 ·cases hv
 ·cases hv
  have e1 := heap_setCell_same w g (i * 2) cur _ (.int .i64 c.1) hg
  have e2 := heap_setCell_same (w.setCell ⟨g, i * 2, none⟩ (.int .i64 c.1)) g (i * 2 + 1) _ _ (.int .i64 c.2) e1
  have hn : s.cells.length * 2 ≤ cc * 2 := Nat.mul_le_mul_right _ hnc
  refine ⟨⟨_, _, by rw [List.length_set], by rw [List.length_set]; exact h1, by rw [fL Za0 2 (fun _ => rfl)], .inr ⟨g, cc, _, rfl, hbg, e2, by rw [List.length_set]; exact hnc, hcm, by simpa using hcs, ?_⟩⟩, fun k hk => by have := h3 k (by simpa [Value.ownBlock] using hk); simpa [World.setCell] using this⟩
  rw [List.length_set, Array.toList_setIfInBounds, Array.toList_setIfInBounds, ← Zx8 s.cells i hi c, ← htake, List.take_set, List.take_set]
end
end
section
variable {lo b : Nat} {s : Scr} {g cc : Nat} {ah : Option Addr} {dh : Nat} {w : World}
theorem SA.e0 (h : SA lo b 0 s g cc ah dh w) : w.cell? ⟨b, 0, none⟩ = some (.int .i64 s.w) := h.c0
theorem SA.e1 (h : SA lo b 0 s g cc ah dh w) : w.cell? ⟨b, 1, none⟩ = some (.int .i64 s.h) := h.c1
theorem SA.e2 (h : SA lo b 0 s g cc ah dh w) : w.cell? ⟨b, 2, none⟩ = some (.int .i64 s.x) := h.c2
theorem SA.e3 (h : SA lo b 0 s g cc ah dh w) : w.cell? ⟨b, 3, none⟩ = some (.int .i64 s.y) := h.c3
theorem SA.e4 (h : SA lo b 0 s g cc ah dh w) : w.cell? ⟨b, 4, none⟩ = some (.int .i64 s.look) := h.c4
theorem SA.e5 (h : SA lo b 0 s g cc ah dh w) : w.cell? ⟨b, 5, none⟩ = some (.int .i64 s.top) := h.c5
theorem SA.e6 (h : SA lo b 0 s g cc ah dh w) : w.cell? ⟨b, 6, none⟩ = some (.int .i64 s.bot) := h.c6
theorem SA.e7 (h : SA lo b 0 s g cc ah dh w) : w.cell? ⟨b, 7, none⟩ = some (.int .i64 s.sx) := h.c7
theorem SA.e8 (h : SA lo b 0 s g cc ah dh w) : w.cell? ⟨b, 8, none⟩ = some (.int .i64 s.sy) := h.c8
theorem SA.e9 (h : SA lo b 0 s g cc ah dh w) : w.cell? ⟨b, 9, none⟩ = some (.string s.title) := h.c9
theorem SA.e10 (h : SA lo b 0 s g cc ah dh w) : w.cell? ⟨b, 10, none⟩ = some (.slice (some ⟨g, 0, none⟩) s.cells.length cc) := h.c10
theorem SA.e11 (h : SA lo b 0 s g cc ah dh w) : w.cell? ⟨b, 11, none⟩ = some (.slice ah s.hist.length dh) := h.c11
end
section
theorem Za5 (w h : Int) (W : World) : Calls Tryz.prog 28 #[.int .i64 w, .int .i64 h] W fun e w' => e = .returned (.bool (inB w 2 24 && inB h 2 10)) ∧ W = w' := by
 obtain ⟨u, hu⟩ := eX (inB w 2 24)
 obtain ⟨v, hv⟩ := eX (inB h 2 10)
 have HU := zz hu
 have HV := zz hv
 rw [hu, hv]
 clear hu hv
 cases u <;> cases v
 all_goals
  go_enter Tryz.func28, Tryz.ntmps28
  go_wp2_with (go_at_call 60; refine (lI _ _ _ _).mono ?_; (first | rw [HU.out] | rw [HV.out]); rintro e w' ⟨rfl, rfl⟩)
  all_goals
   go_ret
   exact ⟨rfl, rfl⟩
theorem Ye5 {f i : Nat} {l : List Cl} (hf : f ≤ i) (hi : i < l.length) : (clrL f i l).set i blank = clrL f (i + 1) l := by
 unfold clrL bL
 have e1 : i + 1 - f = (i - f) + 1 := by omega
 rw [e1, List.replicate_succ', List.set_append, if_neg (by rw [List.length_take]; omega), List.set_append, if_neg (by rw [List.length_replicate, List.length_take]; omega), List.append_assoc]
 congr 2
 have e2 : i - (l.take f).length - (List.replicate (i - f) blank).length = 0 := by rw [List.length_take, List.length_replicate]; omega
 rw [e2, List.drop_eq_getElem_cons hi]
 rfl
theorem Yg3 {f : Nat} {l : List Cl} : clrL f f l = l := by simp [clrL, bL]
theorem Zv9 {f i : Nat} {l : List Cl} (hf : f ≤ i) (hi : i ≤ l.length) : (clrL f i l).length = l.length := Ya1 hf hi
theorem Zf6 (lo b : Nat) (s : Scr) (g cc : Nat) (ah : Option Addr) (dh : Nat) (w : World) (f t : Nat) (h : SA lo b 0 s g cc ah dh w) (hf : f ≤ t) (ht : t ≤ s.cells.length) (hn : s.cells.length ≤ 240) :
 Calls Tryz.prog 118 #[.pointer (some ⟨b, 0, none⟩), .int .i64 f, .int .i64 t] w fun e w' => e = .returned (.tuple #[]) ∧ SA lo b 0 (clr f t s) g cc ah dh w' ∧ Ch (· = g) w w' := by
 have HS := zz h
 obtain ⟨n, hcn⟩ := eX (s.cells.length)
 have HCN := zz hcn
 rw [hcn] at hn ht
 clear h hcn
 go_enter Tryz.func118, Tryz.ntmps118
 go_wp2_with fail
 go_loopw [6] (fun iv wr => ∃ i : Nat, f ≤ i ∧ i ≤ t ∧ iv = .int .i64 i ∧ Hid (SA lo b 0 (clr f i s) g cc ah dh wr ∧ Ch (· = g) w wr)) (fun iv _ => t - (intOf iv).toNat)
 case atStart => exact ⟨f, Nat.le_refl _, hf, rfl, zz ⟨by unfold clr; rw [Yg3]; exact HS.out, Ch.refl⟩⟩
 case round =>
  obtain ⟨i, hfi, hit, rfl, HR⟩ := hrel
  have hcl : (clr f i s).cells.length = n := (Zv9 hfi (by rw [HCN.out]; omega)).trans HCN.out
  by_cases hlt : i < t
  ·have k_10 : wr.cell? ⟨b, 10, none⟩ = some (.slice (some ⟨g, 0, none⟩) n cc) := by rw [← hcl]; exact HR.out.1.c10
   have k_g0 := HR.out.1.gfz
   have k_gl := HR.out.1.glt.2
   have hi2 : i < (clr f i s).cells.length := by omega
   have k_c := (HR.out.1.cell hi2).1
   have k_d := (HR.out.1.cell hi2).2
   have hin : (i : Int) < (n : Int) := by omega
   have hSN := HR.out.1.setC hi2 blank
   have HSN := zz hSN
   have hCN : Ch (· = g) w ((wr.setCell ⟨g, i * 2, none⟩ (.int .i64 32)).setCell ⟨g, i * 2 + 1, none⟩ (.int .i64 0)) := (HR.out.2.trans (Ch.set1' _ g (i * 2) _) (fun _ h => .inl h)).trans (Ch.set1' _ g (i * 2 + 1) _) (fun _ h => .inl h)
   have HCN' := zz hCN
   clear hSN hCN hcl
   go_wp2_with fail
   go_roundw
   case rel =>
    refine ⟨i + 1, by omega, by omega, by go_num, zz ⟨?_, HCN'.out⟩⟩
    have := HSN.out
    unfold clr at this ⊢
    simp only at this
    rwa [Ye5 hfi (by rw [HCN.out]; omega)] at this
   case measure => simp [intOf]; omega
  ·obtain rfl : i = t := by omega
   clear hcl
   go_wp2_with fail
   refine bodyPost_end (v := .tuple #[]) (by simp [results, Tryz.results118]) rfl ?_
   exact ⟨rfl, HR.out.1, HR.out.2⟩
theorem Tryz.infoCell : (Tryz.prog.info? 87).map (fun i => (i.zero, i.size, i.bytes)) = some (some (.agg #[.int .i64 0, .int .i64 0]), 2, 16) := by kernel_rfl
theorem Fr.emp {α : Type} (enc : α → List Value) (e : TypeId) (sz lo : Nat) (w : World) (h : lo ≤ w.heap.size) : Fr enc e sz lo (w.alloc (.cells #[] e)).heap.size (.slice (some ⟨w.heap.size, 0, none⟩) 0 0) [] (w.alloc (.cells #[] e)) := by
 refine ⟨⟨_, 0, rfl, Nat.le_refl _, by simp, .inr ⟨w.heap.size, 0, #[], rfl, h, heap_alloc_new w _, Nat.le_refl _, by unfold maxLen; omega, by simp, by simp⟩⟩, fun k hk => ?_⟩
 cases hk
 simp
def BlankR (n : Nat) (w : World) (e : Ending) (w' : World) : Prop :=
 ∃ a c, e = .returned (.slice a n c) ∧ Fr Za0 87 2 w.heap.size w'.heap.size (.slice a n c) (bL n) w' ∧ Below w.heap.size w w'
theorem Yb2 (n : Nat) (w : World) (hn : n ≤ 240) :
 Calls Tryz.prog 91 #[.int .i64 n] w (BlankR n w) := by
 obtain ⟨iA, hA, hA0, hA1, hA2⟩ := info_parts Tryz.infoCell
 have hA := hA
 go_enter Tryz.func91, Tryz.ntmps91
 go_wp2_with fail
 go_loopw [3, 4] (fun lv iv wr => ∃ (i : Nat) (a : Option Addr) (c : Nat) (L : List Cl), i ≤ n ∧ iv = .int .i64 i ∧ lv = .slice a L.length c ∧ Hid (L = bL i ∧ Fr Za0 87 2 w.heap.size wr.heap.size (.slice a L.length c) L wr ∧ Below w.heap.size w wr)) (fun _ iv _ => n - (intOf iv).toNat)
 case atStart =>
  exact ⟨0, some ⟨w.heap.size, 0, none⟩, 0, [], Nat.zero_le _, rfl, rfl, zz ⟨rfl, Fr.emp Za0 _ 2 w.heap.size w (Nat.le_refl _), bA⟩⟩
 case round =>
  obtain ⟨i, a, c, L, hin, rfl, rfl, HR⟩ := hrel
  by_cases hlt : i < n
  ·have hlt' : (i : Int) < (n : Int) := by omega
   have HB0 : Hid (Below w.heap.size w (wr.alloc (.cells #[.int .i64 32, .int .i64 0] 87))) := zz (HR.out.2.2.alloc HR.out.2.2.size _)
   have HF0 : Hid (Fr Za0 87 2 w.heap.size (wr.alloc (.cells #[.int .i64 32, .int .i64 0] 87)).heap.size (.slice a L.length c) L (wr.alloc (.cells #[.int .i64 32, .int .i64 0] 87))) := zz (HR.out.2.1.keepB (bA))
   have HSRC : Hid (Src Tryz.prog 2 23 (.slice (some ⟨wr.heap.size, 0, none⟩) 1 1) [blank].length ([blank].flatMap Za0) (wr.alloc (.cells #[.int .i64 32, .int .i64 0] 87))) := zz (Src.ofBox (enc := Za0) Tryz.underlying23 (fun _ => rfl) Ze2 blank _ _ (by simp [Za0, blank]) _ (by simp))
   have hL : L.length = i := by rw [HR.out.1]; simp [bL]
   have HLL := zz hL
   have hz0 := HR.out.2.2.size
   go_wp2_with (at_builtin; refine wA (.tmp 11) (.tmp 13) 23 23 w.heap.size 87 iA (.agg #[.int .i64 0, .int .i64 0]) 2 16 Tryz.underlying23 hA hA0 hA1 hA2 rfl (by decide) a L.length c L HF0.out (.slice (some ⟨wr.heap.size, 0, none⟩) 1 1) [blank] HSRC.out (by simp; omega) (by simp; omega) rfl rfl rfl rfl ?_)
   intro a8 c8 w8 us hus hf8 hc8 hk8
   have HUS := hus
   have HF8 := zz hf8
   have HB8 : Hid (Below w.heap.size w w8) := zz (HB0.out.trans (hc8.below (by simp; omega) (fun k hk => (Fr.blks HF0.out k hk).1)))
   clear hus hf8 hc8 hk8 hL
   go_wp2_with fail
   go_roundw
   case rel =>
    refine ⟨i + 1, a8, c8, us, by omega, by go_num, rfl, zz ⟨?_, HF8.out, HB8.out⟩⟩
    rw [HUS.out, HR.out.1]
    simp [bL, List.replicate_succ']
   case measure => simp [intOf]; omega
  ·obtain rfl : i = n := by omega
   go_wp2_with fail
   go_ret
   have hL : L.length = i := by rw [HR.out.1]; simp [bL]
   have hf := HR.out.2.1
   rw [hL, HR.out.1] at hf
   exact ⟨a, c, by rw [← hL]; rfl, hf, HR.out.2.2⟩
end
section
def scrV (s : Scr) (ac : Option Addr) (cc : Nat) (ah : Option Addr) (dh : Nat) : Value := .agg #[.int .i64 s.w, .int .i64 s.h, .int .i64 s.x, .int .i64 s.y, .int .i64 s.look, .int .i64 s.top, .int .i64 s.bot, .int .i64 s.sx, .int .i64 s.sy, .string s.title, .slice ac s.cells.length cc, .slice ah s.hist.length dh]
structure sF (lo : Nat) (s : Scr) (ac : Option Addr) (cc : Nat) (ah : Option Addr) (dh : Nat) (w : World) : Prop where
 row : Fr Za0 87 2 lo w.heap.size (.slice ac s.cells.length cc) s.cells w
 win : Win sE 9 1 lo w ah dh s.hist
 ap : ∀ k ∈ bO ah, k ∉ bO ac
structure sS (s : Scr) (ac ah : Option Addr) (w : World) : Prop where
 cs : Sl Za0 2 w ac s.cells
 hs : Sl sE 1 w ah s.hist
section
variable {lo : Nat} {s : Scr} {ac ah : Option Addr} {cc dh : Nat} {w w' : World} {M : Nat → Prop}
theorem sF.ch (h : sF lo s ac cc ah dh w) (hc : Ch M w w') (h1 : ∀ k ∈ bO ac, ¬ M k) (h2 : ∀ k ∈ bO ah, ¬ M k) : sF lo s ac cc ah dh w' := ⟨h.row.ch hc h1, h.win.ch hc h2, h.ap⟩
theorem sF.below (h : sF lo s ac cc ah dh w) (hb : Below w.heap.size w w') : sF lo s ac cc ah dh w' := h.ch (M := fun _ => False) (Ch.of_below hb) (fun _ _ h => h) (fun _ _ h => h)
theorem sF.low {lo' : Nat} (h : sF lo s ac cc ah dh w) (hl : lo' ≤ lo) : sF lo' s ac cc ah dh w := ⟨h.row.mono hl (Nat.le_refl _), h.win.low hl, h.ap⟩
theorem sF.rd (h : sF lo s ac cc ah dh w) : sS s ac ah w := ⟨h.row.sl (fun _ => rfl), h.win.sl (fun _ => rfl)⟩
theorem sS.below (h : sS s ac ah w) (hb : Below w.heap.size w w') : sS s ac ah w' := ⟨h.cs.keep hb, h.hs.keep hb⟩
theorem sS.alloc (h : sS s ac ah w) (o : Obj) : sS s ac ah (w.alloc o) := h.below (bA)
theorem sS.drew (h : sS s ac ah w) : sS s ac ah w.drew := h.below ((Below.refl _ _).drew)
theorem SA.rd {b o g : Nat} (h : SA lo b o s g cc ah dh w) : sS s (some ⟨g, 0, none⟩) ah w := ⟨h.sl, h.hsl⟩
theorem sF.blk (h : sF lo s ac cc ah dh w) (h0 : 0 < s.cells.length) : ∃ g, ac = some ⟨g, 0, none⟩ := by
 obtain ⟨g, h1, _⟩ := h.row.block h0
 exact ⟨g, h1⟩
end
def ScrN (s : Scr) (w : World) (e : Ending) (w' : World) : Prop :=
 ∃ ac cc ah dh, e = .returned (scrV s ac cc ah dh) ∧ sF w.heap.size s ac cc ah dh w' ∧ Below w.heap.size w w'
theorem SA.box {lo : Nat} {s : Scr} {g cc : Nat} {ah : Option Addr} {dh : Nat} {w : World} (h : sF lo s (some ⟨g, 0, none⟩) cc ah dh w) (T : TypeId) : SA lo w.heap.size 0 s g cc ah dh (w.alloc (.cells #[.int .i64 s.w, .int .i64 s.h, .int .i64 s.x, .int .i64 s.y, .int .i64 s.look, .int .i64 s.top, .int .i64 s.bot, .int .i64 s.sx, .int .i64 s.sy, .string s.title, .slice (some ⟨g, 0, none⟩) s.cells.length cc, .slice ah s.hist.length dh] T)) := by
 have hg := Fr.blks h.row g (by simp [bO])
 have hh := h.win.blk
 have hc : Ch (fun _ => False) w (w.alloc (.cells #[.int .i64 s.w, .int .i64 s.h, .int .i64 s.x, .int .i64 s.y, .int .i64 s.look, .int .i64 s.top, .int .i64 s.bot, .int .i64 s.sx, .int .i64 s.sy, .string s.title, .slice (some ⟨g, 0, none⟩) s.cells.length cc, .slice ah s.hist.length dh] T)) := Ch.refl.alloc _
 refine ⟨?_, ?_, ?_, ?_, ?_, ?_, ?_, ?_, ?_, ?_, ?_, ?_, ?_, by simp, h.row.ch hc (fun _ _ h => h), h.win.ch hc (fun _ _ h => h), by omega, fun k hk => ⟨by have := hh k hk; omega, fun e => h.ap k hk (by rw [e]; simp [bO])⟩⟩
 all_goals simp [go_sem]
theorem Zy3 (wd ht : Nat) (w : World) (h1 : wd ≤ 24) (h2 : ht ≤ 10) (h3 : 1 ≤ ht) :
 Calls Tryz.prog 49 #[.int .i64 wd, .int .i64 ht] w (ScrN (newS wd ht) w) := by
 obtain ⟨n, hn⟩ := eX (wd * ht)
 have hn2 : n ≤ 240 := by rw [← hn]; exact Nat.mul_le_mul h1 h2
 have hq : (wd : Int) * (ht : Int) = (n : Int) := by rw [← hn]; exact (Int.natCast_mul wd ht).symm
 have hq2 : (ht : Int) - 1 = ((ht - 1 : Nat) : Int) := by omega
 have HN := zz hn
 clear hn
 go_enter Tryz.func49, Tryz.ntmps49
 go_wp2_with (go_at_call 91; refine (Yb2 n _ hn2).mono ?_)
 rintro e w1 ⟨a, c, rfl, hf, hb⟩
 have HF := zz hf
 have HB := zz hb
 have hz := hb.size
 simp only [World.size_alloc] at hz
 have ul : w.heap.size < w1.heap.size := by omega
 have u_0 : w1.cell? ⟨w.heap.size, 0, none⟩ = some (.int .i64 0) := kC hb (by simp) (by simp [go_sem])
 have u_1 : w1.cell? ⟨w.heap.size, 1, none⟩ = some (.int .i64 0) := kC hb (by simp) (by simp [go_sem])
 have u_2 : w1.cell? ⟨w.heap.size, 2, none⟩ = some (.int .i64 0) := kC hb (by simp) (by simp [go_sem])
 have u_3 : w1.cell? ⟨w.heap.size, 3, none⟩ = some (.int .i64 0) := kC hb (by simp) (by simp [go_sem])
 have u_4 : w1.cell? ⟨w.heap.size, 4, none⟩ = some (.int .i64 0) := kC hb (by simp) (by simp [go_sem])
 have u_5 : w1.cell? ⟨w.heap.size, 5, none⟩ = some (.int .i64 0) := kC hb (by simp) (by simp [go_sem])
 have u_6 : w1.cell? ⟨w.heap.size, 6, none⟩ = some (.int .i64 0) := kC hb (by simp) (by simp [go_sem])
 have u_7 : w1.cell? ⟨w.heap.size, 7, none⟩ = some (.int .i64 0) := kC hb (by simp) (by simp [go_sem])
 have u_8 : w1.cell? ⟨w.heap.size, 8, none⟩ = some (.int .i64 0) := kC hb (by simp) (by simp [go_sem])
 have u_9 : w1.cell? ⟨w.heap.size, 9, none⟩ = some (.string ⟨#[]⟩) := kC hb (by simp) (by simp [go_sem])
 have u_10 : w1.cell? ⟨w.heap.size, 10, none⟩ = some (.slice none 0 0) := kC hb (by simp) (by simp [go_sem])
 have u_11 : w1.cell? ⟨w.heap.size, 11, none⟩ = some (.slice none 0 0) := kC hb (by simp) (by simp [go_sem])
 have u_f : ∀ o, w1.frozen? ⟨w.heap.size, o, none⟩ = false := fun o => (hb.frozen (p := ⟨w.heap.size, o, none⟩) (by show w.heap.size < _; simp)).trans (by simp [go_sem])
 clear hf hb
 go_wp2_with fail
 refine bodyPost_ret (v := .agg #[.int .i64 wd, .int .i64 ht, .int .i64 0, .int .i64 0, .int .i64 0, .int .i64 0, .int .i64 ((ht - 1 : Nat) : Int), .int .i64 0, .int .i64 0, .string ⟨#[]⟩, .slice a n c, .slice (some ⟨w1.heap.size, 0, none⟩) 0 0]) (by simp [results, Tryz.results49, go_sem, u_0, u_1, u_2, u_3, u_4, u_5, u_6, u_7, u_8, u_9, u_10, u_11, ul]) rfl ?_
 have hlen : (newS wd ht).cells.length = n := by rw [← HN.out]; simp [newS, bL]
 have hfz : ∀ wz, Ch (fun k => k = w.heap.size) w1 wz → w1.heap.size < wz.heap.size → (∃ cur, wz.heap[w1.heap.size]? = some (.cells cur 9 (0, 0))) → ScrN (newS wd ht) w (.returned (.agg #[.int .i64 wd, .int .i64 ht, .int .i64 0, .int .i64 0, .int .i64 0, .int .i64 0, .int .i64 ((ht - 1 : Nat) : Int), .int .i64 0, .int .i64 0, .string ⟨#[]⟩, .slice a n c, .slice (some ⟨w1.heap.size, 0, none⟩) 0 0])) wz := fun wz hc hlt ⟨cur, hcur⟩ => by
  have hfb := Fr.blks HF.out
  refine ⟨a, c, some ⟨w1.heap.size, 0, none⟩, 0, by unfold scrV; rw [hlen]; rfl, ⟨?_, ?_, ?_⟩, ?_⟩
  ·rw [hlen]
   have h5 := HF.out.ch hc (fun k hk e => by have := (hfb k hk).1; simp at this; omega)
   have h6 : (newS wd ht).cells = bL n := by rw [← HN.out]; rfl
   rw [h6]
   exact h5.mono (by simp) (Nat.le_refl _)
  ·exact .inr ⟨w1.heap.size, 0, cur, rfl, by omega, hcur, Nat.zero_le _, by simp, Nat.zero_le _, by simp [newS]⟩
  ·intro k hk hk2
   simp only [bO, List.mem_singleton] at hk
   have := (hfb k hk2).2
   omega
  ·exact (((Below.refl w.heap.size w).alloc (Nat.le_refl _) _).trans (HB.out.mono (by simp))).trans (hc.below (by omega) (fun k h => by omega))
 refine hfz _ ?_ ?_ ?_
 ·repeat (first | (with_reducible exact Ch.refl) | (with_reducible refine Ch.alloc ?_ _) | (with_reducible refine Ch.setB ?_ _ _))
 ·simp [World.setCell]
 ·have hx : ∀ X : World, X.heap.size = w1.heap.size → (X.alloc (.cells #[] 9)).heap[w1.heap.size]? = some (.cells #[] 9 (0, 0)) := fun X hX => by rw [← hX]; exact heap_alloc_new X _
  exact ⟨#[], hx _ (by simp [World.setCell])⟩
theorem Tryz.infoStr : (Tryz.prog.info? 9).map (fun i => (i.zero, i.size, i.bytes)) = some (some (.string ⟨#[]⟩), 1, 16) := by kernel_rfl
theorem Zr2 : ∀ x : ByteArray, ∀ u ∈ sE x, u.oneCell' = true := fun x u hu => by
 simp only [sE, List.mem_singleton] at hu
 subst hu
 rfl
theorem Zz1 (s : Scr) (ac : Option Addr) (cc : Nat) (ah : Option Addr) (dh : Nat) (w : World) (h : sS s ac ah w) (hc : s.cells.length ≤ 240) (hh : s.hist.length ≤ 6) :
 Calls Tryz.prog 39 #[scrV s ac cc ah dh] w (ScrN s w) := by
 obtain ⟨iC, hC, hC0, hC1, hC2⟩ := info_parts Tryz.infoCell
 have hC := hC
 obtain ⟨iS, hS, hS0, hS1, hS2⟩ := info_parts Tryz.infoStr
 have hS := hS
 have HR := zz h
 obtain ⟨nc, hnc⟩ := eX (s.cells.length)
 obtain ⟨nh, hnh⟩ := eX (s.hist.length)
 have HNC := zz hnc
 have HNH := zz hnh
 unfold scrV
 rw [hnc] at hc ⊢
 rw [hnh] at hh ⊢
 clear h hnc hnh
 obtain ⟨W1, hW1⟩ : ∃ x, (w.alloc (.cells #[.int .i64 s.w, .int .i64 s.h, .int .i64 s.x, .int .i64 s.y, .int .i64 s.look, .int .i64 s.top, .int .i64 s.bot, .int .i64 s.sx, .int .i64 s.sy, .string s.title, .slice ac nc cc, .slice ah nh dh] 26)).alloc (.cells #[.int .i64 0, .int .i64 0, .int .i64 0, .int .i64 0, .int .i64 0, .int .i64 0, .int .i64 0, .int .i64 0, .int .i64 0, .string ⟨#[]⟩, .slice none 0 0, .slice none 0 0] 26) = x := ⟨_, rfl⟩
 have HB1 : Hid (Below w.heap.size w W1) := zz (by rw [← hW1]; exact ((Below.refl w.heap.size w).alloc (Nat.le_refl _) _).alloc (by simp) _)
 have hz1 : w.heap.size + 1 < W1.heap.size := by rw [← hW1]; simp
 go_enter Tryz.func39, Tryz.ntmps39
 go_upto_region 1 with fail
 have q_0 : W1.cell? ⟨w.heap.size, 0, none⟩ = some (.int .i64 s.w) := by rw [← hW1]; simp [go_sem]
 have q_1 : W1.cell? ⟨w.heap.size, 1, none⟩ = some (.int .i64 s.h) := by rw [← hW1]; simp [go_sem]
 have q_2 : W1.cell? ⟨w.heap.size, 2, none⟩ = some (.int .i64 s.x) := by rw [← hW1]; simp [go_sem]
 have q_3 : W1.cell? ⟨w.heap.size, 3, none⟩ = some (.int .i64 s.y) := by rw [← hW1]; simp [go_sem]
 have q_4 : W1.cell? ⟨w.heap.size, 4, none⟩ = some (.int .i64 s.look) := by rw [← hW1]; simp [go_sem]
 have q_5 : W1.cell? ⟨w.heap.size, 5, none⟩ = some (.int .i64 s.top) := by rw [← hW1]; simp [go_sem]
 have q_6 : W1.cell? ⟨w.heap.size, 6, none⟩ = some (.int .i64 s.bot) := by rw [← hW1]; simp [go_sem]
 have q_7 : W1.cell? ⟨w.heap.size, 7, none⟩ = some (.int .i64 s.sx) := by rw [← hW1]; simp [go_sem]
 have q_8 : W1.cell? ⟨w.heap.size, 8, none⟩ = some (.int .i64 s.sy) := by rw [← hW1]; simp [go_sem]
 have q_9 : W1.cell? ⟨w.heap.size, 9, none⟩ = some (.string s.title) := by rw [← hW1]; simp [go_sem]
 have q_10 : W1.cell? ⟨w.heap.size, 10, none⟩ = some (.slice ac nc cc) := by rw [← hW1]; simp [go_sem]
 have q_11 : W1.cell? ⟨w.heap.size, 11, none⟩ = some (.slice ah nh dh) := by rw [← hW1]; simp [go_sem]
 have q_f : ∀ o, W1.frozen? ⟨w.heap.size, o, none⟩ = false := fun o => by rw [← hW1]; simp [go_sem]
 have r_0 : W1.cell? ⟨w.heap.size + 1, 0, none⟩ = some (.int .i64 0) := by rw [← hW1]; simp [go_sem]
 have r_1 : W1.cell? ⟨w.heap.size + 1, 1, none⟩ = some (.int .i64 0) := by rw [← hW1]; simp [go_sem]
 have r_2 : W1.cell? ⟨w.heap.size + 1, 2, none⟩ = some (.int .i64 0) := by rw [← hW1]; simp [go_sem]
 have r_3 : W1.cell? ⟨w.heap.size + 1, 3, none⟩ = some (.int .i64 0) := by rw [← hW1]; simp [go_sem]
 have r_4 : W1.cell? ⟨w.heap.size + 1, 4, none⟩ = some (.int .i64 0) := by rw [← hW1]; simp [go_sem]
 have r_5 : W1.cell? ⟨w.heap.size + 1, 5, none⟩ = some (.int .i64 0) := by rw [← hW1]; simp [go_sem]
 have r_6 : W1.cell? ⟨w.heap.size + 1, 6, none⟩ = some (.int .i64 0) := by rw [← hW1]; simp [go_sem]
 have r_7 : W1.cell? ⟨w.heap.size + 1, 7, none⟩ = some (.int .i64 0) := by rw [← hW1]; simp [go_sem]
 have r_8 : W1.cell? ⟨w.heap.size + 1, 8, none⟩ = some (.int .i64 0) := by rw [← hW1]; simp [go_sem]
 have r_9 : W1.cell? ⟨w.heap.size + 1, 9, none⟩ = some (.string ⟨#[]⟩) := by rw [← hW1]; simp [go_sem]
 have r_10 : W1.cell? ⟨w.heap.size + 1, 10, none⟩ = some (.slice none 0 0) := by rw [← hW1]; simp [go_sem]
 have r_11 : W1.cell? ⟨w.heap.size + 1, 11, none⟩ = some (.slice none 0 0) := by rw [← hW1]; simp [go_sem]
 have r_f : ∀ o, W1.frozen? ⟨w.heap.size + 1, o, none⟩ = false := fun o => by rw [← hW1]; simp [go_sem]
 clear hW1
 obtain ⟨W2, hW2⟩ := eX (W1.alloc (.cells #[] 87))
 have HB2 : Hid (Below W1.heap.size W1 W2) := zz (by rw [← hW2]; exact bA)
 have hz2 : W1.heap.size < W2.heap.size := by rw [← hW2]; simp
 have HF2 : Hid (Fr Za0 87 2 w.heap.size W2.heap.size (.slice (some ⟨W1.heap.size, 0, none⟩) 0 0) [] W2) := zz (by rw [← hW2]; exact Fr.emp Za0 _ 2 w.heap.size W1 (by omega))
 have HSRC : Hid (Src Tryz.prog 2 23 (.slice ac nc cc) s.cells.length (s.cells.flatMap Za0) W2) := zz (by
  rw [← HNC.out]
  exact Src.ofSl (enc := Za0) (sz := 2) Tryz.underlying23 (fun _ => rfl) Ze2 ((HR.out.below HB1.out).below HB2.out).cs _)
 have y_0 := kC HB2.out (by omega) q_0
 have y_1 := kC HB2.out (by omega) q_1
 have y_2 := kC HB2.out (by omega) q_2
 have y_3 := kC HB2.out (by omega) q_3
 have y_4 := kC HB2.out (by omega) q_4
 have y_5 := kC HB2.out (by omega) q_5
 have y_6 := kC HB2.out (by omega) q_6
 have y_7 := kC HB2.out (by omega) q_7
 have y_8 := kC HB2.out (by omega) q_8
 have y_9 := kC HB2.out (by omega) q_9
 have y_10 := kC HB2.out (by omega) q_10
 have y_11 := kC HB2.out (by omega) q_11
 have y_f : ∀ o, W2.frozen? ⟨w.heap.size, o, none⟩ = false := fun o => (HB2.out.frozen (p := ⟨w.heap.size, o, none⟩) (by show w.heap.size < _; omega)).trans (q_f o)
 have yl : w.heap.size < W2.heap.size := by omega
 clear q_0 q_1
 go_wp2_with (at_builtin; refine wA (.tmp 3) (.tmp 5) 23 23 w.heap.size 87 iC (.agg #[.int .i64 0, .int .i64 0]) 2 16 Tryz.underlying23 hC hC0 hC1 hC2 rfl (by decide) (some ⟨W1.heap.size, 0, none⟩) 0 0 [] HF2.out (.slice ac nc cc) s.cells HSRC.out (by have := HNC.out; simp; omega) (by omega) rfl rfl rfl rfl ?_)
 intro a8 c8 w8 us hus hf8 hc8 hk8
 obtain rfl : us = s.cells := by simpa using hus.out
 have HF8 := zz hf8
 have HK8 := zz hk8
 have hcb := hc8
 have hz8 := hc8.size
 have HB8 : Hid (Below w.heap.size w w8) := zz ((HB1.out.trans (HB2.out.mono (by omega))).trans (hc8.below (by omega) (fun k hk => by simp [bO] at hk; omega)))
 have z_0 : w8.cell? ⟨w.heap.size, 0, none⟩ = some (.int .i64 s.w) := (hc8.cell (p := ⟨w.heap.size, 0, none⟩) (by show w.heap.size < _; omega) (by simp [bO]; omega)).trans y_0
 have z_1 : w8.cell? ⟨w.heap.size, 1, none⟩ = some (.int .i64 s.h) := (hc8.cell (p := ⟨w.heap.size, 1, none⟩) (by show w.heap.size < _; omega) (by simp [bO]; omega)).trans y_1
 have z_2 : w8.cell? ⟨w.heap.size, 2, none⟩ = some (.int .i64 s.x) := (hc8.cell (p := ⟨w.heap.size, 2, none⟩) (by show w.heap.size < _; omega) (by simp [bO]; omega)).trans y_2
 have z_3 : w8.cell? ⟨w.heap.size, 3, none⟩ = some (.int .i64 s.y) := (hc8.cell (p := ⟨w.heap.size, 3, none⟩) (by show w.heap.size < _; omega) (by simp [bO]; omega)).trans y_3
 have z_4 : w8.cell? ⟨w.heap.size, 4, none⟩ = some (.int .i64 s.look) := (hc8.cell (p := ⟨w.heap.size, 4, none⟩) (by show w.heap.size < _; omega) (by simp [bO]; omega)).trans y_4
 have z_5 : w8.cell? ⟨w.heap.size, 5, none⟩ = some (.int .i64 s.top) := (hc8.cell (p := ⟨w.heap.size, 5, none⟩) (by show w.heap.size < _; omega) (by simp [bO]; omega)).trans y_5
 have z_6 : w8.cell? ⟨w.heap.size, 6, none⟩ = some (.int .i64 s.bot) := (hc8.cell (p := ⟨w.heap.size, 6, none⟩) (by show w.heap.size < _; omega) (by simp [bO]; omega)).trans y_6
 have z_7 : w8.cell? ⟨w.heap.size, 7, none⟩ = some (.int .i64 s.sx) := (hc8.cell (p := ⟨w.heap.size, 7, none⟩) (by show w.heap.size < _; omega) (by simp [bO]; omega)).trans y_7
 have z_8 : w8.cell? ⟨w.heap.size, 8, none⟩ = some (.int .i64 s.sy) := (hc8.cell (p := ⟨w.heap.size, 8, none⟩) (by show w.heap.size < _; omega) (by simp [bO]; omega)).trans y_8
 have z_9 : w8.cell? ⟨w.heap.size, 9, none⟩ = some (.string s.title) := (hc8.cell (p := ⟨w.heap.size, 9, none⟩) (by show w.heap.size < _; omega) (by simp [bO]; omega)).trans y_9
 have z_10 : w8.cell? ⟨w.heap.size, 10, none⟩ = some (.slice ac nc cc) := (hc8.cell (p := ⟨w.heap.size, 10, none⟩) (by show w.heap.size < _; omega) (by simp [bO]; omega)).trans y_10
 have z_11 : w8.cell? ⟨w.heap.size, 11, none⟩ = some (.slice ah nh dh) := (hc8.cell (p := ⟨w.heap.size, 11, none⟩) (by show w.heap.size < _; omega) (by simp [bO]; omega)).trans y_11
 have z_f : ∀ o, w8.frozen? ⟨w.heap.size, o, none⟩ = false := fun o => (hc8.frozen (p := ⟨w.heap.size, o, none⟩) (by show w.heap.size < _; omega) (by simp [bO]; omega)).trans (y_f o)
 have x_0 : w8.cell? ⟨w.heap.size + 1, 0, none⟩ = some (.int .i64 0) := (hc8.cell (p := ⟨w.heap.size + 1, 0, none⟩) (by show w.heap.size + 1 < _; omega) (by simp [bO]; omega)).trans ((HB2.out.cell (p := ⟨w.heap.size + 1, 0, none⟩) (by show w.heap.size + 1 < _; omega)).trans r_0)
 have x_1 : w8.cell? ⟨w.heap.size + 1, 1, none⟩ = some (.int .i64 0) := (hc8.cell (p := ⟨w.heap.size + 1, 1, none⟩) (by show w.heap.size + 1 < _; omega) (by simp [bO]; omega)).trans ((HB2.out.cell (p := ⟨w.heap.size + 1, 1, none⟩) (by show w.heap.size + 1 < _; omega)).trans r_1)
 have x_2 : w8.cell? ⟨w.heap.size + 1, 2, none⟩ = some (.int .i64 0) := (hc8.cell (p := ⟨w.heap.size + 1, 2, none⟩) (by show w.heap.size + 1 < _; omega) (by simp [bO]; omega)).trans ((HB2.out.cell (p := ⟨w.heap.size + 1, 2, none⟩) (by show w.heap.size + 1 < _; omega)).trans r_2)
 have x_3 : w8.cell? ⟨w.heap.size + 1, 3, none⟩ = some (.int .i64 0) := (hc8.cell (p := ⟨w.heap.size + 1, 3, none⟩) (by show w.heap.size + 1 < _; omega) (by simp [bO]; omega)).trans ((HB2.out.cell (p := ⟨w.heap.size + 1, 3, none⟩) (by show w.heap.size + 1 < _; omega)).trans r_3)
 have x_4 : w8.cell? ⟨w.heap.size + 1, 4, none⟩ = some (.int .i64 0) := (hc8.cell (p := ⟨w.heap.size + 1, 4, none⟩) (by show w.heap.size + 1 < _; omega) (by simp [bO]; omega)).trans ((HB2.out.cell (p := ⟨w.heap.size + 1, 4, none⟩) (by show w.heap.size + 1 < _; omega)).trans r_4)
 have x_5 : w8.cell? ⟨w.heap.size + 1, 5, none⟩ = some (.int .i64 0) := (hc8.cell (p := ⟨w.heap.size + 1, 5, none⟩) (by show w.heap.size + 1 < _; omega) (by simp [bO]; omega)).trans ((HB2.out.cell (p := ⟨w.heap.size + 1, 5, none⟩) (by show w.heap.size + 1 < _; omega)).trans r_5)
 have x_6 : w8.cell? ⟨w.heap.size + 1, 6, none⟩ = some (.int .i64 0) := (hc8.cell (p := ⟨w.heap.size + 1, 6, none⟩) (by show w.heap.size + 1 < _; omega) (by simp [bO]; omega)).trans ((HB2.out.cell (p := ⟨w.heap.size + 1, 6, none⟩) (by show w.heap.size + 1 < _; omega)).trans r_6)
 have x_7 : w8.cell? ⟨w.heap.size + 1, 7, none⟩ = some (.int .i64 0) := (hc8.cell (p := ⟨w.heap.size + 1, 7, none⟩) (by show w.heap.size + 1 < _; omega) (by simp [bO]; omega)).trans ((HB2.out.cell (p := ⟨w.heap.size + 1, 7, none⟩) (by show w.heap.size + 1 < _; omega)).trans r_7)
 have x_8 : w8.cell? ⟨w.heap.size + 1, 8, none⟩ = some (.int .i64 0) := (hc8.cell (p := ⟨w.heap.size + 1, 8, none⟩) (by show w.heap.size + 1 < _; omega) (by simp [bO]; omega)).trans ((HB2.out.cell (p := ⟨w.heap.size + 1, 8, none⟩) (by show w.heap.size + 1 < _; omega)).trans r_8)
 have x_9 : w8.cell? ⟨w.heap.size + 1, 9, none⟩ = some (.string ⟨#[]⟩) := (hc8.cell (p := ⟨w.heap.size + 1, 9, none⟩) (by show w.heap.size + 1 < _; omega) (by simp [bO]; omega)).trans ((HB2.out.cell (p := ⟨w.heap.size + 1, 9, none⟩) (by show w.heap.size + 1 < _; omega)).trans r_9)
 have x_10 : w8.cell? ⟨w.heap.size + 1, 10, none⟩ = some (.slice none 0 0) := (hc8.cell (p := ⟨w.heap.size + 1, 10, none⟩) (by show w.heap.size + 1 < _; omega) (by simp [bO]; omega)).trans ((HB2.out.cell (p := ⟨w.heap.size + 1, 10, none⟩) (by show w.heap.size + 1 < _; omega)).trans r_10)
 have x_11 : w8.cell? ⟨w.heap.size + 1, 11, none⟩ = some (.slice none 0 0) := (hc8.cell (p := ⟨w.heap.size + 1, 11, none⟩) (by show w.heap.size + 1 < _; omega) (by simp [bO]; omega)).trans ((HB2.out.cell (p := ⟨w.heap.size + 1, 11, none⟩) (by show w.heap.size + 1 < _; omega)).trans r_11)
 have x_f : ∀ o, w8.frozen? ⟨w.heap.size + 1, o, none⟩ = false := fun o => (hc8.frozen (p := ⟨w.heap.size + 1, o, none⟩) (by show w.heap.size + 1 < _; omega) (by simp [bO]; omega)).trans ((HB2.out.frozen (p := ⟨w.heap.size + 1, o, none⟩) (by show w.heap.size + 1 < _; omega)).trans (r_f o))
 have zl : w.heap.size < w8.heap.size := by omega
 have xl : w.heap.size + 1 < w8.heap.size := by omega
 clear hus hf8 hc8 hk8 hcb y_0 y_1 y_2 y_3 y_4 y_5 y_6 y_7 y_8 y_9 y_10 y_11 y_f yl r_0 r_1 r_2 r_3 r_4 r_5 r_6 r_7 r_8 r_9 r_10 r_11 r_f
 go_upto_region 2 with fail
 obtain ⟨W3, hW3⟩ := eX (w8.setCell ⟨w.heap.size, 10, none⟩ (.slice a8 s.cells.length c8))
 have HC3 : Hid (Ch (fun k => k = w.heap.size) w8 W3) := zz (by rw [← hW3]; exact Ch.set1' _ _ _ _)
 have hz3 := HC3.out.size
 have nn : ¬ w.heap.size + 1 = w.heap.size := by omega
 have q_0 : W3.cell? ⟨w.heap.size, 0, none⟩ = some (.int .i64 s.w) := by rw [← hW3]; simp [go_sem, z_0, zl]
 have q_1 : W3.cell? ⟨w.heap.size, 1, none⟩ = some (.int .i64 s.h) := by rw [← hW3]; simp [go_sem, z_1, zl]
 have q_2 : W3.cell? ⟨w.heap.size, 2, none⟩ = some (.int .i64 s.x) := by rw [← hW3]; simp [go_sem, z_2, zl]
 have q_3 : W3.cell? ⟨w.heap.size, 3, none⟩ = some (.int .i64 s.y) := by rw [← hW3]; simp [go_sem, z_3, zl]
 have q_4 : W3.cell? ⟨w.heap.size, 4, none⟩ = some (.int .i64 s.look) := by rw [← hW3]; simp [go_sem, z_4, zl]
 have q_5 : W3.cell? ⟨w.heap.size, 5, none⟩ = some (.int .i64 s.top) := by rw [← hW3]; simp [go_sem, z_5, zl]
 have q_6 : W3.cell? ⟨w.heap.size, 6, none⟩ = some (.int .i64 s.bot) := by rw [← hW3]; simp [go_sem, z_6, zl]
 have q_7 : W3.cell? ⟨w.heap.size, 7, none⟩ = some (.int .i64 s.sx) := by rw [← hW3]; simp [go_sem, z_7, zl]
 have q_8 : W3.cell? ⟨w.heap.size, 8, none⟩ = some (.int .i64 s.sy) := by rw [← hW3]; simp [go_sem, z_8, zl]
 have q_9 : W3.cell? ⟨w.heap.size, 9, none⟩ = some (.string s.title) := by rw [← hW3]; simp [go_sem, z_9, zl]
 have q_10 : W3.cell? ⟨w.heap.size, 10, none⟩ = some (.slice a8 s.cells.length c8) := by rw [← hW3]; simp [go_sem, z_10, zl]
 have q_11 : W3.cell? ⟨w.heap.size, 11, none⟩ = some (.slice ah nh dh) := by rw [← hW3]; simp [go_sem, z_11, zl]
 have q_f : ∀ o, W3.frozen? ⟨w.heap.size, o, none⟩ = false := fun o => by rw [← hW3]; simp [go_sem, z_f]
 have r_0 : W3.cell? ⟨w.heap.size + 1, 0, none⟩ = some (.int .i64 0) := (HC3.out.cell (p := ⟨w.heap.size + 1, 0, none⟩) (by show w.heap.size + 1 < _; omega) nn).trans x_0
 have r_1 : W3.cell? ⟨w.heap.size + 1, 1, none⟩ = some (.int .i64 0) := (HC3.out.cell (p := ⟨w.heap.size + 1, 1, none⟩) (by show w.heap.size + 1 < _; omega) nn).trans x_1
 have r_2 : W3.cell? ⟨w.heap.size + 1, 2, none⟩ = some (.int .i64 0) := (HC3.out.cell (p := ⟨w.heap.size + 1, 2, none⟩) (by show w.heap.size + 1 < _; omega) nn).trans x_2
 have r_3 : W3.cell? ⟨w.heap.size + 1, 3, none⟩ = some (.int .i64 0) := (HC3.out.cell (p := ⟨w.heap.size + 1, 3, none⟩) (by show w.heap.size + 1 < _; omega) nn).trans x_3
 have r_4 : W3.cell? ⟨w.heap.size + 1, 4, none⟩ = some (.int .i64 0) := (HC3.out.cell (p := ⟨w.heap.size + 1, 4, none⟩) (by show w.heap.size + 1 < _; omega) nn).trans x_4
 have r_5 : W3.cell? ⟨w.heap.size + 1, 5, none⟩ = some (.int .i64 0) := (HC3.out.cell (p := ⟨w.heap.size + 1, 5, none⟩) (by show w.heap.size + 1 < _; omega) nn).trans x_5
 have r_6 : W3.cell? ⟨w.heap.size + 1, 6, none⟩ = some (.int .i64 0) := (HC3.out.cell (p := ⟨w.heap.size + 1, 6, none⟩) (by show w.heap.size + 1 < _; omega) nn).trans x_6
 have r_7 : W3.cell? ⟨w.heap.size + 1, 7, none⟩ = some (.int .i64 0) := (HC3.out.cell (p := ⟨w.heap.size + 1, 7, none⟩) (by show w.heap.size + 1 < _; omega) nn).trans x_7
 have r_8 : W3.cell? ⟨w.heap.size + 1, 8, none⟩ = some (.int .i64 0) := (HC3.out.cell (p := ⟨w.heap.size + 1, 8, none⟩) (by show w.heap.size + 1 < _; omega) nn).trans x_8
 have r_9 : W3.cell? ⟨w.heap.size + 1, 9, none⟩ = some (.string ⟨#[]⟩) := (HC3.out.cell (p := ⟨w.heap.size + 1, 9, none⟩) (by show w.heap.size + 1 < _; omega) nn).trans x_9
 have r_10 : W3.cell? ⟨w.heap.size + 1, 10, none⟩ = some (.slice none 0 0) := (HC3.out.cell (p := ⟨w.heap.size + 1, 10, none⟩) (by show w.heap.size + 1 < _; omega) nn).trans x_10
 have r_11 : W3.cell? ⟨w.heap.size + 1, 11, none⟩ = some (.slice none 0 0) := (HC3.out.cell (p := ⟨w.heap.size + 1, 11, none⟩) (by show w.heap.size + 1 < _; omega) nn).trans x_11
 have r_f : ∀ o, W3.frozen? ⟨w.heap.size + 1, o, none⟩ = false := fun o => (HC3.out.frozen (p := ⟨w.heap.size + 1, o, none⟩) (by show w.heap.size + 1 < _; omega) nn).trans (x_f o)
 have HF3 : Hid (Fr Za0 87 2 w.heap.size W3.heap.size (.slice a8 s.cells.length c8) s.cells W3 ∧ ∀ k ∈ bO a8, w.heap.size + 1 < k) := zz (by
  have hq : ∀ k ∈ bO a8, w.heap.size + 1 < k := fun k hk => by
   rcases HK8.out k hk with h | h
   ·simp [bO] at h; omega
   ·omega
  exact ⟨HF8.out.ch HC3.out (fun k hk e => by have := hq k hk; omega), hq⟩)
 have HB3 : Hid (Below w.heap.size w W3) := zz (HB8.out.trans (HC3.out.below (by omega) (fun k h => by omega)))
 rw [hW3]
 clear hW3 z_0 z_1 z_2 z_3 z_4 z_5 z_6 z_7 z_8 z_9 z_10 z_11 z_f zl x_0 x_1 x_2 x_3 x_4 x_5 x_6 x_7 x_8 x_9 x_10 x_11 x_f xl
 obtain ⟨W4, hW4⟩ := eX (W3.alloc (.cells #[] 9))
 have HB4 : Hid (Below W3.heap.size W3 W4) := zz (by rw [← hW4]; exact bA)
 have hz4 : W3.heap.size < W4.heap.size := by rw [← hW4]; simp
 have HF4 : Hid (Fr sE 9 1 w.heap.size W4.heap.size (.slice (some ⟨W3.heap.size, 0, none⟩) 0 0) [] W4) := zz (by rw [← hW4]; exact Fr.emp sE _ 1 w.heap.size W3 (by omega))
 have HSRH : Hid (Src Tryz.prog 1 24 (.slice ah nh dh) s.hist.length (s.hist.flatMap sE) W4) := zz (by
  rw [← HNH.out]
  exact Src.ofSl (enc := sE) (sz := 1) Tryz.underlying24 (fun _ => rfl) Zr2 ((HR.out.hs.keep HB3.out).keep HB4.out) _)
 have y_0 := kC HB4.out (by omega) q_0
 have y_1 := kC HB4.out (by omega) q_1
 have y_2 := kC HB4.out (by omega) q_2
 have y_3 := kC HB4.out (by omega) q_3
 have y_4 := kC HB4.out (by omega) q_4
 have y_5 := kC HB4.out (by omega) q_5
 have y_6 := kC HB4.out (by omega) q_6
 have y_7 := kC HB4.out (by omega) q_7
 have y_8 := kC HB4.out (by omega) q_8
 have y_9 := kC HB4.out (by omega) q_9
 have y_10 := kC HB4.out (by omega) q_10
 have y_11 := kC HB4.out (by omega) q_11
 have y_f : ∀ o, W4.frozen? ⟨w.heap.size, o, none⟩ = false := fun o => (HB4.out.frozen (p := ⟨w.heap.size, o, none⟩) (by show w.heap.size < _; omega)).trans (q_f o)
 have yl : w.heap.size < W4.heap.size := by omega
 go_wp2_with (at_builtin; refine wA (.tmp 8) (.tmp 10) 24 24 w.heap.size 9 iS (.string ⟨#[]⟩) 1 16 Tryz.underlying24 hS hS0 hS1 hS2 rfl (by decide) (some ⟨W3.heap.size, 0, none⟩) 0 0 [] HF4.out (.slice ah nh dh) s.hist HSRH.out (by have := HNH.out; simp; omega) (by omega) rfl rfl rfl rfl ?_)
 intro a9 c9 w9 us hus hf9 hc9 hk9
 obtain rfl : us = s.hist := by simpa using hus.out
 have HF9 := zz hf9
 have HK9 := zz hk9
 have HC9 := zz hc9
 have hz9 := hc9.size
 have z_0 : w9.cell? ⟨w.heap.size, 0, none⟩ = some (.int .i64 s.w) := (hc9.cell (p := ⟨w.heap.size, 0, none⟩) (by show w.heap.size < _; omega) (by simp [bO]; omega)).trans y_0
 have z_1 : w9.cell? ⟨w.heap.size, 1, none⟩ = some (.int .i64 s.h) := (hc9.cell (p := ⟨w.heap.size, 1, none⟩) (by show w.heap.size < _; omega) (by simp [bO]; omega)).trans y_1
 have z_2 : w9.cell? ⟨w.heap.size, 2, none⟩ = some (.int .i64 s.x) := (hc9.cell (p := ⟨w.heap.size, 2, none⟩) (by show w.heap.size < _; omega) (by simp [bO]; omega)).trans y_2
 have z_3 : w9.cell? ⟨w.heap.size, 3, none⟩ = some (.int .i64 s.y) := (hc9.cell (p := ⟨w.heap.size, 3, none⟩) (by show w.heap.size < _; omega) (by simp [bO]; omega)).trans y_3
 have z_4 : w9.cell? ⟨w.heap.size, 4, none⟩ = some (.int .i64 s.look) := (hc9.cell (p := ⟨w.heap.size, 4, none⟩) (by show w.heap.size < _; omega) (by simp [bO]; omega)).trans y_4
 have z_5 : w9.cell? ⟨w.heap.size, 5, none⟩ = some (.int .i64 s.top) := (hc9.cell (p := ⟨w.heap.size, 5, none⟩) (by show w.heap.size < _; omega) (by simp [bO]; omega)).trans y_5
 have z_6 : w9.cell? ⟨w.heap.size, 6, none⟩ = some (.int .i64 s.bot) := (hc9.cell (p := ⟨w.heap.size, 6, none⟩) (by show w.heap.size < _; omega) (by simp [bO]; omega)).trans y_6
 have z_7 : w9.cell? ⟨w.heap.size, 7, none⟩ = some (.int .i64 s.sx) := (hc9.cell (p := ⟨w.heap.size, 7, none⟩) (by show w.heap.size < _; omega) (by simp [bO]; omega)).trans y_7
 have z_8 : w9.cell? ⟨w.heap.size, 8, none⟩ = some (.int .i64 s.sy) := (hc9.cell (p := ⟨w.heap.size, 8, none⟩) (by show w.heap.size < _; omega) (by simp [bO]; omega)).trans y_8
 have z_9 : w9.cell? ⟨w.heap.size, 9, none⟩ = some (.string s.title) := (hc9.cell (p := ⟨w.heap.size, 9, none⟩) (by show w.heap.size < _; omega) (by simp [bO]; omega)).trans y_9
 have z_10 : w9.cell? ⟨w.heap.size, 10, none⟩ = some (.slice a8 s.cells.length c8) := (hc9.cell (p := ⟨w.heap.size, 10, none⟩) (by show w.heap.size < _; omega) (by simp [bO]; omega)).trans y_10
 have z_11 : w9.cell? ⟨w.heap.size, 11, none⟩ = some (.slice ah nh dh) := (hc9.cell (p := ⟨w.heap.size, 11, none⟩) (by show w.heap.size < _; omega) (by simp [bO]; omega)).trans y_11
 have z_f : ∀ o, w9.frozen? ⟨w.heap.size, o, none⟩ = false := fun o => (hc9.frozen (p := ⟨w.heap.size, o, none⟩) (by show w.heap.size < _; omega) (by simp [bO]; omega)).trans (y_f o)
 have x_0 : w9.cell? ⟨w.heap.size + 1, 0, none⟩ = some (.int .i64 0) := (hc9.cell (p := ⟨w.heap.size + 1, 0, none⟩) (by show w.heap.size + 1 < _; omega) (by simp [bO]; omega)).trans ((HB4.out.cell (p := ⟨w.heap.size + 1, 0, none⟩) (by show w.heap.size + 1 < _; omega)).trans r_0)
 have x_1 : w9.cell? ⟨w.heap.size + 1, 1, none⟩ = some (.int .i64 0) := (hc9.cell (p := ⟨w.heap.size + 1, 1, none⟩) (by show w.heap.size + 1 < _; omega) (by simp [bO]; omega)).trans ((HB4.out.cell (p := ⟨w.heap.size + 1, 1, none⟩) (by show w.heap.size + 1 < _; omega)).trans r_1)
 have x_2 : w9.cell? ⟨w.heap.size + 1, 2, none⟩ = some (.int .i64 0) := (hc9.cell (p := ⟨w.heap.size + 1, 2, none⟩) (by show w.heap.size + 1 < _; omega) (by simp [bO]; omega)).trans ((HB4.out.cell (p := ⟨w.heap.size + 1, 2, none⟩) (by show w.heap.size + 1 < _; omega)).trans r_2)
 have x_3 : w9.cell? ⟨w.heap.size + 1, 3, none⟩ = some (.int .i64 0) := (hc9.cell (p := ⟨w.heap.size + 1, 3, none⟩) (by show w.heap.size + 1 < _; omega) (by simp [bO]; omega)).trans ((HB4.out.cell (p := ⟨w.heap.size + 1, 3, none⟩) (by show w.heap.size + 1 < _; omega)).trans r_3)
 have x_4 : w9.cell? ⟨w.heap.size + 1, 4, none⟩ = some (.int .i64 0) := (hc9.cell (p := ⟨w.heap.size + 1, 4, none⟩) (by show w.heap.size + 1 < _; omega) (by simp [bO]; omega)).trans ((HB4.out.cell (p := ⟨w.heap.size + 1, 4, none⟩) (by show w.heap.size + 1 < _; omega)).trans r_4)
 have x_5 : w9.cell? ⟨w.heap.size + 1, 5, none⟩ = some (.int .i64 0) := (hc9.cell (p := ⟨w.heap.size + 1, 5, none⟩) (by show w.heap.size + 1 < _; omega) (by simp [bO]; omega)).trans ((HB4.out.cell (p := ⟨w.heap.size + 1, 5, none⟩) (by show w.heap.size + 1 < _; omega)).trans r_5)
 have x_6 : w9.cell? ⟨w.heap.size + 1, 6, none⟩ = some (.int .i64 0) := (hc9.cell (p := ⟨w.heap.size + 1, 6, none⟩) (by show w.heap.size + 1 < _; omega) (by simp [bO]; omega)).trans ((HB4.out.cell (p := ⟨w.heap.size + 1, 6, none⟩) (by show w.heap.size + 1 < _; omega)).trans r_6)
 have x_7 : w9.cell? ⟨w.heap.size + 1, 7, none⟩ = some (.int .i64 0) := (hc9.cell (p := ⟨w.heap.size + 1, 7, none⟩) (by show w.heap.size + 1 < _; omega) (by simp [bO]; omega)).trans ((HB4.out.cell (p := ⟨w.heap.size + 1, 7, none⟩) (by show w.heap.size + 1 < _; omega)).trans r_7)
 have x_8 : w9.cell? ⟨w.heap.size + 1, 8, none⟩ = some (.int .i64 0) := (hc9.cell (p := ⟨w.heap.size + 1, 8, none⟩) (by show w.heap.size + 1 < _; omega) (by simp [bO]; omega)).trans ((HB4.out.cell (p := ⟨w.heap.size + 1, 8, none⟩) (by show w.heap.size + 1 < _; omega)).trans r_8)
 have x_9 : w9.cell? ⟨w.heap.size + 1, 9, none⟩ = some (.string ⟨#[]⟩) := (hc9.cell (p := ⟨w.heap.size + 1, 9, none⟩) (by show w.heap.size + 1 < _; omega) (by simp [bO]; omega)).trans ((HB4.out.cell (p := ⟨w.heap.size + 1, 9, none⟩) (by show w.heap.size + 1 < _; omega)).trans r_9)
 have x_10 : w9.cell? ⟨w.heap.size + 1, 10, none⟩ = some (.slice none 0 0) := (hc9.cell (p := ⟨w.heap.size + 1, 10, none⟩) (by show w.heap.size + 1 < _; omega) (by simp [bO]; omega)).trans ((HB4.out.cell (p := ⟨w.heap.size + 1, 10, none⟩) (by show w.heap.size + 1 < _; omega)).trans r_10)
 have x_11 : w9.cell? ⟨w.heap.size + 1, 11, none⟩ = some (.slice none 0 0) := (hc9.cell (p := ⟨w.heap.size + 1, 11, none⟩) (by show w.heap.size + 1 < _; omega) (by simp [bO]; omega)).trans ((HB4.out.cell (p := ⟨w.heap.size + 1, 11, none⟩) (by show w.heap.size + 1 < _; omega)).trans r_11)
 have x_f : ∀ o, w9.frozen? ⟨w.heap.size + 1, o, none⟩ = false := fun o => (hc9.frozen (p := ⟨w.heap.size + 1, o, none⟩) (by show w.heap.size + 1 < _; omega) (by simp [bO]; omega)).trans ((HB4.out.frozen (p := ⟨w.heap.size + 1, o, none⟩) (by show w.heap.size + 1 < _; omega)).trans (r_f o))
 have zl : w.heap.size < w9.heap.size := by omega
 have xl : w.heap.size + 1 < w9.heap.size := by omega
 clear hus hf9 hc9 hk9 y_0 y_1 y_2 y_3 y_4 y_5 y_6 y_7 y_8 y_9 y_10 y_11 y_f yl r_0 r_1 r_2 r_3 r_4 r_5 r_6 r_7 r_8 r_9 r_10 r_11 r_f q_0 q_1 q_2 q_3 q_4 q_5 q_6 q_7 q_8 q_9 q_10 q_11 q_f hW4
 go_wp2_with fail
 refine bodyPost_ret (v := scrV s a8 c8 a9 c9) (by simp [results, Tryz.results39, scrV, go_sem, z_0, z_1, z_2, z_3, z_4, z_5, z_6, z_7, z_8, z_9, z_10, z_11, x_0, x_1, x_2, x_3, x_4, x_5, x_6, x_7, x_8, x_9, x_10, x_11, zl, xl, nn]) rfl ?_
 have hfin : ∀ wz, Ch (fun k => k = w.heap.size ∨ k = w.heap.size + 1) w9 wz → ScrN s w (.returned (scrV s a8 c8 a9 c9)) wz := fun wz hc => by
  have h9 : ∀ k ∈ bO a9, W3.heap.size ≤ k := fun k hk => by
   rcases HK9.out k hk with h | h
   ·simp [bO] at h; omega
   ·omega
  have f8 := (HF3.out.1.keepB HB4.out).ch HC9.out (fun k hk e => by
   have := (Fr.blks HF3.out.1 k hk).2
   simp [bO] at e
   omega)
  refine ⟨a8, c8, a9, c9, rfl, ⟨f8.ch hc (fun k hk e => by have := HF3.out.2 k hk; omega), (Fr.win HF9.out).ch hc (fun k hk e => by have := h9 k hk; omega), fun k hk hk2 => ?_⟩, ?_⟩
  ·have h1 := h9 k hk
   have h2 := (Fr.blks HF3.out.1 k hk2).2
   omega
  ·exact ((HB3.out.trans (HB4.out.mono (by omega))).trans (HC9.out.below (by omega) (fun k hk => by simp [bO] at hk; omega))).trans (hc.below (by omega) (fun k h => by omega))
 refine hfin _ ?_
 repeat (first | (with_reducible exact Ch.refl) | (with_reducible refine Ch.alloc ?_ _) | (with_reducible refine Ch.setCell ?_ (Or.inl (Or.inl rfl)) _) | (with_reducible refine Ch.setCell ?_ (Or.inl (Or.inr rfl)) _))
end
section
theorem Zi0 (l : List Cl) (c : Cl) : trimC (l ++ [c]) = if c.1 = 32 then trimC l else l ++ [c] := by
 unfold trimC
 rw [List.reverse_append, List.reverse_cons, List.reverse_nil, List.nil_append, List.singleton_append, List.dropWhile_cons]
 by_cases h : c.1 = 32
 ·rw [if_pos h, if_pos (by simp [h])]
 ·rw [if_neg h, if_neg (by simp [h])]
  simp
theorem Yg0 (l : List Cl) : ∃ t, l = trimC l ++ t := by
 refine ⟨(l.reverse.takeWhile (fun c => c.1 == 32)).reverse, ?_⟩
 unfold trimC
 rw [← List.reverse_append, List.takeWhile_append_dropWhile, List.reverse_reverse]
def utfL (l : List Cl) : List UInt8 := l.flatMap fun c => utfB c.1.toNat
theorem Zh7 (l : List Cl) (c : Cl) : utfL (l ++ [c]) = utfL l ++ utfB c.1.toNat := by simp [utfL]
theorem Zj5 (l : List Cl) : rowL l = utfL (trimC l) := rfl
theorem Yc8 (l : List Cl) : (utfL l).take (rowL l).length = rowL l := by
 obtain ⟨t, ht⟩ := Yg0 l
 have h1 : utfL l = rowL l ++ utfL t := by
  conv => lhs; rw [ht]
  unfold utfL rowL
  rw [List.flatMap_append]
 rw [h1, List.take_left]
theorem utfL_len (l : List Cl) : (utfL l).length ≤ 4 * l.length := Zk0 l
theorem ext_take (l : List UInt8) (k : Nat) : (⟨l.toArray⟩ : ByteArray).extract 0 k = ⟨(l.take k).toArray⟩ := by
 apply Zx9
 simp [ByteArray.extract, ByteArray.copySlice]
theorem l04Row_c (s : Scr) (ac : Option Addr) (cc : Nat) (ah : Option Addr) (dh : Nat) (y : Nat) (w : World) (h : sS s ac ah w) (hw1 : 1 ≤ s.w) (hw2 : s.w ≤ 24) (hh2 : s.h ≤ 10) (hy : y < s.h) (hcn : s.cells.length = s.w * s.h) (hcs : ∀ c ∈ s.cells, rnOK c.1) :
 Calls Tryz.prog 142 #[scrV s ac cc ah dh, .int .i64 y] w fun e w' => e = .returned (.string (rowT s y)) ∧ Below w.heap.size w w' := by
 have h0 : 0 < s.cells.length := by rw [hcn]; exact Nat.mul_pos (by omega) (by omega)
 obtain ⟨b1, o1, rfl, hb1w, _⟩ := h.cs.at h0
 have HR := zz h
 obtain ⟨nh, hnh⟩ := eX (s.hist.length)
 obtain ⟨wd, hwd⟩ := eX (s.w)
 obtain ⟨n, hn⟩ := eX (s.cells.length)
 obtain ⟨row, hrow⟩ := eX (rowC s y)
 have hyw : (y + 1) * wd ≤ n := by rw [← hn, hcn, hwd, Nat.mul_comm]; exact Nat.mul_le_mul_left _ hy
 have hn240 : n ≤ 240 := by rw [← hn, hcn]; exact Nat.mul_le_mul hw2 hh2
 have hrl : row.length = wd := by
  rw [← hrow]
  simp only [rowC, List.length_take, List.length_drop, hn, hwd]
  rw [Nat.succ_mul] at hyw
  omega
 have hrc : ∀ i (hi : i < row.length) (hj : y * wd + i < s.cells.length), s.cells[y * wd + i] = row[i] := fun i hi hj => by
  subst hrow
  simp only [rowC, List.getElem_take, List.getElem_drop, hwd]
 have hrr : ∀ c ∈ row, rnOK c.1 := fun c hc => hcs c (by
  rw [← hrow] at hc
  exact List.mem_of_mem_drop (List.mem_of_mem_take hc))
 have HRL := zz hrl
 have HRC := zz hrc
 have HRR := zz hrr
 have HT : Hid (rowT s y = ⟨(rowL row).toArray⟩) := zz (by rw [← hrow]; rfl)
 have HN := zz hn
 unfold scrV
 rw [hwd] at hw2
 rw [hwd, hn, hnh, HT.out]
 rw [Nat.succ_mul] at hyw
 obtain ⟨p, hp⟩ := eX (y * wd)
 have hpi : (y : Int) * (wd : Int) = (p : Int) := by rw [← hp]; exact (Int.natCast_mul y wd).symm
 rw [hp] at hyw
 have HP := zz hp
 clear h0 hw1 h hnh hrow hrl hrc hrr hp hcn hcs hwd hn hh2 hy
 go_enter Tryz.func142, Tryz.ntmps142
 go_wp2_with fail
 go_loopw [5, 6, 7] (fun so se sx wr => ∃ (x en : Nat) (o : ByteArray), x ≤ wd ∧ en ≤ o.size ∧ o.size ≤ 4 * x ∧ so = .string o ∧ se = .int .i64 en ∧ sx = .int .i64 x ∧ Hid (o.data.toList = utfL (row.take x) ∧ en = (rowL (row.take x)).length ∧ Below w.heap.size w wr ∧ wr.cell? ⟨w.heap.size, 0, none⟩ = some (.int .i64 wd) ∧ wr.cell? ⟨w.heap.size, 10, none⟩ = some (.slice (some ⟨b1, o1, none⟩) n cc) ∧ w.heap.size < wr.heap.size)) (fun _ _ sx _ => wd - (intOf sx).toNat)
 case atStart => exact ⟨0, 0, ⟨#[]⟩, Nat.zero_le _, Nat.zero_le _, by decide, rfl, rfl, rfl, zz ⟨rfl, rfl, bA, by simp [go_sem], by simp [go_sem], by simp⟩⟩
 case round =>
  obtain ⟨x, en, o, hx, hen, hos, rfl, rfl, rfl, HQ⟩ := hrel
  have k_0 := HQ.out.2.2.2.1
  have k_10 := HQ.out.2.2.2.2.1
  have kl := HQ.out.2.2.2.2.2
  by_cases hlt : x < wd
  ·have hlt' : (x : Int) < (wd : Int) := by omega
   have hxr : x < row.length := by rw [HRL.out]; exact hlt
   obtain ⟨c, hc⟩ := eX (row[x])
   have hxn : p + x < s.cells.length := by rw [HN.out]; omega
   have HC : Hid (s.cells[p + x] = c) := zz (by rw [← hc, ← HRC.out x hxr (by rw [HP.out]; exact hxn)]; simp only [HP.out])
   have HCM := zz (HRR.out c (by rw [← hc]; exact List.getElem_mem hxr))
   have HTK : Hid (row.take (x + 1) = row.take x ++ [c]) := zz (by rw [← hc]; exact List.take_succ_eq_append_getElem hxr)
   obtain ⟨b', o', hae, hb1, hc1⟩ := ((HR.out.below HQ.out.2.2.1).cs).at hxn
   cases hae
   have c1 := hc1 (p + x) hxn 0 (by omega)
   rw [HC.out] at c1
   simp only [Za0, Nat.add_zero, List.getElem?_cons_zero] at c1
   clear hc1 hc hxr
   have hpx : (p : Int) + (x : Int) = ((p + x : Nat) : Int) := by omega
   have hpn : p + x < n := by omega
   obtain ⟨i, hi⟩ := eX (p + x)
   rw [hi] at hpx c1 hpn
   have hin : (i : Int) < (n : Int) := by omega
   obtain ⟨U, hU⟩ : ∃ U : ByteArray, (⟨(utfB c.1.toNat).toArray⟩ : ByteArray) = U := ⟨_, rfl⟩
   have HU := zz hU
   have hUs : U.size ≤ 4 := by rw [← hU]; exact Zz7 _
   have HCALL : ∀ W, Calls Tryz.prog 153 #[.int .i64 c.1] W fun e w' => e = .returned (.string U) ∧ Below W.heap.size W w' := fun W => by rw [← hU]; exact l03Utf_c c.1 W HCM.out
   clear hU
   have hbig : ¬ 9223372036854775807 < o.size + U.size := by omega
   go_wp2_with fail
   refine (HCALL wr).mono ?_
   rintro e w2 ⟨rfl, hb2⟩
   have hz := HQ.out.2.2.1.size
   have HB2 : Hid (Below w.heap.size w w2 ∧ w.heap.size < w2.heap.size) := zz ⟨HQ.out.2.2.1.trans (hb2.mono hz), Nat.lt_of_lt_of_le kl hb2.size⟩
   have HSZ : Hid ((o ++ U).size = o.size + U.size) := zz ByteArray.size_append
   have HOD : Hid ((o ++ U).data.toList = utfL (row.take (x + 1))) := zz (by rw [HTK.out, Zh7, ← HQ.out.1, ← HU.out]; simp [ByteArray.data_append])
   have d_0 := kC hb2 kl k_0
   have d_10 := kC hb2 kl k_10
   have d_c := kC hb2 hb1 c1
   clear hb2
   by_cases h32 : c.1 = 32
   ·have h32' : (c.1 != 32) = false := by simp [h32]
    have HEN : Hid (en = (rowL (row.take (x + 1))).length) := zz (by rw [HTK.out, Zj5, Zi0, if_pos h32]; exact HQ.out.2.1)
    go_wp2_with fail
    go_roundw
    case rel => exact ⟨x + 1, en, o ++ U, by omega, by rw [HSZ.out]; omega, by rw [HSZ.out]; omega, rfl, rfl, by go_num, zz ⟨HOD.out, HEN.out, HB2.out.1, d_0, d_10, HB2.out.2⟩⟩
    case measure => simp [intOf]; omega
   ·have h32' : (c.1 != 32) = true := by simp [h32]
    have HEN : Hid (o.size + U.size = (rowL (row.take (x + 1))).length) := zz (by
     rw [HTK.out, Zj5, Zi0, if_neg h32, ← HTK.out, ← HOD.out, ← HSZ.out]
     rfl)
    go_wp2_with fail
    go_roundw
    case rel => exact ⟨x + 1, o.size + U.size, o ++ U, by omega, by rw [HSZ.out]; omega, by rw [HSZ.out]; omega, rfl, by go_num, by go_num, zz ⟨HOD.out, HEN.out, HB2.out.1, d_0, d_10, HB2.out.2⟩⟩
    case measure => simp [intOf]; omega
  ·obtain rfl : x = wd := by omega
   go_wp2_with fail
   go_ret
   refine ⟨?_, HQ.out.2.2.1⟩
   have htk : row.take x = row := List.take_of_length_le (by rw [HRL.out]; exact Nat.le_refl _)
   have h1 := HQ.out.1
   have h2 := HQ.out.2.1
   rw [htk] at h1 h2
   rw [Zx9 h1, h2]
   refine congrArg (fun s => Ending.returned (Value.string s)) ?_
   rw [ext_take, Yc8]
end
end Go.Proofs.YtjmpgeffkdjpdaaGreatDoor
