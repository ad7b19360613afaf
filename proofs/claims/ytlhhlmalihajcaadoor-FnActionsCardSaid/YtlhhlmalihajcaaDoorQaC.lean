/- The reference's csi, take, l03Parse. No conditions but sizes. -/
import Derived.Test.YtlhhlmalihajcaaDoorQaB
import Derived.Deep.DeepCutAuto
namespace Go.Proofs.YtlhhlmalihajcaaDoor
set_option linter.unusedVariables false
set_option linter.unusedSimpArgs false
section
open Go.RowKit
section
variable {P : Program} {md : Region.Mode} {ops : Array Oper} {Q : Exit → Act → World → Prop} {S : World → Prop} {ex : Nat → Bool}
theorem stepG {i : Nat} {o : Oper} {fuel : Nat} {listed : Array Bool} {a : Act} {w : World} (ho : ops[i]? = some o)
    (h : ∀ K' : Act → World → Prop, Shut (∀ a w, (ex i = true ∨ S w) → wpAnyG P md ops Q S ex fuel (listed.setIfInBounds i true) a w → K' a w) → if Region.wanted o (yielded ops a.tmps) = true then Oper.wp P o a w K' Q else K' (a.put o.dst undef) w) :
    wpOp P ops Q i (fun a' w' => (ex i = true ∨ (S w → S w')) ∧ wpAnyG P md ops Q S ex fuel (listed.setIfInBounds i true) a' w') a w :=
  wpOp_step ho (fun K' hK => h K' (fun a w h1 h2 => hK a w ⟨h1.imp id (fun h3 _ => h3), h2⟩))
theorem wpAnyG_br {rs : List Nat} {fuel : Nat} {listed : Array Bool} {a : Act} {w : World} (hr : Region.ready md ops listed = rs) (hne : rs ≠ [])
    (h : ∀ j ∈ rs, ∃ o, ops[j]? = some o ∧ ∀ K' : Act → World → Prop, Shut (∀ a w, (ex j = true ∨ S w) → wpAnyG P md ops Q S ex fuel (listed.setIfInBounds j true) a w → K' a w) → if Region.wanted o (yielded ops a.tmps) = true then Oper.wp P o a w K' Q else K' (a.put o.dst undef) w) : wpAnyG P md ops Q S ex (fuel + 1) listed a w :=
  ⟨fun h0 => absurd (hr.symm.trans h0) hne, fun j hj => by
    rw [hr] at hj
    obtain ⟨o, ho, h1⟩ := h j hj
    exact stepG ho h1⟩
end
/-- Numbers lie elsewhere: a QS again. -/
theorem QS.arg2 {X lo : Nat} {p : PV} {ap ap' al : Option Addr} {cp cp' cl : Nat} {L : List ActA} {w w1 : World} {xs : List Int} {v : Value} (h : QS X lo p ap cp L al cl w) (hc : Ch (· ∈ blkOf ap) w w1) (ha : FreshIn intE 3 1 w.heap.size w1.heap.size (.slice ap' xs.length cp') xs w1) (hv : v = .slice ap' xs.length cp') : QS X lo { p with args := xs } ap' cp' L al cl (w1.setCell ⟨X, 1, none⟩ v) := by
  subst hv
  have hk : ∀ k ∈ blkOf ap', k ∈ blkOf ap ∨ w.heap.size ≤ k := fun k hk => .inr (FreshIn.blks ha k hk).1
  have hX : ¬ X ∈ blkOf ap := fun hb => h.ps.nB (by simp [hb])
  have h5 := (hc.cell (p := ⟨X, 5, none⟩) h.ps.lt hX).trans h.c5
  have hlt := Nat.lt_of_lt_of_le h.ps.lt hc.size
  refine ⟨h.ps.arg2 hc (ha.mono (by have := h.lo; have := h.ps.lt; omega) (Nat.le_refl _)) hk, ?_, h.lo⟩
  simp [go_sem, h5, hlt]
theorem fresh_set {lo g m c : Nat} {xs : List Int} {w : World} {v : Int} (h : FreshIn intE 3 1 lo w.heap.size (.slice (some ⟨g, 0, none⟩) xs.length c) xs w) (hm : m < xs.length) : FreshIn intE 3 1 lo (w.setCell ⟨g, m, none⟩ (.int .i64 v)).heap.size (.slice (some ⟨g, 0, none⟩) (xs.set m v).length c) (xs.set m v) (w.setCell ⟨g, m, none⟩ (.int .i64 v)) := h.setI hm v
/-- What the drawn region leaves: an action in a box, its numbers copied. -/
def CsiR (p : PV) (n m : Nat) (w : World) (s : Value) (wx : World) : Prop :=
  ∃ (H : Nat) (a : Option Addr) (c : Nat), s = .pointer (some ⟨H, 0, none⟩) ∧ w.heap.size ≤ H ∧ H < wx.heap.size ∧ H ∉ blkOf a ∧ wx.cell? ⟨H, 0, none⟩ = some (.int .i64 4) ∧ wx.cell? ⟨H, 1, none⟩ = some (.int .i64 n) ∧ wx.cell? ⟨H, 2, none⟩ = some (.bool p.priv) ∧
    wx.cell? ⟨H, 3, none⟩ = some (.slice a (m + 1) c) ∧ wx.cell? ⟨H, 4, none⟩ = some (.string ⟨#[]⟩) ∧ FreshIn intE 3 1 w.heap.size wx.heap.size (.slice a p.args.length c) p.args wx ∧ Below w.heap.size w wx
/-- The box is written. -/
theorem csiR_store {p : PV} {n m H c : Nat} {a : Option Addr} {w w3 : World} (hH : w.heap.size ≤ H) (hlt : H < w3.heap.size) (hn : H ∉ blkOf a) (h0 : ∃ v, w3.cell? ⟨H, 0, none⟩ = some v) (h1 : ∃ v, w3.cell? ⟨H, 1, none⟩ = some v) (h2 : ∃ v, w3.cell? ⟨H, 2, none⟩ = some v) (h3 : ∃ v, w3.cell? ⟨H, 3, none⟩ = some v) (h4 : ∃ v, w3.cell? ⟨H, 4, none⟩ = some v)
    (hf : FreshIn intE 3 1 w.heap.size w3.heap.size (.slice a p.args.length c) p.args w3) (hm : p.args.length = m + 1) (hb : Below w.heap.size w w3) :
    CsiR p n m w (.pointer (some ⟨H, 0, none⟩)) (((((w3.setCell ⟨H, 0, none⟩ (.int .i64 4)).setCell ⟨H, 1, none⟩ (.int .i64 n)).setCell ⟨H, 2, none⟩ (.bool p.priv)).setCell ⟨H, 3, none⟩ (.slice a (m + 1) c)).setCell ⟨H, 4, none⟩ (.string ⟨#[]⟩)) := by
  obtain ⟨v0, h0⟩ := h0
  obtain ⟨v1, h1⟩ := h1
  obtain ⟨v2, h2⟩ := h2
  obtain ⟨v3, h3⟩ := h3
  obtain ⟨v4, h4⟩ := h4
  have hc : Ch (fun k => k = H) w3 (((((w3.setCell ⟨H, 0, none⟩ (.int .i64 4)).setCell ⟨H, 1, none⟩ (.int .i64 n)).setCell ⟨H, 2, none⟩ (.bool p.priv)).setCell ⟨H, 3, none⟩ (.slice a (m + 1) c)).setCell ⟨H, 4, none⟩ (.string ⟨#[]⟩)) := ((((Ch.set1 _ _ _ _).setB _ _).setB _ _).setB _ _).setB _ _
  refine ⟨H, a, c, rfl, hH, Nat.lt_of_lt_of_le hlt hc.size, hn, ?_, ?_, ?_, ?_, ?_, hf.ch hc (fun k hk e => hn (e ▸ hk)), hb.trans (hc.below (Nat.le_trans hH (by omega)) (fun k hk => by omega))⟩
  all_goals simp [go_sem, h0, h1, h2, h3, h4, hlt]
theorem csiR_alloc {p : PV} {n m c : Nat} {a : Option Addr} {w w3 : World} (hb : Below w.heap.size w w3) (hf : FreshIn intE 3 1 w.heap.size w3.heap.size (.slice a p.args.length c) p.args w3) (hm : p.args.length = m + 1) :
    CsiR p n m w (.pointer (some ⟨w3.heap.size, 0, none⟩)) (w3.alloc (.cells #[.int .i64 4, .int .i64 n, .bool p.priv, .slice a (m + 1) c, .string ⟨#[]⟩] 46)) := by
  have hc : Ch (fun _ => False) w3 (w3.alloc (.cells #[.int .i64 4, .int .i64 n, .bool p.priv, .slice a (m + 1) c, .string ⟨#[]⟩] 46)) := Ch.refl.alloc _
  refine ⟨w3.heap.size, a, c, rfl, hb.size, by simp, fun h => by have := (FreshIn.blks hf _ h).2; omega, ?_, ?_, ?_, ?_, ?_, hf.ch hc (fun _ _ h => h), hb.alloc hb.size _⟩
  all_goals simp [go_sem]

set_option maxRecDepth 100000 in
set_option maxHeartbeats 16000000 in
theorem csi_r (p : PV) (X lo : Nat) (ap al : Option Addr) (cp cl : Nat) (L : List ActA) (b : UInt8) (w : World) (h : QS X lo p ap cp L al cl w) (hL : L.length ≤ 1048576) (hs : p.state = 2) (hAA : argsB p.args = true) (hT : p.text = e0) (hU : p.utf = e0) :
    Calls Tryd.prog 91 #[.pointer (some ⟨X, 0, none⟩), .int .i64 b.toNat] w (fun e w' => QR X lo (cstep p b) L e w w') := by
  obtain ⟨iI, hI, hI0, hI1, hI2⟩ := info_parts Tryd.infoInt
  have HP := Lib.hid h
  have k_0 : w.cell? ⟨X, 0, none⟩ = some (.int .i64 2) := by rw [h.ps.c0, hs]
  have k_2 : w.cell? ⟨X, 2, none⟩ = some (.bool p.priv) := h.ps.c2
  have k_3 : w.cell? ⟨X, 3, none⟩ = some (.string ⟨#[]⟩) := by rw [h.ps.c3, hT]
  have k_4 : w.cell? ⟨X, 4, none⟩ = some (.string ⟨#[]⟩) := by rw [h.ps.c4, hU]
  have k_5 := h.c5
  simp only [argsB, Bool.and_eq_true, decide_eq_true_eq, List.all_eq_true] at hAA
  obtain ⟨⟨hl1, hl8⟩, hall⟩ := hAA
  obtain ⟨g, rfl, hg1, _, hg3, ho⟩ := h.ps.args.block (by omega)
  obtain ⟨m, hm⟩ : ∃ m, p.args.length = m + 1 := ⟨p.args.length - 1, by omega⟩
  have k_1 : w.cell? ⟨X, 1, none⟩ = some (.slice (some ⟨g, 0, none⟩) (m + 1) cp) := by rw [h.ps.c1, hm]
  have HLM := Lib.hid hm
  have HST := Lib.hid hs
  have HTX := Lib.hid hT
  have HUX := Lib.hid hU
  have hXg : ¬ X = g := fun e => h.ps.nB (by simp [blkOf, e])
  have hgX : ¬ g = X := fun e => hXg e.symm
  have hlm : m < p.args.length := by omega
  obtain ⟨x, hx⟩ : ∃ x, p.args[m]'hlm = x := ⟨_, rfl⟩
  have HXE := Lib.hid hx
  have a_m : w.cell? ⟨g, m, none⟩ = some (.int .i64 x) := by
    have := (h.ps.args.sl (fun _ => rfl) : Sl intE 1 w (some ⟨g, 0, none⟩) p.args)
    obtain ⟨b1, o1, he, _, hc⟩ := this.at hlm
    cases he
    have h2 := hc m hlm 0 (by omega)
    simpa [intE, hx] using h2
  have HSL : Hid (Sl intE 1 w (some ⟨g, 0, none⟩) p.args) := Lib.hid (h.ps.args.sl (fun _ => rfl))
  have hxb : -1 ≤ x ∧ x ≤ 9999 := by
    rw [← hx]
    exact hall _ (List.getElem_mem _)
  obtain ⟨hx1, hx2⟩ := hxb
  have HX : Hid (lastA p.args = x) := Lib.hid (by rw [last_at hm]; exact hx)
  have HX0 : Hid (m = 0 → x = -1 → p.args = [-1]) := Lib.hid (fun h0 h1 => by
    subst h0
    exact one_at hm (by rw [hx]; exact h1))
  have HX1 : Hid (p.args = [-1] → m = 0 ∧ x = -1) := Lib.hid (fun h0 => by
    have e1 : m = 0 := by rw [h0] at hm; simp at hm; omega
    subst e1
    refine ⟨rfl, ?_⟩
    rw [← hx]
    simp [h0])
  have hm7 : m ≤ 7 := by omega
  clear ho hall hs hT hU hx hl1 hm
  have kf := h.ps.fz
  have klt := h.ps.lt
  have hlo : lo ≤ w.heap.size := by have := h.lo; omega
  have h256 : b.toNat < 256 := b.toNat_lt
  clear h
  obtain ⟨Gr, hG⟩ : ∃ G, cstep p b = G := ⟨_, rfl⟩
  have HGG := Lib.hid hG
  rw [hG]
  clear hG
  obtain ⟨n, hn⟩ : ∃ n, b.toNat = n := ⟨_, rfl⟩
  rw [hn] at h256 ⊢
  have HN := Lib.hid hn
  clear hn
  by_cases h27 : n = 27
  case pos =>
    have HR : Hid (Gr = (pst 1, [])) := Lib.hid (by rw [← HGG.out]; exact cs1 HN.out h27)
    have g27 : ((n : Int) == 27) = true := by subst h27; rfl
    clear h27
    go_enter Tryd.func91, Tryd.ntmps91
    go_wp2_with fail
    refine (ground_r X lo _ (some ⟨g, 0, none⟩) al cp cl L _ HP.out).mono ?_
    rintro e w1 ⟨rfl, g', hg', hq, hc⟩
    have HQ := Lib.hid hq
    have HC := Lib.hid hc
    have y_0 := hq.ps.c0
    have y_1 := hq.ps.c1
    have y_2 := hq.ps.c2
    have y_3 := hq.ps.c3
    have y_4 := hq.ps.c4
    have y_5 := hq.c5
    have yf := hq.ps.fz
    have ylt := hq.ps.lt
    clear hq hc
    go_wp2_with fail
    refine bodyPost_end (v := .tuple #[]) (by simp [results, Tryd.results91]) rfl ?_
    refine QR.only (p' := pst 1) (HQ.out.cells ?hc ?_ ?_ ?_ ?_ ?_ ?_ ?_ (.inl ⟨rfl, rfl, rfl⟩)) HP.out (HC.out.trans ?hc (fun i hi => .inl hi)) HR.out
    case hc => repeat (first | (with_reducible exact Ch.refl) | (with_reducible refine Ch.alloc ?_ _) | (with_reducible refine Ch.drew ?_) | (with_reducible refine Ch.setB ?_ _ _))
    all_goals first | (intro o; simp [go_sem, yf, ylt]; done) | (simp [go_sem, y_0, y_1, y_2, y_3, y_4, y_5, ylt, pst, pz]; done)
  have g27 : ((n : Int) == 27) = false := beq_eq_false_iff_ne.2 (by omega)
  obtain ⟨c, hc⟩ : ∃ c, ctl n = c := ⟨_, rfl⟩
  have HCT : Hid (ctlI (n : Int) = c) := Lib.hid (by rw [ctl_eq]; exact hc)
  have HCC := Lib.hid hc
  clear hc
  cases c
  case true =>
    have HR : Hid (Gr = (p, [⟨2, n, false, [], e0⟩])) := Lib.hid (by rw [← HGG.out]; exact cs2 HN.out h27 HCC.out)
    go_enter Tryd.func91, Tryd.ntmps91
    go_wp2_with (go_at_call 78; refine (control_r _ _).mono ?_; rw [HCT.out]; rintro e w' ⟨rfl, rfl⟩)
    refine (tell_r X lo p (some ⟨g, 0, none⟩) al none cp cl 0 L ⟨2, n, false, [], e0⟩ _ HP.out (FreshIn.nil _ _ _ _ _ _) (by simp [blkOf]) hL (by simp)).mono ?_
    rintro e w1 hq
    have HQ := Lib.hid hq
    obtain ⟨rfl, _⟩ := hq
    go_wp2_with fail
    refine bodyPost_end (v := .tuple #[]) (by simp [results, Tryd.results91]) rfl ?_
    rw [HR.out]
    exact HQ.out
  obtain ⟨v8, hv8⟩ : ∃ v, inB (n : Int) 48 57 = v := ⟨_, rfl⟩
  have HV8 := Lib.hid hv8
  clear hv8
  cases v8
  case true =>
    have h3 : 48 ≤ n ∧ n ≤ 57 := by have := HV8.out; simp [inB] at this; omega
    have HR : Hid (Gr = ({ p with args := p.args.dropLast ++ [min 9999 (max 0 x * 10 + ((n : Int) - 48))] }, [])) := Lib.hid (by rw [← HGG.out, cs3 HN.out HCC.out h3, HX.out])
    obtain ⟨h31, h32⟩ := h3
    have g31 : (48 : Int) ≤ (n : Int) := by omega
    have g32 : (n : Int) ≤ 57 := by omega
    obtain ⟨y, hy⟩ : ∃ y, max 0 x = y := ⟨_, rfl⟩
    have hy0 : 0 ≤ y := by omega
    have hy1 : y ≤ 9999 := by omega
    rw [hy] at HR
    have HY := Lib.hid hy
    clear h31 h32 hy
    go_enter Tryd.func91, Tryd.ntmps91
    go_upto_region 9 with (first | (go_at_call 78; refine (control_r _ _).mono ?_; rw [HCT.out]; rintro e w' ⟨rfl, rfl⟩) | (go_at_call 57; refine (l01In_c _ _ _ _).mono ?_; (first | rw [HV8.out] | rw [HV6.out]); rintro e w' ⟨rfl, rfl⟩))
    have HSRC : Hid (Src Tryd.prog 1 23 (.slice (some ⟨g, 0, none⟩) (m + 1) cp) p.args.length (p.args.flatMap intE) (w.alloc (.cells #[] 3))) := Lib.hid (by
      have h1 := Src.ofSl (P := Tryd.prog) (tx := 23) (enc := intE) (sz := 1) (xs := p.args) Tryd.underlying23 (fun _ => rfl) intOne (HSL.out.alloc (.cells #[] 3)) cp
      rwa [HLM.out] at h1 ⊢)
    have HFZ : Hid (FreshIn intE 3 1 w.heap.size (w.alloc (.cells #[] 3)).heap.size (.slice (some ⟨w.heap.size, 0, none⟩) 0 0) ([] : List Int) (w.alloc (.cells #[] 3))) := Lib.hid (fresh_zero _ _ _ rfl (Nat.le_refl _))
    go_wp2_with (at_builtin; refine wpList_append_ch (.tmp 39) (.tmp 44) 23 23 w.heap.size 3 iI (.int .i64 0) 1 8 Tryd.underlying23 hI hI0 hI1 hI2 rfl (by decide) (some ⟨w.heap.size, 0, none⟩) 0 0 ([] : List Int) HFZ.out (.slice (some ⟨g, 0, none⟩) (m + 1) cp) p.args HSRC.out (by simp; omega) (by simp) rfl rfl rfl rfl ?_)
    intro a1 c1 w1 us hus hf hc hk
    have HUS : Hid (us = p.args) := Lib.hid (by simpa using hus.out)
    rw [HUS.out] at hf
    have HLS : Hid (us.length = m + 1) := Lib.hid (by rw [HUS.out]; exact HLM.out)
    rw [HLS.out]
    have HF := Lib.hid hf
    have HC1 : Hid (Ch (fun _ => False) w w1) := Lib.hid ((Ch.refl.alloc _).trans hc (fun i hi => .inr (by simp [blkOf] at hi; omega)))
    obtain ⟨g1, rfl, hg11, hg12, hg13, ho1⟩ := hf.block (by rw [HLM.out]; omega)
    have ym : w1.cell? ⟨g1, m, none⟩ = some (.int .i64 x) := by
      have := (hf.sl (fun _ => rfl) : Sl intE 1 w1 (some ⟨g1, 0, none⟩) p.args)
      obtain ⟨b1, o1, he, _, hc2⟩ := this.at hlm
      cases he
      have h2 := hc2 m hlm 0 (by omega)
      simpa [intE, HXE.out] using h2
    have gf1 : ∀ o, w1.frozen? ⟨g1, o, none⟩ = false := fun o => ho1.frozenAt o
    have hX1 : ¬ X = g1 := by omega
    have h1X : ¬ g1 = X := by omega
    have ylt : X < w1.heap.size := by omega
    have y_0 := (HC1.out.cell (p := ⟨X, 0, none⟩) klt (fun h => h)).trans k_0
    have y_1 := (HC1.out.cell (p := ⟨X, 1, none⟩) klt (fun h => h)).trans k_1
    have y_2 := (HC1.out.cell (p := ⟨X, 2, none⟩) klt (fun h => h)).trans k_2
    have y_5 := (HC1.out.cell (p := ⟨X, 5, none⟩) klt (fun h => h)).trans k_5
    have yf : ∀ o, w1.frozen? ⟨X, o, none⟩ = false := fun o => (HC1.out.frozen (p := ⟨X, o, none⟩) klt (fun h => h)).trans (kf o)
    have em : (m : Int) < (m : Int) + 1 := by omega
    clear hus hf hc hk ho1
    have HVE : Hid (min 9999 (max 0 x * 10 + (n : Int) - 48) = min 9999 (y * 10 + ((n : Int) - 48))) := Lib.hid (by rw [HY.out]; omega)
    go_wp2_with fail
    all_goals
      rw [HVE.out]
      have hset := set_last HLM.out (min 9999 (y * 10 + ((n : Int) - 48)))
      refine bodyPost_end (v := .tuple #[]) (by simp [results, Tryd.results91]) rfl ?_
      refine QR.only (p' := { p with args := p.args.set m (min 9999 (y * 10 + ((n : Int) - 48))) }) (HP.out.arg2 (w1 := w1.setCell ⟨g1, m, none⟩ (.int .i64 (min 9999 (y * 10 + ((n : Int) - 48))))) ((HC1.out.mono (fun i hi => hi.elim)).setCell (p := ⟨g1, m, none⟩) (.inr hg11) _) (HF.out.setI hlm _) (by rw [List.length_set, HLM.out])) HP.out ?_ (by rw [HR.out, hset])
      exact ((HC1.out.mono (M := fun k => k = X) (fun i hi => hi.elim)).setCell (p := ⟨g1, m, none⟩) (.inr hg11) _).setB 1 _
  have h3 : ¬ (48 ≤ n ∧ n ≤ 57) := by have := HV8.out; simp [inB] at this; omega
  by_cases h59 : n = 59
  case pos =>
    have g59 : ((n : Int) == 59) = true := by subst h59; rfl
    have H59 := Lib.hid h59
    have HV6 : Hid (inB (n : Int) 64 126 = false) := Lib.hid (by subst h59; rfl)
    have HH63 : Hid (¬ (n = 63 ∧ p.args = [-1] ∧ p.priv = false)) := Lib.hid (fun h => by omega)
    have HH64 : Hid (¬ (64 ≤ n ∧ n ≤ 126)) := Lib.hid (by omega)
    have g63 : ((n : Int) == 63) = false := beq_eq_false_iff_ne.2 (by omega)
    clear h59
    by_cases hm8 : m < 7
    case neg =>
      have gm8 : ¬ (m : Int) + 1 < 8 := by omega
      have HH59 : Hid (¬ (n = 59 ∧ p.args.length < 8)) := Lib.hid (fun h => by rw [HLM.out] at h; omega)
      have HR : Hid (Gr = (pst 3, [])) := Lib.hid (by rw [← HGG.out]; exact cs7 HN.out h27 HCC.out h3 HH59.out HH63.out HH64.out)
      go_enter Tryd.func91, Tryd.ntmps91
      go_wp2_with (first | (go_at_call 78; refine (control_r _ _).mono ?_; rw [HCT.out]; rintro e w' ⟨rfl, rfl⟩) | (go_at_call 57; refine (l01In_c _ _ _ _).mono ?_; (first | rw [HV8.out] | rw [HV6.out]); rintro e w' ⟨rfl, rfl⟩))
      refine (ground_r X lo _ (some ⟨g, 0, none⟩) al cp cl L _ HP.out).mono ?_
      rintro e w1 ⟨rfl, g', hg', hq, hc⟩
      have HQ := Lib.hid hq
      have HC := Lib.hid hc
      have y_0 := hq.ps.c0
      have y_1 := hq.ps.c1
      have y_2 := hq.ps.c2
      have y_3 := hq.ps.c3
      have y_4 := hq.ps.c4
      have y_5 := hq.c5
      have yf := hq.ps.fz
      have ylt := hq.ps.lt
      clear hq hc
      go_wp2_with fail
      refine bodyPost_end (v := .tuple #[]) (by simp [results, Tryd.results91]) rfl ?_
      refine QR.only (p' := pst 3) (HQ.out.cells ?hc ?_ ?_ ?_ ?_ ?_ ?_ ?_ (.inl ⟨rfl, rfl, rfl⟩)) HP.out (HC.out.trans ?hc (fun i hi => .inl hi)) HR.out
      case hc => repeat (first | (with_reducible exact Ch.refl) | (with_reducible refine Ch.alloc ?_ _) | (with_reducible refine Ch.drew ?_) | (with_reducible refine Ch.setB ?_ _ _))
      all_goals first | (intro o; simp [go_sem, yf, ylt]; done) | (simp [go_sem, y_0, y_1, y_2, y_3, y_4, y_5, ylt, pst, pz]; done)
    have HR : Hid (Gr = ({ p with args := p.args ++ [-1] }, [])) := Lib.hid (by rw [← HGG.out]; exact cs4 HN.out HCC.out ⟨H59.out, by rw [HLM.out]; omega⟩)
    have gm8 : (m : Int) + 1 < 8 := by omega
    go_enter Tryd.func91, Tryd.ntmps91
    go_upto_region 13 with (first | (go_at_call 78; refine (control_r _ _).mono ?_; rw [HCT.out]; rintro e w' ⟨rfl, rfl⟩) | (go_at_call 57; refine (l01In_c _ _ _ _).mono ?_; (first | rw [HV8.out] | rw [HV6.out]); rintro e w' ⟨rfl, rfl⟩))
    have HSRC : Hid (Src Tryd.prog 1 23 (.slice (some ⟨g, 0, none⟩) (m + 1) cp) p.args.length (p.args.flatMap intE) (w.alloc (.cells #[] 3))) := Lib.hid (by
      have h1 := Src.ofSl (P := Tryd.prog) (tx := 23) (enc := intE) (sz := 1) (xs := p.args) Tryd.underlying23 (fun _ => rfl) intOne (HSL.out.alloc (.cells #[] 3)) cp
      rwa [HLM.out] at h1 ⊢)
    have HFZ : Hid (FreshIn intE 3 1 w.heap.size (w.alloc (.cells #[] 3)).heap.size (.slice (some ⟨w.heap.size, 0, none⟩) 0 0) ([] : List Int) (w.alloc (.cells #[] 3))) := Lib.hid (fresh_zero _ _ _ rfl (Nat.le_refl _))
    go_wp2_with (at_builtin; refine wpList_append_ch (.tmp 73) (.tmp 78) 23 23 w.heap.size 3 iI (.int .i64 0) 1 8 Tryd.underlying23 hI hI0 hI1 hI2 rfl (by decide) (some ⟨w.heap.size, 0, none⟩) 0 0 ([] : List Int) HFZ.out (.slice (some ⟨g, 0, none⟩) (m + 1) cp) p.args HSRC.out (by simp; omega) (by simp) rfl rfl rfl rfl ?_)
    intro a1 c1 w1 us hus hf hc hk
    have HUS : Hid (us = p.args) := Lib.hid (by simpa using hus.out)
    rw [HUS.out] at hf
    have HLS : Hid (us.length = m + 1) := Lib.hid (by rw [HUS.out]; exact HLM.out)
    rw [HLS.out]
    have HF := Lib.hid hf
    have HC1 : Hid (Ch (fun _ => False) w w1) := Lib.hid ((Ch.refl.alloc _).trans hc (fun i hi => .inr (by simp [blkOf] at hi; omega)))
    obtain ⟨g1, rfl, hg11, hg12, hg13, ho1⟩ := hf.block (by rw [HLM.out]; omega)
    have ylt : X < w1.heap.size := by omega
    have HSR2 : Hid (Src Tryd.prog 1 23 (.slice (some ⟨w1.heap.size, 0, none⟩) 1 1) [(-1 : Int)].length ([(-1 : Int)].flatMap intE) (w1.alloc (.cells #[.int .i64 (-1)] 3))) := Lib.hid (Src.ofBox (enc := intE) Tryd.underlying23 (fun _ => rfl) intOne (-1 : Int) _ _ (by first | rfl | simp [intE]) _ rfl)
    have hrow := hf.ch (M := fun _ => False) (Ch.of_below ((Below.refl _ _).alloc (Nat.le_refl _) (.cells #[.int .i64 (-1)] 3))) (fun _ _ h => h)
    rw [HLM.out] at hrow
    have HROW := Lib.hid hrow
    clear hus hf hc hk ho1 hrow
    go_wp2_with (at_builtin; refine wpList_append_ch (.tmp 79) (.tmp 80) 23 23 w.heap.size 3 iI (.int .i64 0) 1 8 Tryd.underlying23 hI hI0 hI1 hI2 rfl (by decide) (some ⟨g1, 0, none⟩) (m + 1) c1 p.args HROW.out (.slice (some ⟨w1.heap.size, 0, none⟩) 1 1) [(-1 : Int)] HSR2.out (by rw [HLM.out]; simp; omega) (by simp; omega) rfl rfl rfl rfl ?_)
    intro a2 c2 w2 vs hus hf hc hk
    have HVS := hus
    have HF2 := Lib.hid hf
    have HC2 : Hid (Ch (fun _ => False) w w2) := Lib.hid ((HC1.out.alloc _).trans hc (fun i hi => .inr (by simp [blkOf] at hi; omega)))
    have y_1 := (HC2.out.cell (p := ⟨X, 1, none⟩) klt (fun h => h)).trans k_1
    have yf : ∀ o, w2.frozen? ⟨X, o, none⟩ = false := fun o => (HC2.out.frozen (p := ⟨X, o, none⟩) klt (fun h => h)).trans (kf o)
    have ylt2 : X < w2.heap.size := Nat.lt_of_lt_of_le klt HC2.out.size
    clear hus hf hc hk
    go_wp2_with fail
    refine bodyPost_end (v := .tuple #[]) (by simp [results, Tryd.results91]) rfl ?_
    refine QR.only (p' := { p with args := vs }) (HP.out.arg2 (HC2.out.mono (fun i hi => hi.elim)) HF2.out rfl) HP.out ?_ (by rw [HR.out, HVS.out])
    exact (HC2.out.mono (fun i hi => hi.elim)).setB 1 _
  have g59 : ((n : Int) == 59) = false := beq_eq_false_iff_ne.2 (by omega)
  have HH59 : Hid (¬ (n = 59 ∧ p.args.length < 8)) := Lib.hid (fun h => h59 h.1)
  by_cases h63 : n = 63
  case pos =>
    have g63 : ((n : Int) == 63) = true := by subst h63; rfl
    have HV6 : Hid (inB (n : Int) 64 126 = false) := Lib.hid (by subst h63; rfl)
    have HH64 : Hid (¬ (64 ≤ n ∧ n ≤ 126)) := Lib.hid (by omega)
    have H63 := Lib.hid h63
    clear h63
    by_cases hm0 : m = 0
    case neg =>
      have gm0 : ((m : Int) == 0) = false := beq_eq_false_iff_ne.2 (by omega)
      have HH63 : Hid (¬ (n = 63 ∧ p.args = [-1] ∧ p.priv = false)) := Lib.hid (fun h => hm0 (HX1.out h.2.1).1)
      have HR : Hid (Gr = (pst 3, [])) := Lib.hid (by rw [← HGG.out]; exact cs7 HN.out h27 HCC.out h3 HH59.out HH63.out HH64.out)
      go_enter Tryd.func91, Tryd.ntmps91
      go_wp2_with (first | (go_at_call 78; refine (control_r _ _).mono ?_; rw [HCT.out]; rintro e w' ⟨rfl, rfl⟩) | (go_at_call 57; refine (l01In_c _ _ _ _).mono ?_; (first | rw [HV8.out] | rw [HV6.out]); rintro e w' ⟨rfl, rfl⟩))
      refine (ground_r X lo _ (some ⟨g, 0, none⟩) al cp cl L _ HP.out).mono ?_
      rintro e w1 ⟨rfl, g', hg', hq, hc⟩
      have HQ := Lib.hid hq
      have HC := Lib.hid hc
      have y_0 := hq.ps.c0
      have y_1 := hq.ps.c1
      have y_2 := hq.ps.c2
      have y_3 := hq.ps.c3
      have y_4 := hq.ps.c4
      have y_5 := hq.c5
      have yf := hq.ps.fz
      have ylt := hq.ps.lt
      clear hq hc
      go_wp2_with fail
      refine bodyPost_end (v := .tuple #[]) (by simp [results, Tryd.results91]) rfl ?_
      refine QR.only (p' := pst 3) (HQ.out.cells ?hc ?_ ?_ ?_ ?_ ?_ ?_ ?_ (.inl ⟨rfl, rfl, rfl⟩)) HP.out (HC.out.trans ?hc (fun i hi => .inl hi)) HR.out
      case hc => repeat (first | (with_reducible exact Ch.refl) | (with_reducible refine Ch.alloc ?_ _) | (with_reducible refine Ch.drew ?_) | (with_reducible refine Ch.setB ?_ _ _))
      all_goals first | (intro o; simp [go_sem, yf, ylt]; done) | (simp [go_sem, y_0, y_1, y_2, y_3, y_4, y_5, ylt, pst, pz]; done)
    have gm0 : ((m : Int) == 0) = true := by subst hm0; rfl
    have a_0 : w.cell? ⟨g, 0, none⟩ = some (.int .i64 x) := by rw [← a_m, hm0]
    have HM0 := Lib.hid hm0
    clear hm0
    by_cases hxm : x = -1
    case neg =>
      have gx : ¬ x < 0 := by omega
      have HH63 : Hid (¬ (n = 63 ∧ p.args = [-1] ∧ p.priv = false)) := Lib.hid (fun h => hxm (HX1.out h.2.1).2)
      have HR : Hid (Gr = (pst 3, [])) := Lib.hid (by rw [← HGG.out]; exact cs7 HN.out h27 HCC.out h3 HH59.out HH63.out HH64.out)
      go_enter Tryd.func91, Tryd.ntmps91
      go_wp2_with (first | (go_at_call 78; refine (control_r _ _).mono ?_; rw [HCT.out]; rintro e w' ⟨rfl, rfl⟩) | (go_at_call 57; refine (l01In_c _ _ _ _).mono ?_; (first | rw [HV8.out] | rw [HV6.out]); rintro e w' ⟨rfl, rfl⟩))
      refine (ground_r X lo _ (some ⟨g, 0, none⟩) al cp cl L _ HP.out).mono ?_
      rintro e w1 ⟨rfl, g', hg', hq, hc⟩
      have HQ := Lib.hid hq
      have HC := Lib.hid hc
      have y_0 := hq.ps.c0
      have y_1 := hq.ps.c1
      have y_2 := hq.ps.c2
      have y_3 := hq.ps.c3
      have y_4 := hq.ps.c4
      have y_5 := hq.c5
      have yf := hq.ps.fz
      have ylt := hq.ps.lt
      clear hq hc
      go_wp2_with fail
      refine bodyPost_end (v := .tuple #[]) (by simp [results, Tryd.results91]) rfl ?_
      refine QR.only (p' := pst 3) (HQ.out.cells ?hc ?_ ?_ ?_ ?_ ?_ ?_ ?_ (.inl ⟨rfl, rfl, rfl⟩)) HP.out (HC.out.trans ?hc (fun i hi => .inl hi)) HR.out
      case hc => repeat (first | (with_reducible exact Ch.refl) | (with_reducible refine Ch.alloc ?_ _) | (with_reducible refine Ch.drew ?_) | (with_reducible refine Ch.setB ?_ _ _))
      all_goals first | (intro o; simp [go_sem, yf, ylt]; done) | (simp [go_sem, y_0, y_1, y_2, y_3, y_4, y_5, ylt, pst, pz]; done)
    have gx : x < 0 := by omega
    have HXM := Lib.hid hxm
    clear hxm
    obtain ⟨pv, hpv⟩ : ∃ b, p.priv = b := ⟨_, rfl⟩
    rw [hpv] at k_2
    have HPV := Lib.hid hpv
    clear hpv
    cases pv
    case true =>
      have HH63 : Hid (¬ (n = 63 ∧ p.args = [-1] ∧ p.priv = false)) := Lib.hid (fun h => by rw [HPV.out] at h; exact absurd h.2.2 (by simp))
      have HR : Hid (Gr = (pst 3, [])) := Lib.hid (by rw [← HGG.out]; exact cs7 HN.out h27 HCC.out h3 HH59.out HH63.out HH64.out)
      go_enter Tryd.func91, Tryd.ntmps91
      go_wp2_with (first | (go_at_call 78; refine (control_r _ _).mono ?_; rw [HCT.out]; rintro e w' ⟨rfl, rfl⟩) | (go_at_call 57; refine (l01In_c _ _ _ _).mono ?_; (first | rw [HV8.out] | rw [HV6.out]); rintro e w' ⟨rfl, rfl⟩))
      refine (ground_r X lo _ (some ⟨g, 0, none⟩) al cp cl L _ HP.out).mono ?_
      rintro e w1 ⟨rfl, g', hg', hq, hc⟩
      have HQ := Lib.hid hq
      have HC := Lib.hid hc
      have y_0 := hq.ps.c0
      have y_1 := hq.ps.c1
      have y_2 := hq.ps.c2
      have y_3 := hq.ps.c3
      have y_4 := hq.ps.c4
      have y_5 := hq.c5
      have yf := hq.ps.fz
      have ylt := hq.ps.lt
      clear hq hc
      go_wp2_with fail
      refine bodyPost_end (v := .tuple #[]) (by simp [results, Tryd.results91]) rfl ?_
      refine QR.only (p' := pst 3) (HQ.out.cells ?hc ?_ ?_ ?_ ?_ ?_ ?_ ?_ (.inl ⟨rfl, rfl, rfl⟩)) HP.out (HC.out.trans ?hc (fun i hi => .inl hi)) HR.out
      case hc => repeat (first | (with_reducible exact Ch.refl) | (with_reducible refine Ch.alloc ?_ _) | (with_reducible refine Ch.drew ?_) | (with_reducible refine Ch.setB ?_ _ _))
      all_goals first | (intro o; simp [go_sem, yf, ylt]; done) | (simp [go_sem, y_0, y_1, y_2, y_3, y_4, y_5, ylt, pst, pz]; done)
    have HR : Hid (Gr = ({ p with priv := true }, [])) := Lib.hid (by rw [← HGG.out]; exact cs5 HN.out HCC.out ⟨H63.out, HX0.out HM0.out HXM.out, HPV.out⟩)
    go_enter Tryd.func91, Tryd.ntmps91
    go_wp2_with (first | (go_at_call 78; refine (control_r _ _).mono ?_; rw [HCT.out]; rintro e w' ⟨rfl, rfl⟩) | (go_at_call 57; refine (l01In_c _ _ _ _).mono ?_; (first | rw [HV8.out] | rw [HV6.out]); rintro e w' ⟨rfl, rfl⟩))
    refine bodyPost_end (v := .tuple #[]) (by simp [results, Tryd.results91]) rfl ?_
    refine QR.only (p' := { p with priv := true }) (HP.out.cells ?hc ?_ ?_ ?_ ?_ ?_ ?_ ?_ (.inl ⟨rfl, rfl, rfl⟩)) HP.out ?hc HR.out
    case hc => repeat (first | (with_reducible exact Ch.refl) | (with_reducible refine Ch.alloc ?_ _) | (with_reducible refine Ch.drew ?_) | (with_reducible refine Ch.setB ?_ _ _))
    all_goals first | (intro o; simp [go_sem, kf, klt]; done) | (simp [go_sem, k_0, k_1, k_2, k_3, k_4, k_5, klt, HST.out, HTX.out, HUX.out, HLM.out]; done)
  have g63 : ((n : Int) == 63) = false := beq_eq_false_iff_ne.2 (by omega)
  have HH63 : Hid (¬ (n = 63 ∧ p.args = [-1] ∧ p.priv = false)) := Lib.hid (fun h => h63 h.1)
  obtain ⟨v6, hv6⟩ : ∃ v, inB (n : Int) 64 126 = v := ⟨_, rfl⟩
  have HV6 := Lib.hid hv6
  clear hv6
  cases v6
  case false =>
    have HH64 : Hid (¬ (64 ≤ n ∧ n ≤ 126)) := Lib.hid (by have := HV6.out; simp [inB] at this; omega)
    have HR : Hid (Gr = (pst 3, [])) := Lib.hid (by rw [← HGG.out]; exact cs7 HN.out h27 HCC.out h3 HH59.out HH63.out HH64.out)
    go_enter Tryd.func91, Tryd.ntmps91
    go_wp2_with (first | (go_at_call 78; refine (control_r _ _).mono ?_; rw [HCT.out]; rintro e w' ⟨rfl, rfl⟩) | (go_at_call 57; refine (l01In_c _ _ _ _).mono ?_; (first | rw [HV8.out] | rw [HV6.out]); rintro e w' ⟨rfl, rfl⟩))
    refine (ground_r X lo _ (some ⟨g, 0, none⟩) al cp cl L _ HP.out).mono ?_
    rintro e w1 ⟨rfl, g', hg', hq, hc⟩
    have HQ := Lib.hid hq
    have HC := Lib.hid hc
    have y_0 := hq.ps.c0
    have y_1 := hq.ps.c1
    have y_2 := hq.ps.c2
    have y_3 := hq.ps.c3
    have y_4 := hq.ps.c4
    have y_5 := hq.c5
    have yf := hq.ps.fz
    have ylt := hq.ps.lt
    clear hq hc
    go_wp2_with fail
    refine bodyPost_end (v := .tuple #[]) (by simp [results, Tryd.results91]) rfl ?_
    refine QR.only (p' := pst 3) (HQ.out.cells ?hc ?_ ?_ ?_ ?_ ?_ ?_ ?_ (.inl ⟨rfl, rfl, rfl⟩)) HP.out (HC.out.trans ?hc (fun i hi => .inl hi)) HR.out
    case hc => repeat (first | (with_reducible exact Ch.refl) | (with_reducible refine Ch.alloc ?_ _) | (with_reducible refine Ch.drew ?_) | (with_reducible refine Ch.setB ?_ _ _))
    all_goals first | (intro o; simp [go_sem, yf, ylt]; done) | (simp [go_sem, y_0, y_1, y_2, y_3, y_4, y_5, ylt, pst, pz]; done)
  have HR : Hid (Gr = (pz, [⟨4, n, p.priv, p.args, e0⟩])) := Lib.hid (by rw [← HGG.out]; exact cs6 HN.out HCC.out (by have := HV6.out; simp [inB] at this; omega))
  go_enter Tryd.func91, Tryd.ntmps91
  go_upto_region 17 with (first | (go_at_call 78; refine (control_r _ _).mono ?_; rw [HCT.out]; rintro e w' ⟨rfl, rfl⟩) | (go_at_call 57; refine (l01In_c _ _ _ _).mono ?_; (first | rw [HV8.out] | rw [HV6.out]); rintro e w' ⟨rfl, rfl⟩))
  go_cut [6] (fun s wx => CsiR p n m w s wx)
  case first =>
    have hS0 : w.cell? ⟨X, 2, none⟩ = some (.bool p.priv) ∧ w.cell? ⟨X, 1, none⟩ = some (.slice (some ⟨g, 0, none⟩) (m + 1) cp) := ⟨k_2, k_1⟩
    refine wp_region_G (fun w' => w'.cell? ⟨X, 2, none⟩ = some (.bool p.priv) ∧ w'.cell? ⟨X, 1, none⟩ = some (.slice (some ⟨g, 0, none⟩) (m + 1) cp)) (fun i => i == 15) (by kernel_rfl) hS0 ?_
    refine wpAnyG_takeW (i := 0) (v := ?_) rfl (by kernel_rfl) (by kernel_rfl) (by kernel_rfl) (fun _ _ _ h => h) (Or.inl ⟨by rfl, ?_⟩) ?_
    rotate_left
    · intro w' hSw
      go_simp
      try (with_reducible rfl)
    try simp only [Act.put, List.getElem_toArray, List.getElem_cons_zero, List.getElem_cons_succ, List.setIfInBounds_toArray, List.set_cons_zero, List.set_cons_succ]
    refine wpAnyG_takeW (i := 1) (v := ?_) rfl (by kernel_rfl) (by kernel_rfl) (by kernel_rfl) (fun _ _ _ h => h) (Or.inl ⟨by rfl, ?_⟩) ?_
    rotate_left
    · intro w' hSw
      go_simp
      try (with_reducible rfl)
    try simp only [Act.put, List.getElem_toArray, List.getElem_cons_zero, List.getElem_cons_succ, List.setIfInBounds_toArray, List.set_cons_zero, List.set_cons_succ]
    refine wpAnyG_takeW (i := 2) (v := ?_) rfl (by kernel_rfl) (by kernel_rfl) (by kernel_rfl) (fun _ _ _ h => h) (Or.inl ⟨by rfl, ?_⟩) ?_
    rotate_left
    · intro w' hSw
      go_simp
      try (with_reducible rfl)
    try simp only [Act.put, List.getElem_toArray, List.getElem_cons_zero, List.getElem_cons_succ, List.setIfInBounds_toArray, List.set_cons_zero, List.set_cons_succ]
    refine wpAnyG_takeW (i := 3) (v := ?_) rfl (by kernel_rfl) (by kernel_rfl) (by kernel_rfl) (fun _ _ _ h => h) (Or.inl ⟨by rfl, ?_⟩) ?_
    rotate_left
    · intro w' hSw
      go_simp
      try (with_reducible rfl)
    try simp only [Act.put, List.getElem_toArray, List.getElem_cons_zero, List.getElem_cons_succ, List.setIfInBounds_toArray, List.set_cons_zero, List.set_cons_succ]
    refine wpAnyG_takeW (i := 4) (v := ?_) rfl (by kernel_rfl) (by kernel_rfl) (by kernel_rfl) (fun _ _ _ h => h) (Or.inl ⟨by rfl, ?_⟩) ?_
    rotate_left
    · intro w' hSw
      go_simp
      try (with_reducible rfl)
    try simp only [Act.put, List.getElem_toArray, List.getElem_cons_zero, List.getElem_cons_succ, List.setIfInBounds_toArray, List.set_cons_zero, List.set_cons_succ]
    refine wpAnyG_take (i := 5) (v := ?_) rfl (by kernel_rfl) (by kernel_rfl) (by kernel_rfl) (by kernel_rfl) (fun _ _ _ h => h) hS0 (Or.inl ⟨by rfl, ?_⟩) ?_
    rotate_left
    · intro w' hSw
      obtain ⟨s0, s1⟩ := hSw
      go_simp
      try (with_reducible rfl)
    try simp only [Act.put, List.getElem_toArray, List.getElem_cons_zero, List.getElem_cons_succ, List.setIfInBounds_toArray, List.set_cons_zero, List.set_cons_succ]
    refine wpAnyG_takeW (i := 7) (v := ?_) rfl (by kernel_rfl) (by kernel_rfl) (by kernel_rfl) (fun _ _ _ h => h) (Or.inl ⟨by rfl, ?_⟩) ?_
    rotate_left
    · intro w' hSw
      go_simp
      try (with_reducible rfl)
    try simp only [Act.put, List.getElem_toArray, List.getElem_cons_zero, List.getElem_cons_succ, List.setIfInBounds_toArray, List.set_cons_zero, List.set_cons_succ]
    refine wpAnyG_takeW (i := 8) (v := ?_) rfl (by kernel_rfl) (by kernel_rfl) (by kernel_rfl) (fun _ _ _ h => h) (Or.inl ⟨by rfl, ?_⟩) ?_
    rotate_left
    · intro w' hSw
      go_simp
      try (with_reducible rfl)
    try simp only [Act.put, List.getElem_toArray, List.getElem_cons_zero, List.getElem_cons_succ, List.setIfInBounds_toArray, List.set_cons_zero, List.set_cons_succ]
    refine wpAnyG_takeW (i := 9) (v := ?_) rfl (by kernel_rfl) (by kernel_rfl) (by kernel_rfl) (fun _ _ _ h => h) (Or.inl ⟨by rfl, ?_⟩) ?_
    rotate_left
    · intro w' hSw
      go_simp
      try (with_reducible rfl)
    try simp only [Act.put, List.getElem_toArray, List.getElem_cons_zero, List.getElem_cons_succ, List.setIfInBounds_toArray, List.set_cons_zero, List.set_cons_succ]
    refine wpAnyG_takeW (i := 10) (v := ?_) rfl (by kernel_rfl) (by kernel_rfl) (by kernel_rfl) (fun _ _ _ h => h) (Or.inl ⟨by rfl, ?_⟩) ?_
    rotate_left
    · intro w' hSw
      go_simp
      try (with_reducible rfl)
    try simp only [Act.put, List.getElem_toArray, List.getElem_cons_zero, List.getElem_cons_succ, List.setIfInBounds_toArray, List.set_cons_zero, List.set_cons_succ]
    refine wpAnyG_take (i := 11) (v := ?_) rfl (by kernel_rfl) (by kernel_rfl) (by kernel_rfl) (by kernel_rfl) (fun _ _ _ h => h) hS0 (Or.inl ⟨by rfl, ?_⟩) ?_
    rotate_left
    · intro w' hSw
      obtain ⟨s0, s1⟩ := hSw
      go_simp
      try (with_reducible rfl)
    try simp only [Act.put, List.getElem_toArray, List.getElem_cons_zero, List.getElem_cons_succ, List.setIfInBounds_toArray, List.set_cons_zero, List.set_cons_succ]
    refine wpAnyG_br (rs := [6, 14]) (by kernel_rfl) (by simp) ?_
    intro j hj
    simp only [List.mem_cons, List.not_mem_nil, or_false] at hj
    rcases hj with rfl | rfl
    · skip
      refine ⟨_, rfl, fun K' hK => ?_⟩
      simp only [List.getElem_toArray, List.getElem_cons_zero, List.getElem_cons_succ]
      go_simp
      obtain ⟨x1, hx1⟩ : ∃ x, (w.alloc (.cells #[] 3)).drew = x := ⟨_, rfl⟩
      have HB1 : Hid (Below w.heap.size w x1) := Lib.hid (by rw [← hx1]; exact (((Below.refl _ _).alloc (Nat.le_refl _) _).drew))
      have hz1 : w.heap.size < x1.heap.size := by rw [← hx1]; simp
      have hlt1 : X < x1.heap.size := Nat.lt_of_lt_of_le klt HB1.out.size
      have hS1 : x1.cell? ⟨X, 2, none⟩ = some (.bool p.priv) ∧ x1.cell? ⟨X, 1, none⟩ = some (.slice (some ⟨g, 0, none⟩) (m + 1) cp) := ⟨(HB1.out.cell (p := ⟨X, 2, none⟩) klt).trans k_2, (HB1.out.cell (p := ⟨X, 1, none⟩) klt).trans k_1⟩
      have HFZ : Hid (FreshIn intE 3 1 w.heap.size x1.heap.size (.slice (some ⟨w.heap.size, 0, none⟩) 0 0) ([] : List Int) x1) := Lib.hid (by rw [← hx1]; exact (fresh_zero w.heap.size w _ rfl (by omega)).ch (M := fun _ => False) (Ch.of_below ((Below.refl _ _).drew)) (fun _ _ h => h))
      have HBW := HB1
      rw [hx1]
      clear hx1
      refine hK.out _ _ (Or.inr hS1) ?_
      clear hK K'
      try simp only [Act.put, List.getElem_toArray, List.getElem_cons_zero, List.getElem_cons_succ, List.setIfInBounds_toArray, List.set_cons_zero, List.set_cons_succ]
      refine wpAnyG_br (rs := [12, 14]) (by kernel_rfl) (by simp) ?_
      intro j hj
      simp only [List.mem_cons, List.not_mem_nil, or_false] at hj
      rcases hj with rfl | rfl
      · skip
        refine ⟨_, rfl, fun K' hK => ?_⟩
        simp only [List.getElem_toArray, List.getElem_cons_zero, List.getElem_cons_succ]
        have HSRC : Hid (Src Tryd.prog 1 23 (.slice (some ⟨g, 0, none⟩) (m + 1) cp) p.args.length (p.args.flatMap intE) x1) := Lib.hid (by
          have h1 := Src.ofSl (P := Tryd.prog) (tx := 23) (enc := intE) (sz := 1) (xs := p.args) Tryd.underlying23 (fun _ => rfl) intOne (HSL.out.keep HBW.out) cp
          rwa [HLM.out] at h1 ⊢)
        rw [if_pos (by rfl)]
        refine step_append_ch (.tmp 123) (.tmp 128) 23 23 w.heap.size 3 iI (.int .i64 0) 1 8 Tryd.underlying23 hI hI0 hI1 hI2 rfl (by decide) (some ⟨w.heap.size, 0, none⟩) 0 0 ([] : List Int) HFZ.out (.slice (some ⟨g, 0, none⟩) (m + 1) cp) p.args HSRC.out (by simp; omega) (by omega) ?_ ?_ ?_ ?_
        · rfl
        · rfl
        · rfl
        intro a1 c1 x2 us hus hf hc hk
        have HUS : Hid (us = p.args) := Lib.hid (by simpa using hus.out)
        rw [HUS.out] at hf
        have HLS : Hid (us.length = m + 1) := Lib.hid (by rw [HUS.out]; exact HLM.out)
        rw [HLS.out]
        have HF := Lib.hid hf
        have HK := Lib.hid hk
        have HC := Lib.hid hc
        have HBX : Hid (Below w.heap.size w x2) := Lib.hid (HBW.out.trans (hc.below (by omega) (fun i hi => by simp [blkOf] at hi; omega)))
        have hz2 := hc.size
        have hlt2 : X < x2.heap.size := by omega
        have hS2 : x2.cell? ⟨X, 2, none⟩ = some (.bool p.priv) ∧ x2.cell? ⟨X, 1, none⟩ = some (.slice (some ⟨g, 0, none⟩) (m + 1) cp) := ⟨(HBX.out.cell (p := ⟨X, 2, none⟩) klt).trans k_2, (HBX.out.cell (p := ⟨X, 1, none⟩) klt).trans k_1⟩
        clear hus hf hc hk
        refine hK.out _ _ (Or.inr hS2) ?_
        clear hK K'
        try simp only [Act.put, List.getElem_toArray, List.getElem_cons_zero, List.getElem_cons_succ, List.setIfInBounds_toArray, List.set_cons_zero, List.set_cons_succ]
        refine wpAnyG_takeW (i := 13) (v := ?_) rfl (by kernel_rfl) (by kernel_rfl) (by kernel_rfl) (fun _ _ _ h => h) (Or.inl ⟨by rfl, ?_⟩) ?_
        rotate_left
        · intro w' hSw
          go_simp
          try (with_reducible rfl)
        try simp only [Act.put, List.getElem_toArray, List.getElem_cons_zero, List.getElem_cons_succ, List.setIfInBounds_toArray, List.set_cons_zero, List.set_cons_succ]
        refine wpAnyG_one (i := 14) (by kernel_rfl) rfl hS2 (fun K' hK => ?_)
        simp only [List.getElem_toArray, List.getElem_cons_zero, List.getElem_cons_succ]
        go_simp
        obtain ⟨x3, hx3⟩ : ∃ x, (x2.alloc (.cells #[.int .i64 0, .int .i64 0, .bool false, .slice none 0 0, .string ⟨#[]⟩] 46)) = x := ⟨_, rfl⟩
        have HB3 : Hid (Below x2.heap.size x2 x3) := Lib.hid (by rw [← hx3]; exact (((Below.refl _ _).alloc (Nat.le_refl _) _)))
        have hz3 : x2.heap.size < x3.heap.size := by rw [← hx3]; simp
        have hlt3 : X < x3.heap.size := Nat.lt_of_lt_of_le hlt2 HB3.out.size
        have hS3 : x3.cell? ⟨X, 2, none⟩ = some (.bool p.priv) ∧ x3.cell? ⟨X, 1, none⟩ = some (.slice (some ⟨g, 0, none⟩) (m + 1) cp) := ⟨(HB3.out.cell (p := ⟨X, 2, none⟩) hlt2).trans hS2.1, (HB3.out.cell (p := ⟨X, 1, none⟩) hlt2).trans hS2.2⟩
        have b3_0 : x3.cell? ⟨x2.heap.size, 0, none⟩ = some (.int .i64 0) := by rw [← hx3]; simp [go_sem]
        have b3_1 : x3.cell? ⟨x2.heap.size, 1, none⟩ = some (.int .i64 0) := by rw [← hx3]; simp [go_sem]
        have b3_2 : x3.cell? ⟨x2.heap.size, 2, none⟩ = some (.bool false) := by rw [← hx3]; simp [go_sem]
        have b3_3 : x3.cell? ⟨x2.heap.size, 3, none⟩ = some (.slice none 0 0) := by rw [← hx3]; simp [go_sem]
        have b3_4 : x3.cell? ⟨x2.heap.size, 4, none⟩ = some (.string ⟨#[]⟩) := by rw [← hx3]; simp [go_sem]
        have bf3 : ∀ o, x3.frozen? ⟨x2.heap.size, o, none⟩ = false := by intro o; rw [← hx3]; simp [go_sem]
        clear hx3
        refine hK.out _ _ (Or.inr ⟨by simpa [go_sem, hlt2] using hS2.1, by simpa [go_sem, hlt2] using hS2.2⟩) ?_
        clear hK K'
        try simp only [Act.put, List.getElem_toArray, List.getElem_cons_zero, List.getElem_cons_succ, List.setIfInBounds_toArray, List.set_cons_zero, List.set_cons_succ]
        refine wpAnyG_one (i := 15) (by kernel_rfl) rfl (⟨by simpa [go_sem, hlt2] using hS2.1, by simpa [go_sem, hlt2] using hS2.2⟩) (fun K' hK => ?_)
        simp only [List.getElem_toArray, List.getElem_cons_zero, List.getElem_cons_succ]
        go_simp
        refine hK.out _ _ (Or.inl rfl) ?_
        clear hK K'
        try simp only [Act.put, List.getElem_toArray, List.getElem_cons_zero, List.getElem_cons_succ, List.setIfInBounds_toArray, List.set_cons_zero, List.set_cons_succ]
        refine wpAnyG_done (by kernel_rfl) ?_ _
        go_wp2_with fail
        go_meet
        exact csiR_alloc HBX.out HF.out HLM.out
      · skip
        refine ⟨_, rfl, fun K' hK => ?_⟩
        simp only [List.getElem_toArray, List.getElem_cons_zero, List.getElem_cons_succ]
        go_simp
        obtain ⟨x2, hx2⟩ : ∃ x, (x1.alloc (.cells #[.int .i64 0, .int .i64 0, .bool false, .slice none 0 0, .string ⟨#[]⟩] 46)) = x := ⟨_, rfl⟩
        have HB2 : Hid (Below x1.heap.size x1 x2) := Lib.hid (by rw [← hx2]; exact (((Below.refl _ _).alloc (Nat.le_refl _) _)))
        have hz2 : x1.heap.size < x2.heap.size := by rw [← hx2]; simp
        have hlt2 : X < x2.heap.size := Nat.lt_of_lt_of_le hlt1 HB2.out.size
        have hS2 : x2.cell? ⟨X, 2, none⟩ = some (.bool p.priv) ∧ x2.cell? ⟨X, 1, none⟩ = some (.slice (some ⟨g, 0, none⟩) (m + 1) cp) := ⟨(HB2.out.cell (p := ⟨X, 2, none⟩) hlt1).trans hS1.1, (HB2.out.cell (p := ⟨X, 1, none⟩) hlt1).trans hS1.2⟩
        have b2_0 : x2.cell? ⟨x1.heap.size, 0, none⟩ = some (.int .i64 0) := by rw [← hx2]; simp [go_sem]
        have b2_1 : x2.cell? ⟨x1.heap.size, 1, none⟩ = some (.int .i64 0) := by rw [← hx2]; simp [go_sem]
        have b2_2 : x2.cell? ⟨x1.heap.size, 2, none⟩ = some (.bool false) := by rw [← hx2]; simp [go_sem]
        have b2_3 : x2.cell? ⟨x1.heap.size, 3, none⟩ = some (.slice none 0 0) := by rw [← hx2]; simp [go_sem]
        have b2_4 : x2.cell? ⟨x1.heap.size, 4, none⟩ = some (.string ⟨#[]⟩) := by rw [← hx2]; simp [go_sem]
        have bf2 : ∀ o, x2.frozen? ⟨x1.heap.size, o, none⟩ = false := by intro o; rw [← hx2]; simp [go_sem]
        have c2_0 := b2_0
        have c2_1 := b2_1
        have c2_2 := b2_2
        have c2_3 := b2_3
        have c2_4 := b2_4
        have cf2 := bf2
        have HBW : Hid (Below w.heap.size w x2) := Lib.hid (HB1.out.trans (HB2.out.mono (by omega)))
        have HFZ : Hid (FreshIn intE 3 1 w.heap.size x2.heap.size (.slice (some ⟨w.heap.size, 0, none⟩) 0 0) ([] : List Int) x2) := Lib.hid (HFZ.out.ch (M := fun _ => False) (Ch.of_below HB2.out) (fun _ _ h => h))
        rw [hx2]
        clear hx2
        refine hK.out _ _ (Or.inr hS2) ?_
        clear hK K'
        try simp only [Act.put, List.getElem_toArray, List.getElem_cons_zero, List.getElem_cons_succ, List.setIfInBounds_toArray, List.set_cons_zero, List.set_cons_succ]
        refine wpAnyG_one (i := 12) (by kernel_rfl) rfl hS2 (fun K' hK => ?_)
        simp only [List.getElem_toArray, List.getElem_cons_zero, List.getElem_cons_succ]
        have HSRC : Hid (Src Tryd.prog 1 23 (.slice (some ⟨g, 0, none⟩) (m + 1) cp) p.args.length (p.args.flatMap intE) x2) := Lib.hid (by
          have h1 := Src.ofSl (P := Tryd.prog) (tx := 23) (enc := intE) (sz := 1) (xs := p.args) Tryd.underlying23 (fun _ => rfl) intOne (HSL.out.keep HBW.out) cp
          rwa [HLM.out] at h1 ⊢)
        rw [if_pos (by rfl)]
        refine step_append_ch (.tmp 123) (.tmp 128) 23 23 w.heap.size 3 iI (.int .i64 0) 1 8 Tryd.underlying23 hI hI0 hI1 hI2 rfl (by decide) (some ⟨w.heap.size, 0, none⟩) 0 0 ([] : List Int) HFZ.out (.slice (some ⟨g, 0, none⟩) (m + 1) cp) p.args HSRC.out (by simp; omega) (by omega) ?_ ?_ ?_ ?_
        · rfl
        · rfl
        · rfl
        intro a1 c1 x3 us hus hf hc hk
        have HUS : Hid (us = p.args) := Lib.hid (by simpa using hus.out)
        rw [HUS.out] at hf
        have HLS : Hid (us.length = m + 1) := Lib.hid (by rw [HUS.out]; exact HLM.out)
        rw [HLS.out]
        have HF := Lib.hid hf
        have HK := Lib.hid hk
        have HC := Lib.hid hc
        have HBX : Hid (Below w.heap.size w x3) := Lib.hid (HBW.out.trans (hc.below (by omega) (fun i hi => by simp [blkOf] at hi; omega)))
        have hz3 := hc.size
        have hlt3 : X < x3.heap.size := by omega
        have hS3 : x3.cell? ⟨X, 2, none⟩ = some (.bool p.priv) ∧ x3.cell? ⟨X, 1, none⟩ = some (.slice (some ⟨g, 0, none⟩) (m + 1) cp) := ⟨(HBX.out.cell (p := ⟨X, 2, none⟩) klt).trans k_2, (HBX.out.cell (p := ⟨X, 1, none⟩) klt).trans k_1⟩
        clear hus hf hc hk
        have hHE : ¬ x1.heap.size = w.heap.size := by omega
        have q_0 : x3.cell? ⟨x1.heap.size, 0, none⟩ = some (.int .i64 0) := (HC.out.cell (p := ⟨x1.heap.size, 0, none⟩) (by show x1.heap.size < _; omega) (by simpa [blkOf] using hHE)).trans c2_0
        have q_1 : x3.cell? ⟨x1.heap.size, 1, none⟩ = some (.int .i64 0) := (HC.out.cell (p := ⟨x1.heap.size, 1, none⟩) (by show x1.heap.size < _; omega) (by simpa [blkOf] using hHE)).trans c2_1
        have q_2 : x3.cell? ⟨x1.heap.size, 2, none⟩ = some (.bool false) := (HC.out.cell (p := ⟨x1.heap.size, 2, none⟩) (by show x1.heap.size < _; omega) (by simpa [blkOf] using hHE)).trans c2_2
        have q_3 : x3.cell? ⟨x1.heap.size, 3, none⟩ = some (.slice none 0 0) := (HC.out.cell (p := ⟨x1.heap.size, 3, none⟩) (by show x1.heap.size < _; omega) (by simpa [blkOf] using hHE)).trans c2_3
        have q_4 : x3.cell? ⟨x1.heap.size, 4, none⟩ = some (.string ⟨#[]⟩) := (HC.out.cell (p := ⟨x1.heap.size, 4, none⟩) (by show x1.heap.size < _; omega) (by simpa [blkOf] using hHE)).trans c2_4
        have qf : ∀ o, x3.frozen? ⟨x1.heap.size, o, none⟩ = false := fun o => (HC.out.frozen (p := ⟨x1.heap.size, o, none⟩) (by show x1.heap.size < _; omega) (by simpa [blkOf] using hHE)).trans (cf2 o)
        have hHlt : x1.heap.size < x3.heap.size := by omega
        refine hK.out _ _ (Or.inr hS3) ?_
        clear hK K'
        try simp only [Act.put, List.getElem_toArray, List.getElem_cons_zero, List.getElem_cons_succ, List.setIfInBounds_toArray, List.set_cons_zero, List.set_cons_succ]
        refine wpAnyG_takeW (i := 13) (v := ?_) rfl (by kernel_rfl) (by kernel_rfl) (by kernel_rfl) (fun _ _ _ h => h) (Or.inl ⟨by rfl, ?_⟩) ?_
        rotate_left
        · intro w' hSw
          go_simp
          try (with_reducible rfl)
        try simp only [Act.put, List.getElem_toArray, List.getElem_cons_zero, List.getElem_cons_succ, List.setIfInBounds_toArray, List.set_cons_zero, List.set_cons_succ]
        refine wpAnyG_one (i := 15) (by kernel_rfl) rfl hS3 (fun K' hK => ?_)
        simp only [List.getElem_toArray, List.getElem_cons_zero, List.getElem_cons_succ]
        go_simp
        refine hK.out _ _ (Or.inl rfl) ?_
        clear hK K'
        try simp only [Act.put, List.getElem_toArray, List.getElem_cons_zero, List.getElem_cons_succ, List.setIfInBounds_toArray, List.set_cons_zero, List.set_cons_succ]
        refine wpAnyG_done (by kernel_rfl) ?_ _
        go_wp2_with fail
        go_meet
        exact csiR_store (by omega) (by omega) (fun hb => by have := HK.out _ hb; simp [blkOf] at this; omega) ⟨_, q_0⟩ ⟨_, q_1⟩ ⟨_, q_2⟩ ⟨_, q_3⟩ ⟨_, q_4⟩ HF.out HLM.out HBX.out
    · skip
      refine ⟨_, rfl, fun K' hK => ?_⟩
      simp only [List.getElem_toArray, List.getElem_cons_zero, List.getElem_cons_succ]
      go_simp
      obtain ⟨x1, hx1⟩ : ∃ x, (w.alloc (.cells #[.int .i64 0, .int .i64 0, .bool false, .slice none 0 0, .string ⟨#[]⟩] 46)).drew = x := ⟨_, rfl⟩
      have HB1 : Hid (Below w.heap.size w x1) := Lib.hid (by rw [← hx1]; exact (((Below.refl _ _).alloc (Nat.le_refl _) _).drew))
      have hz1 : w.heap.size < x1.heap.size := by rw [← hx1]; simp
      have hlt1 : X < x1.heap.size := Nat.lt_of_lt_of_le klt HB1.out.size
      have hS1 : x1.cell? ⟨X, 2, none⟩ = some (.bool p.priv) ∧ x1.cell? ⟨X, 1, none⟩ = some (.slice (some ⟨g, 0, none⟩) (m + 1) cp) := ⟨(HB1.out.cell (p := ⟨X, 2, none⟩) klt).trans k_2, (HB1.out.cell (p := ⟨X, 1, none⟩) klt).trans k_1⟩
      have b1_0 : x1.cell? ⟨w.heap.size, 0, none⟩ = some (.int .i64 0) := by rw [← hx1]; simp [go_sem]
      have b1_1 : x1.cell? ⟨w.heap.size, 1, none⟩ = some (.int .i64 0) := by rw [← hx1]; simp [go_sem]
      have b1_2 : x1.cell? ⟨w.heap.size, 2, none⟩ = some (.bool false) := by rw [← hx1]; simp [go_sem]
      have b1_3 : x1.cell? ⟨w.heap.size, 3, none⟩ = some (.slice none 0 0) := by rw [← hx1]; simp [go_sem]
      have b1_4 : x1.cell? ⟨w.heap.size, 4, none⟩ = some (.string ⟨#[]⟩) := by rw [← hx1]; simp [go_sem]
      have bf1 : ∀ o, x1.frozen? ⟨w.heap.size, o, none⟩ = false := by intro o; rw [← hx1]; simp [go_sem]
      rw [hx1]
      clear hx1
      refine hK.out _ _ (Or.inr hS1) ?_
      clear hK K'
      try simp only [Act.put, List.getElem_toArray, List.getElem_cons_zero, List.getElem_cons_succ, List.setIfInBounds_toArray, List.set_cons_zero, List.set_cons_succ]
      refine wpAnyG_one (i := 6) (by kernel_rfl) rfl hS1 (fun K' hK => ?_)
      simp only [List.getElem_toArray, List.getElem_cons_zero, List.getElem_cons_succ]
      go_simp
      obtain ⟨x2, hx2⟩ : ∃ x, (x1.alloc (.cells #[] 3)) = x := ⟨_, rfl⟩
      have HB2 : Hid (Below x1.heap.size x1 x2) := Lib.hid (by rw [← hx2]; exact (((Below.refl _ _).alloc (Nat.le_refl _) _)))
      have hz2 : x1.heap.size < x2.heap.size := by rw [← hx2]; simp
      have hlt2 : X < x2.heap.size := Nat.lt_of_lt_of_le hlt1 HB2.out.size
      have hS2 : x2.cell? ⟨X, 2, none⟩ = some (.bool p.priv) ∧ x2.cell? ⟨X, 1, none⟩ = some (.slice (some ⟨g, 0, none⟩) (m + 1) cp) := ⟨(HB2.out.cell (p := ⟨X, 2, none⟩) hlt1).trans hS1.1, (HB2.out.cell (p := ⟨X, 1, none⟩) hlt1).trans hS1.2⟩
      have HFZ : Hid (FreshIn intE 3 1 w.heap.size x2.heap.size (.slice (some ⟨x1.heap.size, 0, none⟩) 0 0) ([] : List Int) x2) := Lib.hid (by rw [← hx2]; exact fresh_zero w.heap.size x1 _ rfl (by omega))
      have c2_0 := (HB2.out.cell (p := ⟨w.heap.size, 0, none⟩) (by show w.heap.size < _; omega)).trans b1_0
      have c2_1 := (HB2.out.cell (p := ⟨w.heap.size, 1, none⟩) (by show w.heap.size < _; omega)).trans b1_1
      have c2_2 := (HB2.out.cell (p := ⟨w.heap.size, 2, none⟩) (by show w.heap.size < _; omega)).trans b1_2
      have c2_3 := (HB2.out.cell (p := ⟨w.heap.size, 3, none⟩) (by show w.heap.size < _; omega)).trans b1_3
      have c2_4 := (HB2.out.cell (p := ⟨w.heap.size, 4, none⟩) (by show w.heap.size < _; omega)).trans b1_4
      have cf2 : ∀ o, x2.frozen? ⟨w.heap.size, o, none⟩ = false := fun o => (HB2.out.frozen (p := ⟨w.heap.size, o, none⟩) (by show w.heap.size < _; omega)).trans (bf1 o)
      have HBW : Hid (Below w.heap.size w x2) := Lib.hid (HB1.out.trans (HB2.out.mono (by omega)))
      rw [hx2]
      clear hx2
      refine hK.out _ _ (Or.inr hS2) ?_
      clear hK K'
      try simp only [Act.put, List.getElem_toArray, List.getElem_cons_zero, List.getElem_cons_succ, List.setIfInBounds_toArray, List.set_cons_zero, List.set_cons_succ]
      refine wpAnyG_one (i := 12) (by kernel_rfl) rfl hS2 (fun K' hK => ?_)
      simp only [List.getElem_toArray, List.getElem_cons_zero, List.getElem_cons_succ]
      have HSRC : Hid (Src Tryd.prog 1 23 (.slice (some ⟨g, 0, none⟩) (m + 1) cp) p.args.length (p.args.flatMap intE) x2) := Lib.hid (by
        have h1 := Src.ofSl (P := Tryd.prog) (tx := 23) (enc := intE) (sz := 1) (xs := p.args) Tryd.underlying23 (fun _ => rfl) intOne (HSL.out.keep HBW.out) cp
        rwa [HLM.out] at h1 ⊢)
      rw [if_pos (by rfl)]
      refine step_append_ch (.tmp 123) (.tmp 128) 23 23 w.heap.size 3 iI (.int .i64 0) 1 8 Tryd.underlying23 hI hI0 hI1 hI2 rfl (by decide) (some ⟨x1.heap.size, 0, none⟩) 0 0 ([] : List Int) HFZ.out (.slice (some ⟨g, 0, none⟩) (m + 1) cp) p.args HSRC.out (by simp; omega) (by omega) ?_ ?_ ?_ ?_
      · rfl
      · rfl
      · rfl
      intro a1 c1 x3 us hus hf hc hk
      have HUS : Hid (us = p.args) := Lib.hid (by simpa using hus.out)
      rw [HUS.out] at hf
      have HLS : Hid (us.length = m + 1) := Lib.hid (by rw [HUS.out]; exact HLM.out)
      rw [HLS.out]
      have HF := Lib.hid hf
      have HK := Lib.hid hk
      have HC := Lib.hid hc
      have HBX : Hid (Below w.heap.size w x3) := Lib.hid (HBW.out.trans (hc.below (by omega) (fun i hi => by simp [blkOf] at hi; omega)))
      have hz3 := hc.size
      have hlt3 : X < x3.heap.size := by omega
      have hS3 : x3.cell? ⟨X, 2, none⟩ = some (.bool p.priv) ∧ x3.cell? ⟨X, 1, none⟩ = some (.slice (some ⟨g, 0, none⟩) (m + 1) cp) := ⟨(HBX.out.cell (p := ⟨X, 2, none⟩) klt).trans k_2, (HBX.out.cell (p := ⟨X, 1, none⟩) klt).trans k_1⟩
      clear hus hf hc hk
      have hHE : ¬ w.heap.size = x1.heap.size := by omega
      have q_0 : x3.cell? ⟨w.heap.size, 0, none⟩ = some (.int .i64 0) := (HC.out.cell (p := ⟨w.heap.size, 0, none⟩) (by show w.heap.size < _; omega) (by simpa [blkOf] using hHE)).trans c2_0
      have q_1 : x3.cell? ⟨w.heap.size, 1, none⟩ = some (.int .i64 0) := (HC.out.cell (p := ⟨w.heap.size, 1, none⟩) (by show w.heap.size < _; omega) (by simpa [blkOf] using hHE)).trans c2_1
      have q_2 : x3.cell? ⟨w.heap.size, 2, none⟩ = some (.bool false) := (HC.out.cell (p := ⟨w.heap.size, 2, none⟩) (by show w.heap.size < _; omega) (by simpa [blkOf] using hHE)).trans c2_2
      have q_3 : x3.cell? ⟨w.heap.size, 3, none⟩ = some (.slice none 0 0) := (HC.out.cell (p := ⟨w.heap.size, 3, none⟩) (by show w.heap.size < _; omega) (by simpa [blkOf] using hHE)).trans c2_3
      have q_4 : x3.cell? ⟨w.heap.size, 4, none⟩ = some (.string ⟨#[]⟩) := (HC.out.cell (p := ⟨w.heap.size, 4, none⟩) (by show w.heap.size < _; omega) (by simpa [blkOf] using hHE)).trans c2_4
      have qf : ∀ o, x3.frozen? ⟨w.heap.size, o, none⟩ = false := fun o => (HC.out.frozen (p := ⟨w.heap.size, o, none⟩) (by show w.heap.size < _; omega) (by simpa [blkOf] using hHE)).trans (cf2 o)
      have hHlt : w.heap.size < x3.heap.size := by omega
      refine hK.out _ _ (Or.inr hS3) ?_
      clear hK K'
      try simp only [Act.put, List.getElem_toArray, List.getElem_cons_zero, List.getElem_cons_succ, List.setIfInBounds_toArray, List.set_cons_zero, List.set_cons_succ]
      refine wpAnyG_takeW (i := 13) (v := ?_) rfl (by kernel_rfl) (by kernel_rfl) (by kernel_rfl) (fun _ _ _ h => h) (Or.inl ⟨by rfl, ?_⟩) ?_
      rotate_left
      · intro w' hSw
        go_simp
        try (with_reducible rfl)
      try simp only [Act.put, List.getElem_toArray, List.getElem_cons_zero, List.getElem_cons_succ, List.setIfInBounds_toArray, List.set_cons_zero, List.set_cons_succ]
      refine wpAnyG_one (i := 15) (by kernel_rfl) rfl hS3 (fun K' hK => ?_)
      simp only [List.getElem_toArray, List.getElem_cons_zero, List.getElem_cons_succ]
      go_simp
      refine hK.out _ _ (Or.inl rfl) ?_
      clear hK K'
      try simp only [Act.put, List.getElem_toArray, List.getElem_cons_zero, List.getElem_cons_succ, List.setIfInBounds_toArray, List.set_cons_zero, List.set_cons_succ]
      refine wpAnyG_done (by kernel_rfl) ?_ _
      go_wp2_with fail
      go_meet
      exact csiR_store (by omega) (by omega) (fun hb => by have := HK.out _ hb; simp [blkOf] at this; omega) ⟨_, q_0⟩ ⟨_, q_1⟩ ⟨_, q_2⟩ ⟨_, q_3⟩ ⟨_, q_4⟩ HF.out HLM.out HBX.out
  case rest =>
    obtain ⟨H, a1, c1, rfl, hH1, hH2, hHa, h_0, h_1, h_2, h_3, h_4, hf, hb⟩ := hcut
    have HF := Lib.hid hf
    have HB := Lib.hid hb
    have HQ0 := Lib.hid (HP.out.keep hb)
    have HHA := Lib.hid hHa
    have hHX : ¬ H = X := by omega
    clear hf hb hHa
    go_wp2_with fail
    refine (ground_r X lo _ (some ⟨g, 0, none⟩) al cp cl L _ HQ0.out).mono ?_
    rintro e w1 ⟨rfl, g', hg', hq, hc⟩
    have HQ := Lib.hid hq
    have HC := Lib.hid hc
    have hz1 := hc.size
    have hHl : H < w1.heap.size := by omega
    have b_0 : w1.cell? ⟨H, 0, none⟩ = some (.int .i64 4) := (hc.cell (p := ⟨H, 0, none⟩) hH2 hHX).trans h_0
    have b_1 : w1.cell? ⟨H, 1, none⟩ = some (.int .i64 n) := (hc.cell (p := ⟨H, 1, none⟩) hH2 hHX).trans h_1
    have b_2 : w1.cell? ⟨H, 2, none⟩ = some (.bool p.priv) := (hc.cell (p := ⟨H, 2, none⟩) hH2 hHX).trans h_2
    have b_3 : w1.cell? ⟨H, 3, none⟩ = some (.slice a1 (m + 1) c1) := (hc.cell (p := ⟨H, 3, none⟩) hH2 hHX).trans h_3
    have b_4 : w1.cell? ⟨H, 4, none⟩ = some (.string ⟨#[]⟩) := (hc.cell (p := ⟨H, 4, none⟩) hH2 hHX).trans h_4
    have hfa := HF.out.ch hc (fun k hk e => by have := (FreshIn.blks HF.out k hk).1; omega)
    have HFA : Hid (FreshIn intE 3 1 lo w1.heap.size (.slice a1 p.args.length c1) p.args w1) := Lib.hid (hfa.mono hlo (Nat.le_refl _))
    have HD : Hid (∀ k ∈ blkOf a1, k ≠ X ∧ k ∉ blkOf (some (⟨g', 0, none⟩ : Addr)) ∧ k ∉ acB al L) := Lib.hid (fun k hk => by
      have h1 := FreshIn.blks HF.out k hk
      refine ⟨by omega, fun h => ?_, fun h => ?_⟩
      · simp [blkOf] at h; omega
      · have := (HP.out.ps.ro.bd actL k h).2; omega)
    have HT : Hid (Calls Tryd.prog 101 #[.pointer (some ⟨X, 0, none⟩), .agg #[.int .i64 4, .int .i64 n, .bool p.priv, .slice a1 (m + 1) c1, .string ⟨#[]⟩]] w1 (fun e w' => QR X lo (pz, [⟨4, n, p.priv, p.args, e0⟩]) L e w1 w')) := Lib.hid (by
      have h1 := tell_r X lo pz (some ⟨g', 0, none⟩) al a1 0 cl c1 L ⟨4, n, p.priv, p.args, e0⟩ w1 HQ.out HFA.out HD.out hL (by show p.args.length ≤ _; omega)
      rw [show (⟨4, n, p.priv, p.args, e0⟩ : AV).args.length = m + 1 from HLM.out] at h1
      exact h1)
    clear hq hc hfa h_0 h_1 h_2 h_3 h_4
    go_wp2_with fail
    refine HT.out.mono ?_
    rintro e w2 hq
    have HQ2 := Lib.hid (hq.base ((HB.out.mono hlo).trans (HQ0.out.below1 HC.out)))
    obtain ⟨rfl, _⟩ := hq
    go_wp2_with fail
    refine bodyPost_end (v := .tuple #[]) (by simp [results, Tryd.results91]) rfl ?_
    rw [HR.out]
    exact HQ2.out
end
section
open Go.RowKit
set_option maxRecDepth 100000 in
set_option maxHeartbeats 4000000 in
theorem takeC_r (p : PV) (X lo : Nat) (ap al : Option Addr) (cp cl : Nat) (L : List ActA) (b : UInt8) (w : World) (h : QS X lo p ap cp L al cl w) (hL : L.length ≤ 1048576) (hs : p.state = 2) (hAA : argsB p.args = true) (hT : p.text = e0) (hU : p.utf = e0) :
    Calls Tryd.prog 73 #[.pointer (some ⟨X, 0, none⟩), .int .i64 b.toNat] w (fun e w' => QR X lo (cstep p b) L e w w') := by
  have HCA := Lib.hid (csi_r p X lo ap al cp cl L b w h hL hs hAA hT hU)
  have k_0 : w.cell? ⟨X, 0, none⟩ = some (.int .i64 2) := by rw [h.ps.c0, hs]
  have kf := h.ps.fz
  have klt := h.ps.lt
  clear h hs hAA hT hU
  go_enter Tryd.func73, Tryd.ntmps73
  go_wp2_with fail
  refine HCA.out.mono ?_
  rintro e w1 hq
  have HQ := Lib.hid hq
  obtain ⟨rfl, _⟩ := hq
  go_wp2_with fail
  refine bodyPost_end (v := .tuple #[]) (by simp [results, Tryd.results73]) rfl ?_
  exact HQ.out
theorem take_r (p : PV) (X lo : Nat) (ap al : Option Addr) (cp cl : Nat) (L : List ActA) (b : UInt8) (w : World) (h : QS X lo p ap cp L al cl w) (hL : L.length ≤ 1048575) (ok : PvOK p) :
    Calls Tryd.prog 73 #[.pointer (some ⟨X, 0, none⟩), .int .i64 b.toNat] w (fun e w' => QR X lo (pstep p b) L e w w') := by
  obtain ⟨k1, k2, k3, k4, k5, k6, k7⟩ := ok
  have hL' : L.length ≤ 1048576 := by omega
  unfold pstep
  obtain ⟨s, a, v, t, u⟩ := p
  simp only at k1 k2 k3 k4 k5 k6 k7 ⊢
  by_cases s0 : s = 0
  · rw [if_pos s0]
    obtain ⟨a1, a4⟩ := k3 (by omega)
    have a2 := k5 (by omega) (by omega)
    have a3 := k7 (by omega)
    subst s0 a1 a2 a3 a4
    exact takeG_r X lo ap al cp cl L b w h hL'
  rw [if_neg s0]
  by_cases s1 : s = 1
  · rw [if_pos s1]
    obtain ⟨a1, a4⟩ := k3 (by omega)
    have a2 := k5 (by omega) (by omega)
    have a3 := k7 (by omega)
    subst s1 a1 a2 a3 a4
    exact takeE_r X lo ap al cp cl L b w h hL'
  rw [if_neg s1]
  by_cases s2 : s = 2
  · rw [if_pos s2]
    exact takeC_r _ X lo ap al cp cl L b w h hL' s2 (k2 s2) (k5 (by omega) (by omega)) (k7 (by omega))
  rw [if_neg s2]
  by_cases s3 : s = 3
  · rw [if_pos s3]
    obtain ⟨a1, a4⟩ := k3 (by omega)
    have a2 := k5 (by omega) (by omega)
    have a3 := k7 (by omega)
    subst s3 a1 a2 a3 a4
    exact takeS_r X lo ap al cp cl L b w h hL'
  rw [if_neg s3]
  by_cases s4 : s = 4
  · rw [if_pos s4]
    obtain ⟨a1, a4⟩ := k3 (by omega)
    have a3 := k7 (by omega)
    have hT := titB_sz (k4 (by omega))
    subst s4 a1 a3 a4
    exact takeO_r t X lo ap al cp cl L b w h hL' hT
  rw [if_neg s4]
  by_cases s5 : s = 5
  · rw [if_pos s5]
    obtain ⟨a1, a4⟩ := k3 (by omega)
    have a3 := k7 (by omega)
    subst s5 a1 a3 a4
    exact takeQ_r t X lo ap al cp cl L b w h hL'
  rw [if_neg s5]
  have s6 : s = 6 := by omega
  obtain ⟨a1, a4⟩ := k3 (by omega)
  have a2 := k5 (by omega) (by omega)
  have hT := k6 s6
  subst s6 a1 a2 a4
  exact takeU_r u X lo ap al cp cl L b w h hL hT
end
section
open Go.RowKit
theorem fresh_zeroA (lo : Nat) (w : World) (g : Nat) (hg : g = w.heap.size) (h : lo ≤ w.heap.size) : FreshIn actE 46 5 lo (w.alloc (.cells #[] 46)).heap.size (.slice (some ⟨g, 0, none⟩) 0 0) [] (w.alloc (.cells #[] 46)) := by
  subst hg
  exact (Fresh.of_own (World.ownsRow_made (base := lo) w #[] 0 h (by decide) rfl) rfl rfl).here
theorem actZero (lo : Nat) (w : World) (g : Nat) (hg : g = w.heap.size) (h : lo ≤ w.heap.size) : ActO lo [] (some ⟨g, 0, none⟩) 0 (w.alloc (.cells #[] 46)) :=
  ⟨fresh_zeroA lo w g hg h, by simp, by simp [roB, blkOf]⟩
/-- A parser and actions in new memory. -/
def OutP (G : PV × List AV) (w : World) (e : Ending) (w' : World) : Prop :=
  ∃ (ap : Option Addr) (cp : Nat) (al : Option Addr) (cl : Nat) (L : List ActA), e = .returned (.tuple #[.agg #[.int .i64 G.1.state, .slice ap G.1.args.length cp, .bool G.1.priv, .string G.1.text, .string G.1.utf], .slice al L.length cl]) ∧ FreshIn intE 3 1 w.heap.size w'.heap.size (.slice ap G.1.args.length cp) G.1.args w' ∧ ActO w.heap.size L al cl w' ∧ (∀ k ∈ blkOf ap, k ∉ acB al L) ∧ L.map (·.A) = G.2 ∧ Below w.heap.size w w'
/-- The run's box, newly written. -/
theorem QS.box {X lo : Nat} {p : PV} {ap al : Option Addr} {cp cl : Nat} {w : World} (hlo : lo ≤ X) (hlt : X < w.heap.size) (ha : FreshIn intE 3 1 lo w.heap.size (.slice ap p.args.length cp) p.args w) (hro : ActO lo [] al cl w)
    (c0 : w.cell? ⟨X, 0, none⟩ = some (.int .i64 p.state)) (c1 : w.cell? ⟨X, 1, none⟩ = some (.slice ap p.args.length cp)) (c2 : w.cell? ⟨X, 2, none⟩ = some (.bool p.priv))
    (c3 : w.cell? ⟨X, 3, none⟩ = some (.string p.text)) (c4 : w.cell? ⟨X, 4, none⟩ = some (.string p.utf)) (c5 : w.cell? ⟨X, 5, none⟩ = some (.slice al 0 cl)) (fz : ∀ o, w.frozen? ⟨X, o, none⟩ = false) (hn : X ∉ blkOf ap ++ blkOf al) (hd : ∀ k ∈ blkOf ap, k ∉ blkOf al) : QS X lo p ap cp [] al cl w :=
  ⟨⟨c0, c1, c2, c3, c4, fz, hlt, ha, hro, by simpa [acB, roB] using hn, fun k hk => by simpa [acB, roB] using hd k hk⟩, c5, hlo⟩
set_option maxRecDepth 100000 in
set_option maxHeartbeats 8000000 in
theorem run_r (ap : Option Addr) (cp : Nat) (p : PV) (s : ByteArray) (w : World) (ha : Sl intE 1 w ap p.args) (hs : s.size ≤ 131072) (ok : PvOK p) :
    Calls Tryd.prog 41 #[.agg #[.int .i64 p.state, .slice ap p.args.length cp, .bool p.priv, .string p.text, .string p.utf], .string s] w (OutP (prun p s.data.toList) w) := by
  have hl8 : p.args.length ≤ 1048576 := by
    by_cases h2 : p.state = 2
    · have := ok.csi h2
      simp only [argsB, Bool.and_eq_true, decide_eq_true_eq] at this
      omega
    · rw [(ok.nocsi h2).1]; simp
  have HOK := Lib.hid ok
  have HSZ : Hid (s.data.toList.length = s.size) := Lib.hid rfl
  have HOWN := Lib.hid (own_r ap cp p ((w.alloc (.cells #[.int .i64 p.state, .slice ap p.args.length cp, .bool p.priv, .string p.text, .string p.utf] 25)).alloc (.cells #[.int .i64 0, .slice none 0 0, .bool false, .string ⟨#[]⟩, .string ⟨#[]⟩] 25)) ((ha.alloc _).alloc _) hl8)
  clear ok ha
  obtain ⟨R, hR⟩ : ∃ R, prun p s.data.toList = R := ⟨_, rfl⟩
  have HRE := Lib.hid hR
  rw [hR]
  clear hR
  go_enter Tryd.func41, Tryd.ntmps41
  go_wp2_with fail
  refine HOWN.out.mono ?_
  clear HOWN
  rintro e w1 ⟨a1, c1, rfl, hf, hb⟩
  have HF := Lib.hid hf
  have HB := Lib.hid hb
  have hz := hb.size
  simp only [World.size_alloc] at hz
  have hl0 : w.heap.size < w1.heap.size := by omega
  have hl1 : w.heap.size + 1 < w1.heap.size := by omega
  have r1_0 : w1.cell? ⟨w.heap.size + 1, 0, none⟩ = some (.int .i64 0) := (hb.cell (p := ⟨w.heap.size + 1, 0, none⟩) (by show w.heap.size + 1 < _; (try simp) <;> omega)).trans (by simp [go_sem])
  have r1_1 : w1.cell? ⟨w.heap.size + 1, 1, none⟩ = some (.slice none 0 0) := (hb.cell (p := ⟨w.heap.size + 1, 1, none⟩) (by show w.heap.size + 1 < _; (try simp) <;> omega)).trans (by simp [go_sem])
  have r1_2 : w1.cell? ⟨w.heap.size + 1, 2, none⟩ = some (.bool false) := (hb.cell (p := ⟨w.heap.size + 1, 2, none⟩) (by show w.heap.size + 1 < _; (try simp) <;> omega)).trans (by simp [go_sem])
  have r1_3 : w1.cell? ⟨w.heap.size + 1, 3, none⟩ = some (.string ⟨#[]⟩) := (hb.cell (p := ⟨w.heap.size + 1, 3, none⟩) (by show w.heap.size + 1 < _; (try simp) <;> omega)).trans (by simp [go_sem])
  have r1_4 : w1.cell? ⟨w.heap.size + 1, 4, none⟩ = some (.string ⟨#[]⟩) := (hb.cell (p := ⟨w.heap.size + 1, 4, none⟩) (by show w.heap.size + 1 < _; (try simp) <;> omega)).trans (by simp [go_sem])
  have rf1 : ∀ o, w1.frozen? ⟨w.heap.size + 1, o, none⟩ = false := fun o => (hb.frozen (p := ⟨w.heap.size + 1, o, none⟩) (by show w.heap.size + 1 < _; (try simp) <;> omega)).trans (by simp [go_sem])
  have HBW : Hid (Below w.heap.size w w1) := Lib.hid (((Below.refl w.heap.size w).alloc (Nat.le_refl _) _ |>.alloc (by simp) _).trans (hb.mono (by simp only [World.size_alloc]; omega)))
  clear hf hb
  go_upto_region 2 with fail
  obtain ⟨x, hx⟩ : ∃ x, ((w1.alloc (.cells #[] 46)).alloc (.cells #[.int .i64 p.state, .slice a1 p.args.length c1, .bool p.priv, .string p.text, .string p.utf, .slice (some ⟨w1.heap.size, 0, none⟩) 0 0] 84)) = x := ⟨_, rfl⟩
  have HBX : Hid (Below w1.heap.size w1 x) := Lib.hid (by rw [← hx]; exact ((Below.refl _ _).alloc (Nat.le_refl _) _).alloc (by simp) _)
  have hzx : w1.heap.size + 1 < x.heap.size := by rw [← hx]; simp
  have HQ0 : Hid (QS (w1.heap.size + 1) (w.heap.size + 2) p a1 c1 [] (some ⟨w1.heap.size, 0, none⟩) 0 x) := Lib.hid (by
    have h1 := HF.out.ch (M := fun _ => False) (Ch.of_below HBX.out) (fun _ _ h => h)
    have hb1 := FreshIn.blks HF.out
    simp only [World.size_alloc] at h1 hb1
    refine QS.box (by omega) hzx h1 ?_ ?_ ?_ ?_ ?_ ?_ ?_ ?_ ?_ ?_
    · rw [← hx]
      exact (actZero (w.heap.size + 2) w1 w1.heap.size rfl (by omega)).keep actL ((Below.refl _ _).alloc (Nat.le_refl _) _)
    · rw [← hx]; simp [go_sem]
    · rw [← hx]; simp [go_sem]
    · rw [← hx]; simp [go_sem]
    · rw [← hx]; simp [go_sem]
    · rw [← hx]; simp [go_sem]
    · rw [← hx]; simp [go_sem]
    · intro o; rw [← hx]; simp [go_sem]
    · intro h
      rcases List.mem_append.1 h with h | h
      · have := (hb1 _ h).2; omega
      · simp [blkOf] at h
    · intro k hk h
      have := (hb1 _ hk).2
      simp [blkOf] at h
      omega)
  rw [hx]
  clear hx
  have HBWX : Hid (Below w.heap.size w x) := Lib.hid (HBW.out.trans (HBX.out.mono (by omega)))
  have hx1 : w.heap.size + 1 < x.heap.size := by omega
  have x1_0 : x.cell? ⟨w.heap.size + 1, 0, none⟩ = some (.int .i64 0) := (HBX.out.cell (p := ⟨w.heap.size + 1, 0, none⟩) (by show w.heap.size + 1 < _; omega)).trans r1_0
  have x1_1 : x.cell? ⟨w.heap.size + 1, 1, none⟩ = some (.slice none 0 0) := (HBX.out.cell (p := ⟨w.heap.size + 1, 1, none⟩) (by show w.heap.size + 1 < _; omega)).trans r1_1
  have x1_2 : x.cell? ⟨w.heap.size + 1, 2, none⟩ = some (.bool false) := (HBX.out.cell (p := ⟨w.heap.size + 1, 2, none⟩) (by show w.heap.size + 1 < _; omega)).trans r1_2
  have x1_3 : x.cell? ⟨w.heap.size + 1, 3, none⟩ = some (.string ⟨#[]⟩) := (HBX.out.cell (p := ⟨w.heap.size + 1, 3, none⟩) (by show w.heap.size + 1 < _; omega)).trans r1_3
  have x1_4 : x.cell? ⟨w.heap.size + 1, 4, none⟩ = some (.string ⟨#[]⟩) := (HBX.out.cell (p := ⟨w.heap.size + 1, 4, none⟩) (by show w.heap.size + 1 < _; omega)).trans r1_4
  have xf1 : ∀ o, x.frozen? ⟨w.heap.size + 1, o, none⟩ = false := fun o => (HBX.out.frozen (p := ⟨w.heap.size + 1, o, none⟩) (by show w.heap.size + 1 < _; omega)).trans (rf1 o)
  clear r1_0 r1_1 r1_2 r1_3 r1_4 rf1
  obtain ⟨X, hX⟩ : ∃ X, w1.heap.size + 1 = X := ⟨_, rfl⟩
  have hXlo : w.heap.size + 2 < X := by omega
  have hXx : X < x.heap.size := by omega
  rw [hX] at HQ0 ⊢
  clear hX hzx hl0 hl1 hz
  go_wp2_with fail
  go_loopw [7] (fun i wr => ∃ (k : Nat) (a5 : Option Addr) (c5 : Nat) (L5 : List ActA) (al5 : Option Addr) (cl5 : Nat), k ≤ s.size ∧ i = .int .i64 k ∧ Hid (QS X (w.heap.size + 2) (prun p (s.data.toList.take k)).1 a5 c5 L5 al5 cl5 wr ∧ L5.map (·.A) = (prun p (s.data.toList.take k)).2 ∧ Below (w.heap.size + 2) x wr)) (fun i _ => s.size - (intOf i).toNat)
  case atStart => exact ⟨0, a1, c1, [], some ⟨w1.heap.size, 0, none⟩, 0, Nat.zero_le _, rfl, Lib.hid ⟨HQ0.out, rfl, Below.refl _ _⟩⟩
  case round =>
    obtain ⟨k, a5, c5, L5, al5, cl5, hk, rfl, HPP⟩ := hrel
    have hsz := HPP.out.2.2.size
    by_cases hlt : k < s.size
    · obtain ⟨b, hbk⟩ : ∃ b, s[k] = b := ⟨_, rfl⟩
      have HBK : Hid (s.data.toList[k]'(by rw [HSZ.out]; exact hlt) = b) := Lib.hid hbk
      have h256 := b.toNat_lt
      have HLL : Hid (L5.length ≤ 1048575) := Lib.hid (by
        have h1 := congrArg List.length HPP.out.2.1
        have h2 := run_len (s.data.toList.take k) p
        have h3 := HSZ.out
        simp only [List.length_map, List.length_take] at h1 h2
        omega)
      obtain ⟨Pk, hPk⟩ : ∃ P, prun p (s.data.toList.take k) = P := ⟨_, rfl⟩
      have HPK := Lib.hid hPk
      rw [hPk] at HPP
      clear hPk
      have hu8 : IntKind.i64.wrap (b.toNat : Int) = (b.toNat : Int) := IntWalk.i64_in _ ⟨by omega, by omega⟩
      have HTK := Lib.hid (take_r Pk.1 X (w.heap.size + 2) a5 al5 c5 cl5 L5 b wr HPP.out.1 HLL.out (by rw [← HPK.out]; exact prun_ok _ HOK.out))
      go_wp2_with fail
      refine HTK.out.mono ?_
      clear HTK
      rintro e w6 ⟨rfl, a7, c7, L7, al7, cl7, g1, g2, g3⟩
      have G1 := Lib.hid g1
      have G2 := Lib.hid g2
      have G3 := Lib.hid g3
      clear g1 g2 g3
      go_wp2_with fail
      go_roundw
      case rel =>
        have hs : prun p (s.data.toList.take (k + 1)) = ((pstep Pk.1 b).1, Pk.2 ++ (pstep Pk.1 b).2) := by
          rw [List.take_succ_eq_append_getElem (by rw [HSZ.out]; exact hlt), prun_snoc, HPK.out, HBK.out]
        exact ⟨k + 1, a7, c7, L7, al7, cl7, by omega, by go_num, Lib.hid ⟨by rw [hs]; exact G1.out, by rw [hs, G2.out, HPP.out.2.1], HPP.out.2.2.trans G3.out⟩⟩
      case measure => simp [intOf]; omega
    · obtain rfl : k = s.size := by omega
      rw [← HSZ.out, List.take_length] at HPP
      rw [HRE.out] at HPP
      have g1 := HPP.out.1
      have g3 := HPP.out.2.2
      have v0 := g1.ps.c0
      have v1 := g1.ps.c1
      have v2 := g1.ps.c2
      have v3 := g1.ps.c3
      have v4 := g1.ps.c4
      have v5 := g1.c5
      have vlt := g1.ps.lt
      have u0 : wr.cell? ⟨w.heap.size + 1, 0, none⟩ = some (.int .i64 0) := (g3.cell (p := ⟨w.heap.size + 1, 0, none⟩) (by show w.heap.size + 1 < _; omega)).trans x1_0
      have u1 : wr.cell? ⟨w.heap.size + 1, 1, none⟩ = some (.slice none 0 0) := (g3.cell (p := ⟨w.heap.size + 1, 1, none⟩) (by show w.heap.size + 1 < _; omega)).trans x1_1
      have u2 : wr.cell? ⟨w.heap.size + 1, 2, none⟩ = some (.bool false) := (g3.cell (p := ⟨w.heap.size + 1, 2, none⟩) (by show w.heap.size + 1 < _; omega)).trans x1_2
      have u3 : wr.cell? ⟨w.heap.size + 1, 3, none⟩ = some (.string ⟨#[]⟩) := (g3.cell (p := ⟨w.heap.size + 1, 3, none⟩) (by show w.heap.size + 1 < _; omega)).trans x1_3
      have u4 : wr.cell? ⟨w.heap.size + 1, 4, none⟩ = some (.string ⟨#[]⟩) := (g3.cell (p := ⟨w.heap.size + 1, 4, none⟩) (by show w.heap.size + 1 < _; omega)).trans x1_4
      have uf : ∀ o, wr.frozen? ⟨w.heap.size + 1, o, none⟩ = false := fun o => (g3.frozen (p := ⟨w.heap.size + 1, o, none⟩) (by show w.heap.size + 1 < _; omega)).trans (xf1 o)
      have ul : w.heap.size + 1 < wr.heap.size := by omega
      have hRl : R.1.args.length ≤ 1048576 := by
        have h1 := prun_ok s.data.toList HOK.out
        rw [HRE.out] at h1
        by_cases h2 : R.1.state = 2
        · have := h1.csi h2
          simp only [argsB, Bool.and_eq_true, decide_eq_true_eq] at this
          omega
        · rw [(h1.nocsi h2).1]; simp
      have HOW : Hid (∀ W, Below wr.heap.size wr W → Calls Tryd.prog 72 #[.agg #[.int .i64 R.1.state, .slice a5 R.1.args.length c5, .bool R.1.priv, .string R.1.text, .string R.1.utf]] W (ParR R.1 W)) := Lib.hid (fun W hW => own_r a5 c5 R.1 W (Sl.keep (w := wr) (FreshIn.sl (enc := intE) (fun _ => rfl) HPP.out.1.ps.args) hW) hRl)
      clear g1 g3
      go_upto_region 6 with fail
      have hS0 : wr.cell? ⟨X, 0, none⟩ = some (.int .i64 R.1.state) ∧ wr.cell? ⟨X, 1, none⟩ = some (.slice a5 R.1.args.length c5) ∧ wr.cell? ⟨X, 2, none⟩ = some (.bool R.1.priv) ∧ wr.cell? ⟨X, 3, none⟩ = some (.string R.1.text) ∧ wr.cell? ⟨X, 4, none⟩ = some (.string R.1.utf) ∧ wr.cell? ⟨X, 5, none⟩ = some (.slice al5 L5.length cl5) := ⟨v0, v1, v2, v3, v4, v5⟩
      refine wp_region_G (fun w' => w'.cell? ⟨X, 0, none⟩ = some (.int .i64 R.1.state) ∧ w'.cell? ⟨X, 1, none⟩ = some (.slice a5 R.1.args.length c5) ∧ w'.cell? ⟨X, 2, none⟩ = some (.bool R.1.priv) ∧ w'.cell? ⟨X, 3, none⟩ = some (.string R.1.text) ∧ w'.cell? ⟨X, 4, none⟩ = some (.string R.1.utf) ∧ w'.cell? ⟨X, 5, none⟩ = some (.slice al5 L5.length cl5)) (fun i => false) (by kernel_rfl) hS0 ?_
      refine wpAnyG_takeW (i := 0) (v := ?_) rfl (by kernel_rfl) (by kernel_rfl) (by kernel_rfl) (fun _ _ _ h => h) (Or.inl ⟨by rfl, ?_⟩) ?_
      rotate_left
      · intro w' hSw
        go_simp
        try (with_reducible rfl)
      try simp only [Act.put, List.getElem_toArray, List.getElem_cons_zero, List.getElem_cons_succ, List.setIfInBounds_toArray, List.set_cons_zero, List.set_cons_succ]
      refine wpAnyG_takeW (i := 1) (v := ?_) rfl (by kernel_rfl) (by kernel_rfl) (by kernel_rfl) (fun _ _ _ h => h) (Or.inl ⟨by rfl, ?_⟩) ?_
      rotate_left
      · intro w' hSw
        go_simp
        try (with_reducible rfl)
      try simp only [Act.put, List.getElem_toArray, List.getElem_cons_zero, List.getElem_cons_succ, List.setIfInBounds_toArray, List.set_cons_zero, List.set_cons_succ]
      refine wpAnyG_takeW (i := 2) (v := ?_) rfl (by kernel_rfl) (by kernel_rfl) (by kernel_rfl) (fun _ _ _ h => h) (Or.inl ⟨by rfl, ?_⟩) ?_
      rotate_left
      · intro w' hSw
        go_simp
        try (with_reducible rfl)
      try simp only [Act.put, List.getElem_toArray, List.getElem_cons_zero, List.getElem_cons_succ, List.setIfInBounds_toArray, List.set_cons_zero, List.set_cons_succ]
      refine wpAnyG_take (i := 3) (v := ?_) rfl (by kernel_rfl) (by kernel_rfl) (by kernel_rfl) (by kernel_rfl) (fun _ _ _ h => h) hS0 (Or.inl ⟨by rfl, ?_⟩) ?_
      rotate_left
      · intro w' hSw
        obtain ⟨s0, s1, s2, s3, s4, s5⟩ := hSw
        go_simp
        try (with_reducible rfl)
      try simp only [Act.put, List.getElem_toArray, List.getElem_cons_zero, List.getElem_cons_succ, List.setIfInBounds_toArray, List.set_cons_zero, List.set_cons_succ]
      refine wpAnyG_takeW (i := 5) (v := ?_) rfl (by kernel_rfl) (by kernel_rfl) (by kernel_rfl) (fun _ _ _ h => h) (Or.inl ⟨by rfl, ?_⟩) ?_
      rotate_left
      · intro w' hSw
        go_simp
        try (with_reducible rfl)
      try simp only [Act.put, List.getElem_toArray, List.getElem_cons_zero, List.getElem_cons_succ, List.setIfInBounds_toArray, List.set_cons_zero, List.set_cons_succ]
      refine wpAnyG_takeW (i := 6) (v := ?_) rfl (by kernel_rfl) (by kernel_rfl) (by kernel_rfl) (fun _ _ _ h => h) (Or.inl ⟨by rfl, ?_⟩) ?_
      rotate_left
      · intro w' hSw
        go_simp
        try (with_reducible rfl)
      try simp only [Act.put, List.getElem_toArray, List.getElem_cons_zero, List.getElem_cons_succ, List.setIfInBounds_toArray, List.set_cons_zero, List.set_cons_succ]
      refine wpAnyG_takeW (i := 7) (v := ?_) rfl (by kernel_rfl) (by kernel_rfl) (by kernel_rfl) (fun _ _ _ h => h) (Or.inl ⟨by rfl, ?_⟩) ?_
      rotate_left
      · intro w' hSw
        go_simp
        try (with_reducible rfl)
      try simp only [Act.put, List.getElem_toArray, List.getElem_cons_zero, List.getElem_cons_succ, List.setIfInBounds_toArray, List.set_cons_zero, List.set_cons_succ]
      refine wpAnyG_take (i := 8) (v := ?_) rfl (by kernel_rfl) (by kernel_rfl) (by kernel_rfl) (by kernel_rfl) (fun _ _ _ h => h) hS0 (Or.inl ⟨by rfl, ?_⟩) ?_
      rotate_left
      · intro w' hSw
        obtain ⟨s0, s1, s2, s3, s4, s5⟩ := hSw
        go_simp
        try (with_reducible rfl)
      try simp only [Act.put, List.getElem_toArray, List.getElem_cons_zero, List.getElem_cons_succ, List.setIfInBounds_toArray, List.set_cons_zero, List.set_cons_succ]
      refine wpAnyG_one (i := 4) (by kernel_rfl) rfl hS0 (fun K' hK => ?_)
      simp only [List.getElem_toArray, List.getElem_cons_zero, List.getElem_cons_succ]
      go_simp
      go_at_call 72
      refine (HOW.out wr.drew ((Below.refl _ _).drew)).mono ?_
      clear HOW
      rintro e w7 ⟨a8, c8, rfl, hf8, hb8⟩
      have HF8 := Lib.hid hf8
      have HB8 : Hid (Below wr.heap.size wr w7) := Lib.hid (((Below.refl _ _).drew).trans hb8)
      have hz8 := HB8.out.size
      have hS1 : w7.cell? ⟨X, 0, none⟩ = some (.int .i64 R.1.state) ∧ w7.cell? ⟨X, 1, none⟩ = some (.slice a5 R.1.args.length c5) ∧ w7.cell? ⟨X, 2, none⟩ = some (.bool R.1.priv) ∧ w7.cell? ⟨X, 3, none⟩ = some (.string R.1.text) ∧ w7.cell? ⟨X, 4, none⟩ = some (.string R.1.utf) ∧ w7.cell? ⟨X, 5, none⟩ = some (.slice al5 L5.length cl5) := ⟨(HB8.out.cell (p := ⟨X, 0, none⟩) vlt).trans v0, (HB8.out.cell (p := ⟨X, 1, none⟩) vlt).trans v1, (HB8.out.cell (p := ⟨X, 2, none⟩) vlt).trans v2, (HB8.out.cell (p := ⟨X, 3, none⟩) vlt).trans v3, (HB8.out.cell (p := ⟨X, 4, none⟩) vlt).trans v4, (HB8.out.cell (p := ⟨X, 5, none⟩) vlt).trans v5⟩
      have y0 : w7.cell? ⟨w.heap.size + 1, 0, none⟩ = some (.int .i64 0) := (HB8.out.cell (p := ⟨w.heap.size + 1, 0, none⟩) ul).trans u0
      have y1 : w7.cell? ⟨w.heap.size + 1, 1, none⟩ = some (.slice none 0 0) := (HB8.out.cell (p := ⟨w.heap.size + 1, 1, none⟩) ul).trans u1
      have y2 : w7.cell? ⟨w.heap.size + 1, 2, none⟩ = some (.bool false) := (HB8.out.cell (p := ⟨w.heap.size + 1, 2, none⟩) ul).trans u2
      have y3 : w7.cell? ⟨w.heap.size + 1, 3, none⟩ = some (.string ⟨#[]⟩) := (HB8.out.cell (p := ⟨w.heap.size + 1, 3, none⟩) ul).trans u3
      have y4 : w7.cell? ⟨w.heap.size + 1, 4, none⟩ = some (.string ⟨#[]⟩) := (HB8.out.cell (p := ⟨w.heap.size + 1, 4, none⟩) ul).trans u4
      have yf : ∀ o, w7.frozen? ⟨w.heap.size + 1, o, none⟩ = false := fun o => (HB8.out.frozen (p := ⟨w.heap.size + 1, o, none⟩) ul).trans (uf o)
      have yl : w.heap.size + 1 < w7.heap.size := by omega
      clear hf8 hb8
      refine hK.out _ _ (Or.inr hS1) ?_
      clear hK K'
      try simp only [Act.put, List.getElem_toArray, List.getElem_cons_zero, List.getElem_cons_succ, List.setIfInBounds_toArray, List.set_cons_zero, List.set_cons_succ]
      have hXn : ¬ w.heap.size + 1 = X := by omega
      have hXm : ¬ X = w.heap.size + 1 := by omega
      obtain ⟨h_0, h_1, h_2, h_3, h_4, h_5⟩ := id hS1
      refine wpAnyG_one (i := 9) (by kernel_rfl) rfl hS1 (fun K' hK => ?_)
      simp only [List.getElem_toArray, List.getElem_cons_zero, List.getElem_cons_succ]
      go_simp
      refine hK.out _ _ (Or.inr (by refine ⟨?_, ?_, ?_, ?_, ?_, ?_⟩ <;> simp [go_sem, h_0, h_1, h_2, h_3, h_4, h_5, hXn, hXm])) ?_
      clear hK K'
      try simp only [Act.put, List.getElem_toArray, List.getElem_cons_zero, List.getElem_cons_succ, List.setIfInBounds_toArray, List.set_cons_zero, List.set_cons_succ]
      refine wpAnyG_takeW (i := 10) (v := ?_) rfl (by kernel_rfl) (by kernel_rfl) (by kernel_rfl) (fun _ _ _ h => h) (Or.inl ⟨by rfl, ?_⟩) ?_
      rotate_left
      · intro w' hSw
        go_simp
        try (with_reducible rfl)
      try simp only [Act.put, List.getElem_toArray, List.getElem_cons_zero, List.getElem_cons_succ, List.setIfInBounds_toArray, List.set_cons_zero, List.set_cons_succ]
      refine wpAnyG_done (by kernel_rfl) ?_ _
      go_wp2_with fail
      refine bodyPost_ret (v := .tuple #[.agg #[.int .i64 R.1.state, .slice a8 R.1.args.length c8, .bool R.1.priv, .string R.1.text, .string R.1.utf], .slice al5 L5.length cl5]) (by simp [results, Tryd.results41, go_sem, y0, y1, y2, y3, y4, yl]) rfl ?_
      have hc : ∀ y0 y1 y2 y3 y4, Ch (fun k => k = w.heap.size + 1) w7 (((((w7.setCell ⟨w.heap.size + 1, 0, none⟩ y0).setCell ⟨w.heap.size + 1, 1, none⟩ y1).setCell ⟨w.heap.size + 1, 2, none⟩ y2).setCell ⟨w.heap.size + 1, 3, none⟩ y3).setCell ⟨w.heap.size + 1, 4, none⟩ y4) := fun y0 y1 y2 y3 y4 => ((((Ch.set1 _ _ _ _).setB _ _).setB _ _).setB _ _).setB _ _
      have hcx := hc (.int .i64 R.1.state) (.slice a8 R.1.args.length c8) (.bool R.1.priv) (.string R.1.text) (.string R.1.utf)
      have hp := HPP.out.1.ps
      have hro := hp.ro.keep actL HB8.out
      have hbl := hp.ro.bd actL
      have hf := HF8.out
      have hfb := FreshIn.blks hf
      simp only [World.size_drew] at hf hfb
      refine ⟨a8, c8, al5, cl5, L5, rfl, ?_, ?_, ?_, HPP.out.2.1, ?_⟩
      · exact (hf.ch hcx (fun k hk h => by have := (hfb k hk).1; omega)).mono (by omega) (Nat.le_refl _)
      · exact (hro.ch actL hcx (fun k hk h => by have := (hbl k hk).1; omega)).low actL (by omega)
      · intro k hk h
        have h1 := (hfb k hk).1
        have h2 := (hbl k h).2
        omega
      · exact ((HBWX.out.trans (HPP.out.2.2.mono (by omega))).trans (HB8.out.mono (by omega))).trans (hcx.below (by omega) (fun k h => by omega))
end
end Go.Proofs.YtlhhlmalihajcaaDoor
