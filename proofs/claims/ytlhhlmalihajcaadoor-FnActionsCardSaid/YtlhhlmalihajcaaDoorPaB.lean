/- impl's parse, ParseByte, ParseBytes. No conditions but sizes. -/
import Derived.Test.YtlhhlmalihajcaaDoorPaA
import Derived.Lib.LazyBuf
import Derived.Test.YtlhhlmalihajcaaDoorLong
namespace Go.Proofs.YtlhhlmalihajcaaDoor
set_option linter.unusedVariables false
set_option linter.unusedSimpArgs false
section
open Go.RowKit
theorem enc_low (n : Nat) (h : n < 128) : Utf8.encode (n : Int) = ⟨#[UInt8.ofNat n]⟩ := by
  unfold Utf8.encode
  have hv : Utf8.valid (n : Int) = true := by
    simp only [Utf8.valid, Bool.and_eq_true, Bool.or_eq_true, decide_eq_true_eq]
    omega
  rw [hv]
  simp [h]
section
variable {p : PV} {b : UInt8} {n : Nat}
theorem ss1 (hn : b.toNat = n) (h : n = 27) : sstep p b = (pst 1, []) := by subst hn; unfold sstep; rw [if_pos h]
theorem ss2 (hn : b.toNat = n) (h : 64 ≤ n ∧ n ≤ 126) : sstep p b = (pz, []) := by subst hn; unfold sstep; rw [if_neg (by omega), if_pos h]
theorem ss3 (hn : b.toNat = n) (h1 : ¬ n = 27) (h : ¬ (64 ≤ n ∧ n ≤ 126)) : sstep p b = (p, []) := by subst hn; unfold sstep; rw [if_neg h1, if_neg h]
theorem os1 (hn : b.toNat = n) (h : n = 7) : ostep p b = (pz, [⟨5, 0, false, [], p.text⟩]) := by subst hn; unfold ostep; rw [if_pos h]
theorem os2 (hn : b.toNat = n) (h : n = 27) : ostep p b = ({ p with state := 5 }, []) := by subst hn; unfold ostep; rw [if_neg (by omega), if_pos h]
theorem os3 (hn : b.toNat = n) (h : (32 ≤ n ∧ n ≤ 126) ∧ p.text.size < 40) : ostep p b = ({ p with text := p.text ++ ⟨#[b]⟩ }, []) := by subst hn; unfold ostep; rw [if_neg (by omega), if_neg (by omega), if_pos h]
theorem os4 (hn : b.toNat = n) (h1 : ¬ n = 7) (h2 : ¬ n = 27) (h : ¬ ((32 ≤ n ∧ n ≤ 126) ∧ p.text.size < 40)) : ostep p b = (p, []) := by subst hn; unfold ostep; rw [if_neg h1, if_neg h2, if_neg h]
theorem qs1 (hn : b.toNat = n) (h : n = 92) : qstep p b = (pz, [⟨5, 0, false, [], p.text⟩]) := by subst hn; unfold qstep; rw [if_pos h]
theorem qs2 (hn : b.toNat = n) (h : ¬ n = 92) : qstep p b = estep b := by subst hn; unfold qstep; rw [if_neg h]
end
set_option maxRecDepth 100000 in
set_option maxHeartbeats 16000000 in
theorem parseSkip_c (B lo : Nat) (p : PV) (ap al : Option Addr) (cp cl : Nat) (L : List ActA) (b : UInt8) (w : World) (h : PS B lo p ap cp L al cl w) (hL : L.length ≤ 1048576) (hlo : lo ≤ w.heap.size)
    (hs : p.state = 3) (hA : p.args = []) (hP : p.priv = false) (hT : p.text = e0) (hU : p.utf = e0) :
    Calls Tryd.prog 39 #[.pointer (some ⟨B, 0, none⟩), .slice al L.length cl, .int .u8 b.toNat] w (PR B lo (sstep p b) ap L al w) := by
  obtain ⟨iA, hA, hA0, hA1, hA2⟩ := info_parts Tryd.infoAction
  rename_i hAA
  have HP := Lib.hid h
  have k_0 : w.cell? ⟨B, 0, none⟩ = some (.int .i64 3) := by rw [h.c0, hs]
  have k_1 : w.cell? ⟨B, 1, none⟩ = some (.slice ap 0 cp) := by rw [h.c1, hAA]; rfl
  have k_2 : w.cell? ⟨B, 2, none⟩ = some (.bool false) := by rw [h.c2, hP]
  have k_3 : w.cell? ⟨B, 3, none⟩ = some (.string p.text) := h.c3
  have k_4 : w.cell? ⟨B, 4, none⟩ = some (.string ⟨#[]⟩) := by rw [h.c4, hU]
  have kf := h.fz
  have klt := h.lt
  have h256 : b.toNat < 256 := b.toNat_lt
  have HE : Hid (p.state = 3 ∧ p.args = [] ∧ p.priv = false ∧ p.utf = e0) := Lib.hid ⟨hs, hAA, hP, hU⟩
  clear h hs hAA hP hU
  obtain ⟨Gr, hG⟩ : ∃ G, sstep p b = G := ⟨_, rfl⟩
  have HGG := Lib.hid hG
  rw [hG]
  clear hG
  obtain ⟨n, hn⟩ : ∃ n, b.toNat = n := ⟨_, rfl⟩
  rw [hn] at h256 ⊢
  have HN := Lib.hid hn
  clear hn
  have HT := Lib.hid hT
  clear hT
  by_cases h27 : n = 27
  case pos =>
    have HR : Hid (Gr = (pst 1, [])) := Lib.hid (by rw [← HGG.out]; exact ss1 HN.out h27)
    have g27 : ((n : Int) == 27) = true := by subst h27; rfl
    clear h27
    go_enter Tryd.func39, Tryd.ntmps39
    go_wp2_with fail
    go_ret
    have hE := HE.out
    have hT := HT.out
    have hc : Ch (fun k => k = B) w (w.setCell ⟨B, 0, none⟩ (.int .i64 1)) := Ch.set1 _ _ _ _
    refine PR.cells (p' := pst 1) (ap' := ap) (cp' := cp) HP.out hc (by rw [HR.out]) (by rw [HR.out]) (HP.out.cells hc ?_ ?_ ?_ ?_ ?_ ?_ (.inl ⟨rfl, rfl, by rw [hE.2.1]; rfl⟩)) (.inl rfl)
    all_goals first | (intro o; simp [go_sem, kf, klt]; done) | (simp [go_sem, k_0, k_1, k_2, k_3, k_4, klt, pst, hT]; done)
  have g27 : ((n : Int) == 27) = false := beq_eq_false_iff_ne.2 (by omega)
  by_cases h64 : 64 ≤ n ∧ n ≤ 126
  case pos =>
    have HR : Hid (Gr = (pz, [])) := Lib.hid (by rw [← HGG.out]; exact ss2 HN.out h64)
    have g1 : (64 : Int) ≤ (n : Int) := by omega
    have g2 : (n : Int) ≤ 126 := by omega
    go_enter Tryd.func39, Tryd.ntmps39
    go_wp2_with fail
    go_ret
    have hE := HE.out
    have hT := HT.out
    have hc : Ch (fun k => k = B) w (w.setCell ⟨B, 0, none⟩ (.int .i64 0)) := Ch.set1 _ _ _ _
    refine PR.cells (p' := pz) (ap' := ap) (cp' := cp) HP.out hc (by rw [HR.out]) (by rw [HR.out]) (HP.out.cells hc ?_ ?_ ?_ ?_ ?_ ?_ (.inl ⟨rfl, rfl, by rw [hE.2.1]; rfl⟩)) (.inl rfl)
    all_goals first | (intro o; simp [go_sem, kf, klt]; done) | (simp [go_sem, k_0, k_1, k_2, k_3, k_4, klt, pz, hT]; done)
  have HR : Hid (Gr = (p, [])) := Lib.hid (by rw [← HGG.out]; exact ss3 HN.out h27 h64)
  have g64 : ¬ ((64 : Int) ≤ (n : Int) ∧ (n : Int) ≤ 126) := by omega
  go_enter Tryd.func39, Tryd.ntmps39
  go_wp2_with fail
  all_goals first
    | (exfalso; omega)
    | (go_ret; exact PR.cells (p' := p) (ap' := ap) (cp' := cp) HP.out Ch.refl (by rw [HR.out]) (by rw [HR.out]) HP.out (.inl rfl))
set_option maxRecDepth 100000 in
set_option maxHeartbeats 16000000 in
theorem parseOsc_c (B lo : Nat) (p : PV) (ap al : Option Addr) (cp cl : Nat) (L : List ActA) (b : UInt8) (w : World) (h : PS B lo p ap cp L al cl w) (hL : L.length ≤ 1048576) (hlo : lo ≤ w.heap.size)
    (hs : p.state = 4) (hA : p.args = []) (hP : p.priv = false) (hU : p.utf = e0) (hZ : p.text.size ≤ 40) :
    Calls Tryd.prog 39 #[.pointer (some ⟨B, 0, none⟩), .slice al L.length cl, .int .u8 b.toNat] w (PR B lo (ostep p b) ap L al w) := by
  obtain ⟨iA, hA, hA0, hA1, hA2⟩ := info_parts Tryd.infoAction
  rename_i hAA
  have HP := Lib.hid h
  have k_0 : w.cell? ⟨B, 0, none⟩ = some (.int .i64 4) := by rw [h.c0, hs]
  have k_1 : w.cell? ⟨B, 1, none⟩ = some (.slice ap 0 cp) := by rw [h.c1, hAA]; rfl
  have k_2 : w.cell? ⟨B, 2, none⟩ = some (.bool false) := by rw [h.c2, hP]
  have k_3 : w.cell? ⟨B, 3, none⟩ = some (.string p.text) := h.c3
  have k_4 : w.cell? ⟨B, 4, none⟩ = some (.string ⟨#[]⟩) := by rw [h.c4, hU]
  have kf := h.fz
  have klt := h.lt
  have h256 : b.toNat < 256 := b.toNat_lt
  have HE : Hid (p.state = 4 ∧ p.args = [] ∧ p.priv = false ∧ p.utf = e0) := Lib.hid ⟨hs, hAA, hP, hU⟩
  clear h hs hAA hP hU
  obtain ⟨Gr, hG⟩ : ∃ G, ostep p b = G := ⟨_, rfl⟩
  have HGG := Lib.hid hG
  rw [hG]
  clear hG
  obtain ⟨n, hn⟩ : ∃ n, b.toNat = n := ⟨_, rfl⟩
  rw [hn] at h256 ⊢
  have HN := Lib.hid hn
  clear hn
  by_cases h7 : n = 7
  case pos =>
    have HR : Hid (Gr = (pz, [⟨5, 0, false, [], p.text⟩])) := Lib.hid (by rw [← HGG.out]; exact os1 HN.out h7)
    have g7 : ((n : Int) == 7) = true := by subst h7; rfl
    clear h7
    go_enter Tryd.func39, Tryd.ntmps39
    go_upto_region 25 with fail
    have HSRC1 : Hid (Src Tryd.prog 5 28 (.slice (some ⟨w.heap.size, 0, none⟩) 1 1) [(⟨⟨5, 0, false, [], p.text⟩, none, 0⟩ : ActA)].length ([(⟨⟨5, 0, false, [], p.text⟩, none, 0⟩ : ActA)].flatMap actE) (w.alloc (.cells #[.int .i64 5, .int .i64 0, .bool false, .slice none 0 0, .string p.text] 46))) := Lib.hid (Src.ofBox (enc := actE) Tryd.underlying28 (fun _ => rfl) actOne (⟨⟨5, 0, false, [], p.text⟩, none, 0⟩ : ActA) _ _ (by first | rfl | simp [actE]) _ rfl)
    have HRO1 : Hid (ActO lo L al cl (w.alloc (.cells #[.int .i64 5, .int .i64 0, .bool false, .slice none 0 0, .string p.text] 46))) := Lib.hid (HP.out.ro.keep actL ((Below.refl _ _).alloc (Nat.le_refl _) _))
    go_wp2_with (at_builtin; refine wpList_append_ch (.tmp 84) (.tmp 90) 28 28 lo 46 iA (.agg #[.int .i64 0, .int .i64 0, .bool false, .slice none 0 0, .string ⟨#[]⟩]) 5 64 Tryd.underlying28 hA hA0 hA1 hA2 rfl (by decide) al L.length cl L HRO1.out.row (.slice (some ⟨w.heap.size, 0, none⟩) 1 1) [(⟨⟨5, 0, false, [], p.text⟩, none, 0⟩ : ActA)] HSRC1.out (by simp; omega) (by simp; omega) rfl rfl rfl rfl ?_)
    intro a1 c1 w1 us1 hus hf hc hk
    have HUS1 := hus
    have HF1 := Lib.hid hf
    have HC1 : Hid (Ch (· ∈ blkOf al) w w1) := Lib.hid ((Ch.refl.alloc _).trans hc (fun i hi => .inl hi))
    have HK1 : Hid (∀ j ∈ blkOf a1, j ∈ blkOf al ∨ j = (w.alloc (.cells #[.int .i64 5, .int .i64 0, .bool false, .slice none 0 0, .string p.text] 46)).heap.size) := Lib.hid (fun j hj => by simpa using hk j hj)
    have HCA1 := Lib.hid hc
    clear hus hf hc hk
    have HP4 := Lib.hid ((HP.out.keep ((Below.refl _ _).alloc (Nat.le_refl _) (.cells #[.int .i64 5, .int .i64 0, .bool false, .slice none 0 0, .string p.text] 46))).push (x := ⟨⟨5, 0, false, [], p.text⟩, none, 0⟩) ⟨rfl, rfl, rfl⟩ HUS1.out HF1.out HCA1.out HK1.out)
    have ZC : Hid (Ch (fun k => k = B) w1 (((((w1.setCell ⟨B, 0, none⟩ (.int .i64 0)).setCell ⟨B, 1, none⟩ (.slice none 0 0)).setCell ⟨B, 2, none⟩ (.bool false)).setCell ⟨B, 3, none⟩ (.string ⟨#[]⟩)).setCell ⟨B, 4, none⟩ (.string ⟨#[]⟩))) := Lib.hid (by repeat (first | (with_reducible exact Ch.refl) | (with_reducible refine Ch.alloc ?_ _) | (with_reducible refine Ch.drew ?_) | (with_reducible refine Ch.setB ?_ _ _)))
    have ZP : Hid (PS B lo pz none 0 us1 a1 c1 (((((w1.setCell ⟨B, 0, none⟩ (.int .i64 0)).setCell ⟨B, 1, none⟩ (.slice none 0 0)).setCell ⟨B, 2, none⟩ (.bool false)).setCell ⟨B, 3, none⟩ (.string ⟨#[]⟩)).setCell ⟨B, 4, none⟩ (.string ⟨#[]⟩))) := Lib.hid (by
      have h4 := HP4.out
      have e_0 := h4.c0
      have e_1 := h4.c1
      have e_2 := h4.c2
      have e_3 := h4.c3
      have e_4 := h4.c4
      have ef := h4.fz
      refine h4.cells ZC.out ?_ ?_ ?_ ?_ ?_ ?_ (.inr ⟨rfl, rfl, rfl⟩)
      all_goals first | (intro o; simp [go_sem, ef]; done) | (simp [go_sem, e_0, e_1, e_2, e_3, e_4, pz]; done))
    have j_0 : w1.cell? ⟨B, 0, none⟩ = some (.int .i64 p.state) := HP4.out.c0
    have j_1 := HP4.out.c1
    have j_2 := HP4.out.c2
    have j_3 := HP4.out.c3
    have j_4 := HP4.out.c4
    have jf := HP4.out.fz
    go_wp2_with fail
    go_ret
    exact PR.push (p' := pz) (ap' := none) (cp' := 0) (w1 := w.alloc (.cells #[.int .i64 5, .int .i64 0, .bool false, .slice none 0 0, .string p.text] 46)) HP.out (x := ⟨⟨5, 0, false, [], p.text⟩, none, 0⟩) rfl HUS1.out HK1.out (by simp) ((HC1.out.mono (M := fun k => k = B ∨ k ∈ blkOf al) (fun i hi => .inl (.inr hi))).trans ZC.out (fun i hi => .inl (.inl hi))) (by rw [HR.out]) (by rw [HR.out]; try rfl) ZP.out (.inr rfl)
  have g7 : ((n : Int) == 7) = false := beq_eq_false_iff_ne.2 (by omega)
  by_cases h27 : n = 27
  case pos =>
    have HR : Hid (Gr = ({ p with state := 5 }, [])) := Lib.hid (by rw [← HGG.out]; exact os2 HN.out h27)
    have g27 : ((n : Int) == 27) = true := by subst h27; rfl
    clear h27
    go_enter Tryd.func39, Tryd.ntmps39
    go_wp2_with fail
    go_ret
    have hE := HE.out
    have hc : Ch (fun k => k = B) w (w.setCell ⟨B, 0, none⟩ (.int .i64 5)) := Ch.set1 _ _ _ _
    refine PR.cells (p' := { p with state := 5 }) (ap' := ap) (cp' := cp) HP.out hc (by rw [HR.out]) (by rw [HR.out]) (HP.out.cells hc ?_ ?_ ?_ ?_ ?_ ?_ (.inl ⟨rfl, rfl, rfl⟩)) (.inl rfl)
    all_goals first | (intro o; simp [go_sem, kf, klt]; done) | (simp [go_sem, k_0, k_1, k_2, k_3, k_4, klt, hE.1, hE.2.1, hE.2.2.1, hE.2.2.2]; done)
  have g27 : ((n : Int) == 27) = false := beq_eq_false_iff_ne.2 (by omega)
  by_cases h3 : (32 ≤ n ∧ n ≤ 126) ∧ p.text.size < 40
  case pos =>
    have HR : Hid (Gr = ({ p with text := p.text ++ ⟨#[b]⟩ }, [])) := Lib.hid (by rw [← HGG.out]; exact os3 HN.out h3)
    obtain ⟨⟨h31, h32⟩, h40⟩ := h3
    have g31 : (32 : Int) ≤ (n : Int) := by omega
    have g32 : (n : Int) ≤ 126 := by omega
    have g40 : (p.text.size : Int) < 40 := by omega
    have hbig : ¬ 9223372036854775807 < p.text.size + 1 := by omega
    go_enter Tryd.func39, Tryd.ntmps39
    go_upto_region 30 with fail
    have hcv : (convert 21 9 (.int .i32 n)).run Tryd.prog w = .ok (.string ⟨#[b]⟩) w := by
      rw [run_convert_int_string w 21 9 .i32 n (by rw [Tryd.underlying21]; rfl) Tryd.underlying9]
      rw [enc_low n (by omega), ← HN.out]
      simp
    have hw2 : IntKind.i32.wrap (n : Int) = n := IntWalk.i32_in _ ⟨by omega, by omega⟩
    go_wp2_with fail
    go_ret
    clear hcv hw2 hbig
    have hE := HE.out
    have hc : Ch (fun k => k = B) w (w.setCell ⟨B, 3, none⟩ (.string (p.text ++ ⟨#[b]⟩))) := Ch.set1 _ _ _ _
    refine PR.cells (p' := { p with text := p.text ++ ⟨#[b]⟩ }) (ap' := ap) (cp' := cp) HP.out hc (by rw [HR.out]) (by rw [HR.out]) (HP.out.cells hc ?_ ?_ ?_ ?_ ?_ ?_ (.inl ⟨rfl, rfl, rfl⟩)) (.inl rfl)
    all_goals first | (intro o; simp [go_sem, kf, klt]; done) | (simp [go_sem, k_0, k_1, k_2, k_3, k_4, klt, hE.1, hE.2.1, hE.2.2.1, hE.2.2.2]; done)
  have HR : Hid (Gr = (p, [])) := Lib.hid (by rw [← HGG.out]; exact os4 HN.out h7 h27 h3)
  have g3 : ¬ (((32 : Int) ≤ (n : Int) ∧ (n : Int) ≤ 126) ∧ (p.text.size : Int) < 40) := by omega
  go_enter Tryd.func39, Tryd.ntmps39
  go_wp2_with fail
  all_goals first
    | (exfalso; omega)
    | (go_ret; exact PR.cells (p' := p) (ap' := ap) (cp' := cp) HP.out Ch.refl (by rw [HR.out]) (by rw [HR.out]) HP.out (.inl rfl))
end
section
open Go.RowKit
/-- A byte's result, seen from before a change of the parser's cells. -/
theorem PR.baseB {B lo : Nat} {R : PV × List AV} {ap al : Option Addr} {L : List ActA} {w w1 w' : World} {e : Ending} (h : PR B lo R none L al w1 e w') (hc : Ch (fun k => k = B) w w1) : PR B lo R ap L al w e w' := by
  obtain ⟨ap', cp', L', al', cl', h1, h2, h3, h4, h5⟩ := h
  refine ⟨ap', cp', L', al', cl', h1, h2, h3, (hc.mono (M := fun k => k = B ∨ k ∈ blkOf ap ∨ k ∈ blkOf al) (fun i hi => .inl (.inl hi))).trans h4 (fun i hi => .inl ?_), fun k hk => ?_⟩
  · rcases hi with hi | hi | hi
    · exact .inl hi
    · simp [blkOf] at hi
    · exact .inr (.inr hi)
  · have := hc.size
    rcases h5 k hk with h6 | h6
    · rw [List.mem_append] at h6 ⊢
      rcases h6 with h6 | h6
      · simp [blkOf] at h6
      · exact .inl (.inr h6)
    · exact .inr (by omega)
set_option maxRecDepth 100000 in
set_option maxHeartbeats 16000000 in
theorem parseOscEnd_c (B lo : Nat) (p : PV) (ap al : Option Addr) (cp cl : Nat) (L : List ActA) (b : UInt8) (w : World) (h : PS B lo p ap cp L al cl w) (hL : L.length ≤ 1048576) (hlo : lo ≤ w.heap.size)
    (hs : p.state = 5) (hA : p.args = []) (hP : p.priv = false) (hU : p.utf = e0) (_hZ : p.text.size ≤ 40) :
    Calls Tryd.prog 39 #[.pointer (some ⟨B, 0, none⟩), .slice al L.length cl, .int .u8 b.toNat] w (PR B lo (qstep p b) ap L al w) := by
  obtain ⟨iA, hA, hA0, hA1, hA2⟩ := info_parts Tryd.infoAction
  rename_i hAA
  have HP := Lib.hid h
  have k_0 : w.cell? ⟨B, 0, none⟩ = some (.int .i64 5) := by rw [h.c0, hs]
  have k_1 : w.cell? ⟨B, 1, none⟩ = some (.slice ap 0 cp) := by rw [h.c1, hAA]; rfl
  have k_2 : w.cell? ⟨B, 2, none⟩ = some (.bool false) := by rw [h.c2, hP]
  have k_3 : w.cell? ⟨B, 3, none⟩ = some (.string p.text) := h.c3
  have k_4 : w.cell? ⟨B, 4, none⟩ = some (.string ⟨#[]⟩) := by rw [h.c4, hU]
  have kf := h.fz
  have klt := h.lt
  have h256 : b.toNat < 256 := b.toNat_lt
  have HE : Hid (p.state = 5 ∧ p.args = [] ∧ p.priv = false ∧ p.utf = e0) := Lib.hid ⟨hs, hAA, hP, hU⟩
  clear h hs hAA hP hU
  obtain ⟨Gr, hG⟩ : ∃ G, qstep p b = G := ⟨_, rfl⟩
  have HGG := Lib.hid hG
  rw [hG]
  clear hG
  obtain ⟨n, hn⟩ : ∃ n, b.toNat = n := ⟨_, rfl⟩
  rw [hn] at h256 ⊢
  have HN := Lib.hid hn
  clear hn
  by_cases h92 : n = 92
  case pos =>
    have HR : Hid (Gr = (pz, [⟨5, 0, false, [], p.text⟩])) := Lib.hid (by rw [← HGG.out]; exact qs1 HN.out h92)
    have g92 : ((n : Int) == 92) = true := by subst h92; rfl
    clear h92
    go_enter Tryd.func39, Tryd.ntmps39
    go_upto_region 35 with fail
    have HSRC1 : Hid (Src Tryd.prog 5 28 (.slice (some ⟨w.heap.size, 0, none⟩) 1 1) [(⟨⟨5, 0, false, [], p.text⟩, none, 0⟩ : ActA)].length ([(⟨⟨5, 0, false, [], p.text⟩, none, 0⟩ : ActA)].flatMap actE) (w.alloc (.cells #[.int .i64 5, .int .i64 0, .bool false, .slice none 0 0, .string p.text] 46))) := Lib.hid (Src.ofBox (enc := actE) Tryd.underlying28 (fun _ => rfl) actOne (⟨⟨5, 0, false, [], p.text⟩, none, 0⟩ : ActA) _ _ (by first | rfl | simp [actE]) _ rfl)
    have HRO1 : Hid (ActO lo L al cl (w.alloc (.cells #[.int .i64 5, .int .i64 0, .bool false, .slice none 0 0, .string p.text] 46))) := Lib.hid (HP.out.ro.keep actL ((Below.refl _ _).alloc (Nat.le_refl _) _))
    go_wp2_with (at_builtin; refine wpList_append_ch (.tmp 137) (.tmp 143) 28 28 lo 46 iA (.agg #[.int .i64 0, .int .i64 0, .bool false, .slice none 0 0, .string ⟨#[]⟩]) 5 64 Tryd.underlying28 hA hA0 hA1 hA2 rfl (by decide) al L.length cl L HRO1.out.row (.slice (some ⟨w.heap.size, 0, none⟩) 1 1) [(⟨⟨5, 0, false, [], p.text⟩, none, 0⟩ : ActA)] HSRC1.out (by simp; omega) (by simp; omega) rfl rfl rfl rfl ?_)
    intro a1 c1 w1 us1 hus hf hc hk
    have HUS1 := hus
    have HF1 := Lib.hid hf
    have HC1 : Hid (Ch (· ∈ blkOf al) w w1) := Lib.hid ((Ch.refl.alloc _).trans hc (fun i hi => .inl hi))
    have HK1 : Hid (∀ j ∈ blkOf a1, j ∈ blkOf al ∨ j = (w.alloc (.cells #[.int .i64 5, .int .i64 0, .bool false, .slice none 0 0, .string p.text] 46)).heap.size) := Lib.hid (fun j hj => by simpa using hk j hj)
    have HCA1 := Lib.hid hc
    clear hus hf hc hk
    have HP4 := Lib.hid ((HP.out.keep ((Below.refl _ _).alloc (Nat.le_refl _) (.cells #[.int .i64 5, .int .i64 0, .bool false, .slice none 0 0, .string p.text] 46))).push (x := ⟨⟨5, 0, false, [], p.text⟩, none, 0⟩) ⟨rfl, rfl, rfl⟩ HUS1.out HF1.out HCA1.out HK1.out)
    have ZC : Hid (Ch (fun k => k = B) w1 (((((w1.setCell ⟨B, 0, none⟩ (.int .i64 0)).setCell ⟨B, 1, none⟩ (.slice none 0 0)).setCell ⟨B, 2, none⟩ (.bool false)).setCell ⟨B, 3, none⟩ (.string ⟨#[]⟩)).setCell ⟨B, 4, none⟩ (.string ⟨#[]⟩))) := Lib.hid (by repeat (first | (with_reducible exact Ch.refl) | (with_reducible refine Ch.alloc ?_ _) | (with_reducible refine Ch.drew ?_) | (with_reducible refine Ch.setB ?_ _ _)))
    have ZP : Hid (PS B lo pz none 0 us1 a1 c1 (((((w1.setCell ⟨B, 0, none⟩ (.int .i64 0)).setCell ⟨B, 1, none⟩ (.slice none 0 0)).setCell ⟨B, 2, none⟩ (.bool false)).setCell ⟨B, 3, none⟩ (.string ⟨#[]⟩)).setCell ⟨B, 4, none⟩ (.string ⟨#[]⟩))) := Lib.hid (by
      have h4 := HP4.out
      have e_0 := h4.c0
      have e_1 := h4.c1
      have e_2 := h4.c2
      have e_3 := h4.c3
      have e_4 := h4.c4
      have ef := h4.fz
      refine h4.cells ZC.out ?_ ?_ ?_ ?_ ?_ ?_ (.inr ⟨rfl, rfl, rfl⟩)
      all_goals first | (intro o; simp [go_sem, ef]; done) | (simp [go_sem, e_0, e_1, e_2, e_3, e_4, pz]; done))
    have j_0 : w1.cell? ⟨B, 0, none⟩ = some (.int .i64 p.state) := HP4.out.c0
    have j_1 := HP4.out.c1
    have j_2 := HP4.out.c2
    have j_3 := HP4.out.c3
    have j_4 := HP4.out.c4
    have jf := HP4.out.fz
    go_wp2_with fail
    go_ret
    exact PR.push (p' := pz) (ap' := none) (cp' := 0) (w1 := w.alloc (.cells #[.int .i64 5, .int .i64 0, .bool false, .slice none 0 0, .string p.text] 46)) HP.out (x := ⟨⟨5, 0, false, [], p.text⟩, none, 0⟩) rfl HUS1.out HK1.out (by simp) ((HC1.out.mono (M := fun k => k = B ∨ k ∈ blkOf al) (fun i hi => .inl (.inr hi))).trans ZC.out (fun i hi => .inl (.inl hi))) (by rw [HR.out]) (by rw [HR.out]; try rfl) ZP.out (.inr rfl)
  have g92 : ((n : Int) == 92) = false := beq_eq_false_iff_ne.2 (by omega)
  have ZC : Hid (Ch (fun k => k = B) w (((((w.setCell ⟨B, 0, none⟩ (.int .i64 1)).setCell ⟨B, 1, none⟩ (.slice none 0 0)).setCell ⟨B, 2, none⟩ (.bool false)).setCell ⟨B, 3, none⟩ (.string ⟨#[]⟩)).setCell ⟨B, 4, none⟩ (.string ⟨#[]⟩))) := Lib.hid (by repeat (first | (with_reducible exact Ch.refl) | (with_reducible refine Ch.alloc ?_ _) | (with_reducible refine Ch.drew ?_) | (with_reducible refine Ch.setB ?_ _ _)))
  have ZP : Hid (PS B lo (pst 1) none 0 L al cl (((((w.setCell ⟨B, 0, none⟩ (.int .i64 1)).setCell ⟨B, 1, none⟩ (.slice none 0 0)).setCell ⟨B, 2, none⟩ (.bool false)).setCell ⟨B, 3, none⟩ (.string ⟨#[]⟩)).setCell ⟨B, 4, none⟩ (.string ⟨#[]⟩))) := Lib.hid (by
    refine HP.out.cells ZC.out ?_ ?_ ?_ ?_ ?_ ?_ (.inr ⟨rfl, rfl, rfl⟩)
    all_goals first | (intro o; simp [go_sem, kf, klt]; done) | (simp [go_sem, k_0, k_1, k_2, k_3, k_4, klt, pst]; done))
  have hz9 := ZC.out.size
  have HCA : Hid (Calls Tryd.prog 39 #[.pointer (some ⟨B, 0, none⟩), .slice al L.length cl, .int .u8 n] (((((w.setCell ⟨B, 0, none⟩ (.int .i64 1)).setCell ⟨B, 1, none⟩ (.slice none 0 0)).setCell ⟨B, 2, none⟩ (.bool false)).setCell ⟨B, 3, none⟩ (.string ⟨#[]⟩)).setCell ⟨B, 4, none⟩ (.string ⟨#[]⟩)) (PR B lo Gr ap L al w)) := Lib.hid (by
    have h1 := (parseEsc_c B lo none al 0 cl L b _ ZP.out hL (by omega)).mono (R' := PR B lo (estep b) ap L al w) (fun e w' h => PR.baseB h ZC.out)
    rw [HN.out] at h1
    rw [← HGG.out, qs2 HN.out h92]
    exact h1)
  clear h92 hz9
  go_enter Tryd.func39, Tryd.ntmps39
  go_wp2_with fail
  refine HCA.out.mono ?_
  rintro e w5 ⟨ap', cp', L', al', cl', rfl, g2, g3, g4, g5⟩
  have HG2 := Lib.hid g2
  have HG3 := Lib.hid g3
  have HG4 := Lib.hid g4
  have HG5 := Lib.hid g5
  clear g2 g3 g4 g5
  go_wp2_with fail
  go_ret
  exact ⟨ap', cp', L', al', cl', rfl, HG2.out, HG3.out, HG4.out, HG5.out⟩
set_option maxRecDepth 100000 in
set_option maxHeartbeats 16000000 in
theorem parseG_c (B lo : Nat) (p : PV) (ap al : Option Addr) (cp cl : Nat) (L : List ActA) (b : UInt8) (w : World) (h : PS B lo p ap cp L al cl w) (hL : L.length ≤ 1048576) (hlo : lo ≤ w.heap.size)
    (hs : p.state = 0) (hz : p = pz) :
    Calls Tryd.prog 39 #[.pointer (some ⟨B, 0, none⟩), .slice al L.length cl, .int .u8 b.toNat] w (PR B lo (gstep b) ap L al w) := by
  have HCA := Lib.hid ((by rw [hz] at h; exact ground_c B lo ap al cp cl L b w h hL hlo : Calls Tryd.prog 67 #[.pointer (some ⟨B, 0, none⟩), .slice al L.length cl, .int .u8 b.toNat] w (PR B lo (gstep b) ap L al w)))
  have k_0 : w.cell? ⟨B, 0, none⟩ = some (.int .i64 0) := by rw [h.c0, hs]
  have kf := h.fz
  have klt := h.lt
  skip
  clear h hs hz
  go_enter Tryd.func39, Tryd.ntmps39
  go_wp2_with fail
  refine HCA.out.mono ?_
  rintro e w5 ⟨ap', cp', L', al', cl', rfl, g2, g3, g4, g5⟩
  have HG2 := Lib.hid g2
  have HG3 := Lib.hid g3
  have HG4 := Lib.hid g4
  have HG5 := Lib.hid g5
  clear g2 g3 g4 g5
  go_wp2_with fail
  go_ret
  exact ⟨ap', cp', L', al', cl', rfl, HG2.out, HG3.out, HG4.out, HG5.out⟩
set_option maxRecDepth 100000 in
set_option maxHeartbeats 16000000 in
theorem parseC_c (B lo : Nat) (p : PV) (ap al : Option Addr) (cp cl : Nat) (L : List ActA) (b : UInt8) (w : World) (h : PS B lo p ap cp L al cl w) (hL : L.length ≤ 1048576) (hlo : lo ≤ w.heap.size)
    (hs : p.state = 2) (hA : argsB p.args = true) (hT : p.text = e0) (hU : p.utf = e0) :
    Calls Tryd.prog 39 #[.pointer (some ⟨B, 0, none⟩), .slice al L.length cl, .int .u8 b.toNat] w (PR B lo (cstep p b) ap L al w) := by
  have HCA := Lib.hid (csi_c B lo p ap al cp cl L b w h hL hlo hs hA hT hU)
  have k_0 : w.cell? ⟨B, 0, none⟩ = some (.int .i64 2) := by rw [h.c0, hs]
  have kf := h.fz
  have klt := h.lt
  skip
  clear h hs hA hT hU
  go_enter Tryd.func39, Tryd.ntmps39
  go_wp2_with fail
  refine HCA.out.mono ?_
  rintro e w5 ⟨ap', cp', L', al', cl', rfl, g2, g3, g4, g5⟩
  have HG2 := Lib.hid g2
  have HG3 := Lib.hid g3
  have HG4 := Lib.hid g4
  have HG5 := Lib.hid g5
  clear g2 g3 g4 g5
  go_wp2_with fail
  go_ret
  exact ⟨ap', cp', L', al', cl', rfl, HG2.out, HG3.out, HG4.out, HG5.out⟩
set_option maxRecDepth 100000 in
set_option maxHeartbeats 16000000 in
theorem parseU_c (B lo : Nat) (p : PV) (ap al : Option Addr) (cp cl : Nat) (L : List ActA) (b : UInt8) (w : World) (h : PS B lo p ap cp L al cl w) (hL : L.length ≤ 1048575) (hlo : lo ≤ w.heap.size)
    (hs : p.state = 6) (hA : p.args = []) (hP : p.priv = false) (hT : p.text = e0) (hU : begB p.utf.data.toList = true) (hUT : UT w) (hB1 : B ≠ 0) (hB2 : B ≠ 1) :
    Calls Tryd.prog 39 #[.pointer (some ⟨B, 0, none⟩), .slice al L.length cl, .int .u8 b.toNat] w (PR B lo (ustep p b) ap L al w) := by
  have HCA := Lib.hid (inRune_c B lo p ap al cp cl L b w h hL hlo hs hA hP hT hU hUT hB1 hB2)
  have k_0 : w.cell? ⟨B, 0, none⟩ = some (.int .i64 6) := by rw [h.c0, hs]
  have kf := h.fz
  have klt := h.lt
  skip
  clear h hs hA hP hT hU hUT hB1 hB2
  go_enter Tryd.func39, Tryd.ntmps39
  go_wp2_with fail
  refine HCA.out.mono ?_
  rintro e w5 ⟨ap', cp', L', al', cl', rfl, g2, g3, g4, g5⟩
  have HG2 := Lib.hid g2
  have HG3 := Lib.hid g3
  have HG4 := Lib.hid g4
  have HG5 := Lib.hid g5
  clear g2 g3 g4 g5
  go_wp2_with fail
  go_ret
  exact ⟨ap', cp', L', al', cl', rfl, HG2.out, HG3.out, HG4.out, HG5.out⟩
theorem titB_sz {s : ByteArray} (h : titB s = true) : s.size ≤ 40 := by
  rw [titB_eq, Bool.and_eq_true, decide_eq_true_eq] at h
  exact h.1
/-- parse, for every parser in good form. -/
theorem parse_c (B lo : Nat) (p : PV) (ap al : Option Addr) (cp cl : Nat) (L : List ActA) (b : UInt8) (w : World) (h : PS B lo p ap cp L al cl w) (hL : L.length ≤ 1048575) (hlo : lo ≤ w.heap.size)
    (ok : PvOK p) (hUT : UT w) (hB1 : B ≠ 0) (hB2 : B ≠ 1) :
    Calls Tryd.prog 39 #[.pointer (some ⟨B, 0, none⟩), .slice al L.length cl, .int .u8 b.toNat] w (PR B lo (pstep p b) ap L al w) := by
  obtain ⟨k1, k2, k3, k4, k5, k6, k7⟩ := ok
  have hL' : L.length ≤ 1048576 := by omega
  unfold pstep
  by_cases s0 : p.state = 0
  · rw [if_pos s0]
    refine parseG_c B lo p ap al cp cl L b w h hL' hlo s0 ?_
    have a1 := k3 (by omega)
    have a2 := k5 (by omega) (by omega)
    have a3 := k7 (by omega)
    obtain ⟨s, a, v, t, u⟩ := p
    simp only at s0 a1 a2 a3
    obtain ⟨a1, a4⟩ := a1
    subst s0 a1 a2 a3 a4
    rfl
  rw [if_neg s0]
  by_cases s1 : p.state = 1
  · rw [if_pos s1]
    have hz : p = pst 1 := by
      have a1 := k3 (by omega)
      have a2 := k5 (by omega) (by omega)
      have a3 := k7 (by omega)
      obtain ⟨s, a, v, t, u⟩ := p
      simp only at s1 a1 a2 a3
      obtain ⟨a1, a4⟩ := a1
      subst s1 a1 a2 a3 a4
      rfl
    rw [hz] at h
    exact parseEsc_c B lo ap al cp cl L b w h hL' hlo
  rw [if_neg s1]
  by_cases s2 : p.state = 2
  · rw [if_pos s2]
    exact parseC_c B lo p ap al cp cl L b w h hL' hlo s2 (k2 s2) (k5 (by omega) (by omega)) (k7 (by omega))
  rw [if_neg s2]
  by_cases s3 : p.state = 3
  · rw [if_pos s3]
    exact parseSkip_c B lo p ap al cp cl L b w h hL' hlo s3 (k3 (by omega)).1 (k3 (by omega)).2 (k5 (by omega) (by omega)) (k7 (by omega))
  rw [if_neg s3]
  by_cases s4 : p.state = 4
  · rw [if_pos s4]
    exact parseOsc_c B lo p ap al cp cl L b w h hL' hlo s4 (k3 (by omega)).1 (k3 (by omega)).2 (k7 (by omega)) (titB_sz (k4 (by omega)))
  rw [if_neg s4]
  by_cases s5 : p.state = 5
  · rw [if_pos s5]
    exact parseOscEnd_c B lo p ap al cp cl L b w h hL' hlo s5 (k3 (by omega)).1 (k3 (by omega)).2 (k7 (by omega)) (titB_sz (k4 (by omega)))
  rw [if_neg s5]
  exact parseU_c B lo p ap al cp cl L b w h hL hlo (by omega) (k3 (by omega)).1 (k3 (by omega)).2 (k5 (by omega) (by omega)) (k6 (by omega)) hUT hB1 hB2
end
section
open Go.RowKit
theorem intOne : ∀ (x : Int), ∀ u ∈ intE x, u.oneCell' = true := fun x u hu => by simp [intE] at hu; subst hu; rfl
theorem fresh_mdI (w : World) (B : Nat) (hB : B ≤ w.heap.size) : Fresh intE 3 1 B (.slice (some ⟨w.heap.size, 0, none⟩) 0 0) [] (w.alloc (.cells #[] 3)) :=
  Fresh.of_own (World.ownsRow_made (base := B) w #[] 0 hB (by decide) rfl) rfl rfl
set_option maxRecDepth 100000 in
set_option maxHeartbeats 4000000 in
theorem cloneI_c (a : Option Addr) (ca : Nat) (xs : List Int) (w : World) (ha : Sl intE 1 w a xs) (la : xs.length ≤ 1048576) :
    Calls Tryd.prog 66 #[.slice a xs.length ca] w (FreshR intE 3 1 w xs) := by
  obtain ⟨i0, hi, hz0, hz1, hz2⟩ := info_parts Tryd.infoInt
  cases a with
  | none =>
    obtain rfl : xs = [] := by
      rcases ha with h | ⟨b, o, h, _⟩
      · exact h
      · cases h
    clear ha
    have hnil : ∀ w, (binOp .eql 23 (.slice none 0 ca) (.slice none 0 0)).run Tryd.prog w = .ok (.bool true) w := fun w => Lib.run_eql_slice_nil w _ _ _ _ _ _ _ Tryd.underlying23
    go_enter Tryd.func66, Tryd.ntmps66
    go_wp2_with fail
    go_ret
    exact ⟨_, rfl, (FreshIn.nil _ _ _ _ 0 _).1, Below.refl _ _⟩
  | some p =>
    have HA := Lib.hid (ha.alloc (.cells #[] 3))
    have h0 := (fresh_mdI w w.heap.size (Nat.le_refl _)).here
    simp only [World.size_alloc] at h0
    have HF := Lib.hid h0
    clear h0
    have hnil : ∀ w, (binOp .eql 23 (.slice (some p) xs.length ca) (.slice none 0 0)).run Tryd.prog w = .ok (.bool false) w := fun w => Lib.run_eql_slice_nil w _ _ _ _ _ _ _ Tryd.underlying23
    go_enter Tryd.func66, Tryd.ntmps66
    go_wp2_with (first
      | (skip
         at_builtin
         refine wpList_append_fresh rfl (.tmp 5) (.tmp 6) 23 23 rfl (w.heap.size) (w.heap.size + 1) 3 i0 (.int .i64 0) 1 8 Tryd.underlying23 hi hz0 hz1 hz2 rfl (by decide) (.slice (some ⟨w.heap.size, 0, none⟩) 0 0) ([]) rfl (HF.out) _ (xs) rfl (Src.ofSl (enc := intE) (sz := 1) (xs := xs) Tryd.underlying23 (fun _ => rfl) intOne HA.out ca) (by (try simp) <;> (try omega)) (by (try simp) <;> (try omega)) ?_
         intro a1 c1 w1 L1 hL1 hf1 hm1
         skip))
    go_ret
    obtain rfl : L1 = xs := by simpa using hL1.out
    exact ⟨_, rfl, hf1.1, ((Below.refl w.heap.size w).alloc (Nat.le_refl _) (.cells #[] 3)).trans (hm1.below (by omega) (by simp))⟩
/-- A parser in new memory. -/
def ParR (p : PV) (w : World) (e : Ending) (w' : World) : Prop :=
  ∃ a c, e = .returned (.agg #[.int .i64 p.state, .slice a p.args.length c, .bool p.priv, .string p.text, .string p.utf]) ∧ FreshIn intE 3 1 w.heap.size w'.heap.size (.slice a p.args.length c) p.args w' ∧ Below w.heap.size w w'
set_option maxRecDepth 100000 in
set_option maxHeartbeats 4000000 in
theorem cloneParser_c (ap : Option Addr) (cp : Nat) (p : PV) (w : World) (ha : Sl intE 1 w ap p.args) (hl : p.args.length ≤ 1048576) :
    Calls Tryd.prog 38 #[.agg #[.int .i64 p.state, .slice ap p.args.length cp, .bool p.priv, .string p.text, .string p.utf]] w (ParR p w) := by
  go_enter Tryd.func38, Tryd.ntmps38
  go_wp2_with fail
  refine (cloneI_c ap cp p.args _ ((ha.alloc _).alloc _) hl).mono ?_
  rintro e w1 ⟨v, rfl, hf, hb⟩
  obtain ⟨a1, c1, rfl, _, _⟩ := id hf
  have HF := Lib.hid hf.here
  have HB := Lib.hid hb
  have hz := hb.size
  simp only [World.size_alloc] at hz
  have hl1 : w.heap.size + 1 < w1.heap.size := by omega
  have hl0 : w.heap.size < w1.heap.size := by omega
  have q0_0 : w1.cell? ⟨w.heap.size, 0, none⟩ = some (.int .i64 p.state) := (hb.cell (p := ⟨w.heap.size, 0, none⟩) (by show w.heap.size < _; (try simp) <;> omega)).trans (by simp [go_sem])
  have f0_0 : w1.frozen? ⟨w.heap.size, 0, none⟩ = false := (hb.frozen (p := ⟨w.heap.size, 0, none⟩) (by show w.heap.size < _; (try simp) <;> omega)).trans (by simp [go_sem])
  have q0_1 : w1.cell? ⟨w.heap.size, 1, none⟩ = some (.slice ap p.args.length cp) := (hb.cell (p := ⟨w.heap.size, 1, none⟩) (by show w.heap.size < _; (try simp) <;> omega)).trans (by simp [go_sem])
  have f0_1 : w1.frozen? ⟨w.heap.size, 1, none⟩ = false := (hb.frozen (p := ⟨w.heap.size, 1, none⟩) (by show w.heap.size < _; (try simp) <;> omega)).trans (by simp [go_sem])
  have q0_2 : w1.cell? ⟨w.heap.size, 2, none⟩ = some (.bool p.priv) := (hb.cell (p := ⟨w.heap.size, 2, none⟩) (by show w.heap.size < _; (try simp) <;> omega)).trans (by simp [go_sem])
  have f0_2 : w1.frozen? ⟨w.heap.size, 2, none⟩ = false := (hb.frozen (p := ⟨w.heap.size, 2, none⟩) (by show w.heap.size < _; (try simp) <;> omega)).trans (by simp [go_sem])
  have q0_3 : w1.cell? ⟨w.heap.size, 3, none⟩ = some (.string p.text) := (hb.cell (p := ⟨w.heap.size, 3, none⟩) (by show w.heap.size < _; (try simp) <;> omega)).trans (by simp [go_sem])
  have f0_3 : w1.frozen? ⟨w.heap.size, 3, none⟩ = false := (hb.frozen (p := ⟨w.heap.size, 3, none⟩) (by show w.heap.size < _; (try simp) <;> omega)).trans (by simp [go_sem])
  have q0_4 : w1.cell? ⟨w.heap.size, 4, none⟩ = some (.string p.utf) := (hb.cell (p := ⟨w.heap.size, 4, none⟩) (by show w.heap.size < _; (try simp) <;> omega)).trans (by simp [go_sem])
  have f0_4 : w1.frozen? ⟨w.heap.size, 4, none⟩ = false := (hb.frozen (p := ⟨w.heap.size, 4, none⟩) (by show w.heap.size < _; (try simp) <;> omega)).trans (by simp [go_sem])
  have q1_0 : w1.cell? ⟨w.heap.size + 1, 0, none⟩ = some (.int .i64 0) := (hb.cell (p := ⟨w.heap.size + 1, 0, none⟩) (by show w.heap.size + 1 < _; (try simp) <;> omega)).trans (by simp [go_sem])
  have f1_0 : w1.frozen? ⟨w.heap.size + 1, 0, none⟩ = false := (hb.frozen (p := ⟨w.heap.size + 1, 0, none⟩) (by show w.heap.size + 1 < _; (try simp) <;> omega)).trans (by simp [go_sem])
  have q1_1 : w1.cell? ⟨w.heap.size + 1, 1, none⟩ = some (.slice none 0 0) := (hb.cell (p := ⟨w.heap.size + 1, 1, none⟩) (by show w.heap.size + 1 < _; (try simp) <;> omega)).trans (by simp [go_sem])
  have f1_1 : w1.frozen? ⟨w.heap.size + 1, 1, none⟩ = false := (hb.frozen (p := ⟨w.heap.size + 1, 1, none⟩) (by show w.heap.size + 1 < _; (try simp) <;> omega)).trans (by simp [go_sem])
  have q1_2 : w1.cell? ⟨w.heap.size + 1, 2, none⟩ = some (.bool false) := (hb.cell (p := ⟨w.heap.size + 1, 2, none⟩) (by show w.heap.size + 1 < _; (try simp) <;> omega)).trans (by simp [go_sem])
  have f1_2 : w1.frozen? ⟨w.heap.size + 1, 2, none⟩ = false := (hb.frozen (p := ⟨w.heap.size + 1, 2, none⟩) (by show w.heap.size + 1 < _; (try simp) <;> omega)).trans (by simp [go_sem])
  have q1_3 : w1.cell? ⟨w.heap.size + 1, 3, none⟩ = some (.string ⟨#[]⟩) := (hb.cell (p := ⟨w.heap.size + 1, 3, none⟩) (by show w.heap.size + 1 < _; (try simp) <;> omega)).trans (by simp [go_sem])
  have f1_3 : w1.frozen? ⟨w.heap.size + 1, 3, none⟩ = false := (hb.frozen (p := ⟨w.heap.size + 1, 3, none⟩) (by show w.heap.size + 1 < _; (try simp) <;> omega)).trans (by simp [go_sem])
  have q1_4 : w1.cell? ⟨w.heap.size + 1, 4, none⟩ = some (.string ⟨#[]⟩) := (hb.cell (p := ⟨w.heap.size + 1, 4, none⟩) (by show w.heap.size + 1 < _; (try simp) <;> omega)).trans (by simp [go_sem])
  have f1_4 : w1.frozen? ⟨w.heap.size + 1, 4, none⟩ = false := (hb.frozen (p := ⟨w.heap.size + 1, 4, none⟩) (by show w.heap.size + 1 < _; (try simp) <;> omega)).trans (by simp [go_sem])
  clear hf hb hz ha
  go_wp2_with fail
  refine bodyPost_ret (v := .agg #[.int .i64 p.state, .slice a1 p.args.length c1, .bool p.priv, .string p.text, .string p.utf]) (by simp [results, Tryd.results38, go_sem, q0_0, q0_1, q0_2, q0_3, q0_4, q1_0, q1_1, q1_2, q1_3, q1_4, hl0, hl1]) rfl ?_
  have hc : ∀ x1 y0 y1 y2 y3 y4, Ch (fun k => k = w.heap.size ∨ k = w.heap.size + 1) w1 ((((((w1.setCell ⟨w.heap.size, 1, none⟩ x1).setCell ⟨w.heap.size + 1, 0, none⟩ y0).setCell ⟨w.heap.size + 1, 1, none⟩ y1).setCell ⟨w.heap.size + 1, 2, none⟩ y2).setCell ⟨w.heap.size + 1, 3, none⟩ y3).setCell ⟨w.heap.size + 1, 4, none⟩ y4) := fun x1 y0 y1 y2 y3 y4 =>
    (((((Ch.refl.setCell (M := fun k => k = w.heap.size ∨ k = w.heap.size + 1) (p := ⟨w.heap.size, 1, none⟩) (.inl (.inl rfl)) x1).setCell (p := ⟨w.heap.size + 1, 0, none⟩) (.inl (.inr rfl)) y0).setCell (p := ⟨w.heap.size + 1, 1, none⟩) (.inl (.inr rfl)) y1).setCell (p := ⟨w.heap.size + 1, 2, none⟩) (.inl (.inr rfl)) y2).setCell (p := ⟨w.heap.size + 1, 3, none⟩) (.inl (.inr rfl)) y3).setCell (p := ⟨w.heap.size + 1, 4, none⟩) (.inl (.inr rfl)) y4
  have hF := HF.out
  have hB := HB.out
  have hcx := hc (.slice a1 p.args.length c1) (.int .i64 p.state) (.slice a1 p.args.length c1) (.bool p.priv) (.string p.text) (.string p.utf)
  refine ⟨a1, c1, rfl, ?_, ?_⟩
  · have h1 := FreshIn.ch hF hcx (fun k hk h => by
      have := (FreshIn.blks hF k hk).1
      simp only [World.size_alloc] at this
      omega)
    exact h1.mono (by simp only [World.size_alloc]; omega) (Nat.le_refl _)
  · exact (((Below.refl w.heap.size w).alloc (Nat.le_refl _) _).alloc (by simp) _ |>.trans (hB.mono (by simp only [World.size_alloc]; omega))).trans (hcx.below (by omega) (fun k h => by omega))
end
section
open Go.RowKit
def pbyte (p : PV) (b : Int) : (PV × List AV) × Int :=
  if pvB p = false then ((pz, []), 1) else if inB b 0 255 = false then ((pz, []), 4) else (pstep p (UInt8.ofNat b.toNat), 0)
def pbytes (p : PV) (l : List UInt8) : (PV × List AV) × Int :=
  if 65536 < l.length then ((pz, []), 2) else if pvB p = false then ((pz, []), 1) else (prun p l, 0)
/-- A parser and actions in new memory, and a code. -/
def OutR (G : (PV × List AV) × Int) (w : World) (e : Ending) (w' : World) : Prop :=
  ∃ (ap : Option Addr) (cp : Nat) (al : Option Addr) (cl : Nat) (L : List ActA), e = .returned (.tuple #[.agg #[.int .i64 G.1.1.state, .slice ap G.1.1.args.length cp, .bool G.1.1.priv, .string G.1.1.text, .string G.1.1.utf], .slice al L.length cl, .int .i64 G.2]) ∧ FreshIn intE 3 1 w.heap.size w'.heap.size (.slice ap G.1.1.args.length cp) G.1.1.args w' ∧ ActO w.heap.size L al cl w' ∧ (∀ k ∈ blkOf ap, k ∉ acB al L) ∧ L.map (·.A) = G.1.2 ∧ Below w.heap.size w w'
theorem OutR.zero {G : (PV × List AV) × Int} {c : Int} {w w' : World} (hG : G = ((pz, []), c)) (hb : Below w.heap.size w w') : OutR G w (.returned (.tuple #[.agg #[.int .i64 0, .slice none 0 0, .bool false, .string ⟨#[]⟩, .string ⟨#[]⟩], .slice none 0 0, .int .i64 c])) w' := by
  subst hG
  exact ⟨none, 0, none, 0, [], rfl, FreshIn.nil _ _ _ _ _ _, RO.nil, by simp [blkOf], rfl, hb⟩
/-- The parser's box, newly written. -/
theorem PS.box {B lo : Nat} {p : PV} {ap : Option Addr} {cp : Nat} {w : World} (hlt : B < w.heap.size) (ha : FreshIn intE 3 1 lo w.heap.size (.slice ap p.args.length cp) p.args w)
    (c0 : w.cell? ⟨B, 0, none⟩ = some (.int .i64 p.state)) (c1 : w.cell? ⟨B, 1, none⟩ = some (.slice ap p.args.length cp)) (c2 : w.cell? ⟨B, 2, none⟩ = some (.bool p.priv))
    (c3 : w.cell? ⟨B, 3, none⟩ = some (.string p.text)) (c4 : w.cell? ⟨B, 4, none⟩ = some (.string p.utf)) (fz : ∀ o, w.frozen? ⟨B, o, none⟩ = false) (hn : ∀ k ∈ blkOf ap, k ≠ B) : PS B lo p ap cp [] none 0 w :=
  ⟨c0, c1, c2, c3, c4, fz, hlt, ha, RO.nil, fun h => by
    rcases List.mem_append.1 h with h | h
    · exact hn _ h rfl
    · simp [acB, blkOf, roB] at h, fun k _ h => by simp [acB, blkOf, roB] at h⟩
theorem prun_snoc (p : PV) (l : List UInt8) (b : UInt8) : prun p (l ++ [b]) = ((pstep (prun p l).1 b).1, (prun p l).2 ++ (pstep (prun p l).1 b).2) := by
  rw [prun_append]
  simp [prun]
theorem step_len (p : PV) (b : UInt8) : (pstep p b).2.length ≤ 2 := by
  have hg : (gstep b).2.length ≤ 1 := by unfold gstep; (repeat' split) <;> simp
  have he : (estep b).2.length ≤ 1 := by unfold estep; (repeat' split) <;> simp
  have hc : (cstep p b).2.length ≤ 1 := by unfold cstep; (repeat' split) <;> simp
  have hs : (sstep p b).2.length ≤ 1 := by unfold sstep; (repeat' split) <;> simp
  have ho : (ostep p b).2.length ≤ 1 := by unfold ostep; (repeat' split) <;> simp
  have hq : (qstep p b).2.length ≤ 1 := by unfold qstep; (repeat' split) <;> first | exact he | simp
  have hu : (ustep p b).2.length ≤ 2 := by unfold ustep; (repeat' split) <;> simp <;> omega
  unfold pstep
  (repeat' split) <;> omega
theorem run_len (l : List UInt8) (p : PV) : (prun p l).2.length ≤ 2 * l.length := by
  induction l generalizing p with
  | nil => simp [prun]
  | cons b l ih =>
    have h1 := step_len p b
    have h2 := ih (pstep p b).1
    simp only [prun, List.length_append, List.length_cons]
    omega
set_option maxRecDepth 100000 in
set_option maxHeartbeats 8000000 in
theorem implParseByte_c (ap : Option Addr) (cp : Nat) (p : PV) (b : Int) (w : World) (ha : Sl intE 1 w ap p.args) (hZ : PvSz p 1048576) (hUT : UT w) :
    Calls Tryd.prog 14 #[.agg #[.int .i64 p.state, .slice ap p.args.length cp, .bool p.priv, .string p.text, .string p.utf], .int .i64 b] w (OutR (pbyte p b) w) := by
  obtain ⟨Gr, hG⟩ : ∃ G, pbyte p b = G := ⟨_, rfl⟩
  have HGG := Lib.hid hG
  rw [hG]
  clear hG
  go_enter Tryd.func14, Tryd.ntmps14

  go_wp2_with fail
  refine (isParser_c ap cp p _ ((ha.alloc _).alloc _) hZ).mono ?_
  rintro e w1 ⟨rfl, hb1⟩
  have HB1 := Lib.hid hb1
  have hz1 := hb1.size
  simp only [World.size_alloc] at hz1
  have hl1 : w.heap.size + 1 < w1.heap.size := by omega
  have hl0 : w.heap.size < w1.heap.size := by omega
  have qa0_0 : w1.cell? ⟨w.heap.size, 0, none⟩ = some (.int .i64 p.state) := (hb1.cell (p := ⟨w.heap.size, 0, none⟩) (by show w.heap.size < _; (try simp) <;> omega)).trans (by simp [go_sem])
  have qa0_1 : w1.cell? ⟨w.heap.size, 1, none⟩ = some (.slice ap p.args.length cp) := (hb1.cell (p := ⟨w.heap.size, 1, none⟩) (by show w.heap.size < _; (try simp) <;> omega)).trans (by simp [go_sem])
  have qa0_2 : w1.cell? ⟨w.heap.size, 2, none⟩ = some (.bool p.priv) := (hb1.cell (p := ⟨w.heap.size, 2, none⟩) (by show w.heap.size < _; (try simp) <;> omega)).trans (by simp [go_sem])
  have qa0_3 : w1.cell? ⟨w.heap.size, 3, none⟩ = some (.string p.text) := (hb1.cell (p := ⟨w.heap.size, 3, none⟩) (by show w.heap.size < _; (try simp) <;> omega)).trans (by simp [go_sem])
  have qa0_4 : w1.cell? ⟨w.heap.size, 4, none⟩ = some (.string p.utf) := (hb1.cell (p := ⟨w.heap.size, 4, none⟩) (by show w.heap.size < _; (try simp) <;> omega)).trans (by simp [go_sem])
  have fa0 : ∀ o, w1.frozen? ⟨w.heap.size, o, none⟩ = false := fun o => (hb1.frozen (p := ⟨w.heap.size, o, none⟩) (by show w.heap.size < _; (try simp) <;> omega)).trans (by simp [go_sem])
  have qa1_0 : w1.cell? ⟨w.heap.size + 1, 0, none⟩ = some (.int .i64 0) := (hb1.cell (p := ⟨w.heap.size + 1, 0, none⟩) (by show w.heap.size + 1 < _; (try simp) <;> omega)).trans (by simp [go_sem])
  have qa1_1 : w1.cell? ⟨w.heap.size + 1, 1, none⟩ = some (.slice none 0 0) := (hb1.cell (p := ⟨w.heap.size + 1, 1, none⟩) (by show w.heap.size + 1 < _; (try simp) <;> omega)).trans (by simp [go_sem])
  have qa1_2 : w1.cell? ⟨w.heap.size + 1, 2, none⟩ = some (.bool false) := (hb1.cell (p := ⟨w.heap.size + 1, 2, none⟩) (by show w.heap.size + 1 < _; (try simp) <;> omega)).trans (by simp [go_sem])
  have qa1_3 : w1.cell? ⟨w.heap.size + 1, 3, none⟩ = some (.string ⟨#[]⟩) := (hb1.cell (p := ⟨w.heap.size + 1, 3, none⟩) (by show w.heap.size + 1 < _; (try simp) <;> omega)).trans (by simp [go_sem])
  have qa1_4 : w1.cell? ⟨w.heap.size + 1, 4, none⟩ = some (.string ⟨#[]⟩) := (hb1.cell (p := ⟨w.heap.size + 1, 4, none⟩) (by show w.heap.size + 1 < _; (try simp) <;> omega)).trans (by simp [go_sem])
  have fa1 : ∀ o, w1.frozen? ⟨w.heap.size + 1, o, none⟩ = false := fun o => (hb1.frozen (p := ⟨w.heap.size + 1, o, none⟩) (by show w.heap.size + 1 < _; (try simp) <;> omega)).trans (by simp [go_sem])
  have hbw : Below w.heap.size w w1 := (((Below.refl w.heap.size w).alloc (Nat.le_refl _) _).alloc (by simp) _).trans (hb1.mono (by simp only [World.size_alloc]; omega))
  have HBW := Lib.hid hbw
  have HA1 := Lib.hid (ha.keep hbw)
  have HUT1 := Lib.hid (hUT.keep hbw)
  clear hb1 hbw
  obtain ⟨c, hc⟩ : ∃ c, pvB p = c := ⟨_, rfl⟩
  have HC := Lib.hid hc
  rw [hc]
  clear hc
  cases c
  case false =>
    have HR : Hid (Gr = ((pz, []), 1)) := Lib.hid (by rw [← HGG.out]; unfold pbyte; rw [if_pos HC.out])
    clear ha hUT
    go_wp2_with fail
    refine bodyPost_ret (v := .tuple #[.agg #[.int .i64 0, .slice none 0 0, .bool false, .string ⟨#[]⟩, .string ⟨#[]⟩], .slice none 0 0, .int .i64 1]) (by simp [results, Tryd.results14, go_sem, qa1_0, qa1_1, qa1_2, qa1_3, qa1_4, hl1]) rfl ?_
    refine OutR.zero HR.out ?_
    refine HBW.out.trans ?_
    repeat (first | (with_reducible exact Below.refl _ _) | (with_reducible refine Below.setCell ?_ ?_ _; rotate_left; ((try simp) <;> (try omega))) | (with_reducible refine Below.alloc ?_ ?_ _; rotate_left; ((try simp) <;> (try omega))))

  obtain ⟨d, hd⟩ : ∃ d, inB b 0 255 = d := ⟨_, rfl⟩
  have HD := Lib.hid hd
  clear hd
  go_wp2_with fail
  refine (within_c b 0 255 _).mono ?_
  rw [HD.out]
  rintro e w2 ⟨rfl, rfl⟩
  cases d
  case false =>
    have HR : Hid (Gr = ((pz, []), 4)) := Lib.hid (by rw [← HGG.out]; unfold pbyte; rw [if_neg (by rw [HC.out]; simp), if_pos HD.out])
    clear ha hUT
    go_wp2_with fail
    refine bodyPost_ret (v := .tuple #[.agg #[.int .i64 0, .slice none 0 0, .bool false, .string ⟨#[]⟩, .string ⟨#[]⟩], .slice none 0 0, .int .i64 4]) (by simp [results, Tryd.results14, go_sem, qa1_0, qa1_1, qa1_2, qa1_3, qa1_4, hl1]) rfl ?_
    refine OutR.zero HR.out ?_
    refine HBW.out.trans ?_
    repeat (first | (with_reducible exact Below.refl _ _) | (with_reducible refine Below.setCell ?_ ?_ _; rotate_left; ((try simp) <;> (try omega))) | (with_reducible refine Below.alloc ?_ ?_ _; rotate_left; ((try simp) <;> (try omega))))
  have HR : Hid (Gr = (pstep p (UInt8.ofNat b.toNat), 0)) := Lib.hid (by rw [← HGG.out]; unfold pbyte; rw [if_neg (by rw [HC.out]; simp), if_neg (by rw [HD.out]; simp)])
  obtain ⟨B, hBn⟩ : ∃ B : UInt8, UInt8.ofNat b.toNat = B := ⟨_, rfl⟩
  rw [hBn] at HR
  have hBb : b = (B.toNat : Int) := by
    have h := HD.out
    simp only [inB, Bool.and_eq_true, decide_eq_true_eq] at h
    rw [← hBn]
    simp
    omega
  have hBw : IntKind.u8.wrap b = (B.toNat : Int) := by rw [hBb]; exact u8_in (by omega) (by have := B.toNat_lt; omega)
  clear hBn HD hBb
  have ok : PvOK p := pvB_iff.1 HC.out
  have HOK := Lib.hid ok
  clear ok
  clear ha hUT
  go_wp2_with fail
  refine (cloneParser_c ap cp p _ HA1.out hZ.args).mono ?_
  rintro e w3 ⟨a3, c3, rfl, hf3, hb3⟩
  have HF3 := Lib.hid hf3
  have HB3 := Lib.hid hb3
  have hz3 := hb3.size
  have hl31 : w.heap.size + 1 < w3.heap.size := by omega
  have r0 : w3.cell? ⟨w.heap.size + 1, 0, none⟩ = some (.int .i64 0) := (hb3.cell (p := ⟨w.heap.size + 1, 0, none⟩) hl1).trans qa1_0
  have r1 : w3.cell? ⟨w.heap.size + 1, 1, none⟩ = some (.slice none 0 0) := (hb3.cell (p := ⟨w.heap.size + 1, 1, none⟩) hl1).trans qa1_1
  have r2 : w3.cell? ⟨w.heap.size + 1, 2, none⟩ = some (.bool false) := (hb3.cell (p := ⟨w.heap.size + 1, 2, none⟩) hl1).trans qa1_2
  have r3 : w3.cell? ⟨w.heap.size + 1, 3, none⟩ = some (.string ⟨#[]⟩) := (hb3.cell (p := ⟨w.heap.size + 1, 3, none⟩) hl1).trans qa1_3
  have r4 : w3.cell? ⟨w.heap.size + 1, 4, none⟩ = some (.string ⟨#[]⟩) := (hb3.cell (p := ⟨w.heap.size + 1, 4, none⟩) hl1).trans qa1_4
  have rf : ∀ o, w3.frozen? ⟨w.heap.size + 1, o, none⟩ = false := fun o => (hb3.frozen (p := ⟨w.heap.size + 1, o, none⟩) hl1).trans (fa1 o)
  have HBW3 : Hid (Below w.heap.size w w3) := Lib.hid (HBW.out.trans (hb3.mono (by omega)))
  clear hf3 hb3
  have ZP : Hid (PS w3.heap.size (w.heap.size + 2) p a3 c3 [] none 0 (w3.alloc (.cells #[.int .i64 p.state, .slice a3 p.args.length c3, .bool p.priv, .string p.text, .string p.utf] 25))) := Lib.hid (by
    have hc : Ch (fun k => k = w3.heap.size) w3 (w3.alloc (.cells #[.int .i64 p.state, .slice a3 p.args.length c3, .bool p.priv, .string p.text, .string p.utf] 25)) := by
      repeat (first | (with_reducible exact Ch.refl) | (with_reducible refine Ch.setB ?_ _ _) | (with_reducible refine Ch.alloc ?_ _))
    have hF := HF3.out
    have hF2 := (FreshIn.ch hF hc (fun k hk h => by have := (FreshIn.blks hF k hk).2; omega)).mono (lo' := w.heap.size + 2) (by omega) (Nat.le_refl _)
    refine PS.box (by simp [World.setCell]) hF2 ?_ ?_ ?_ ?_ ?_ ?_ (fun k hk h => by have := (FreshIn.blks hF k hk).2; omega)
    all_goals first | (intro o; simp [go_sem]; done) | (simp [go_sem]; done))
  have ZB : Hid (Below w3.heap.size w3 (w3.alloc (.cells #[.int .i64 p.state, .slice a3 p.args.length c3, .bool p.priv, .string p.text, .string p.utf] 25))) := Lib.hid (by
    repeat (first | (with_reducible exact Below.refl _ _) | (with_reducible refine Below.setCell ?_ ?_ _; rotate_left; ((try simp) <;> (try omega))) | (with_reducible refine Below.alloc ?_ ?_ _; rotate_left; ((try simp) <;> (try omega)))))
  go_upto_region 6 with fail
  obtain ⟨x4, hx4⟩ : ∃ x, (w3.alloc (.cells #[.int .i64 p.state, .slice a3 p.args.length c3, .bool p.priv, .string p.text, .string p.utf] 25)) = x := ⟨_, rfl⟩
  rw [hx4] at ZP ZB ⊢
  clear hx4
  have hz4 := ZB.out.size
  have hPlt := ZP.out.lt
  have HUT4 : Hid (UT x4) := Lib.hid ((HUT1.out.keep HB3.out).keep ZB.out)
  have hg1 := HUT1.out.l1
  have hg2 := HUT1.out.l2
  have t0 : x4.cell? ⟨w.heap.size + 1, 0, none⟩ = some (.int .i64 0) := (ZB.out.cell (p := ⟨w.heap.size + 1, 0, none⟩) hl31).trans r0
  have t1 : x4.cell? ⟨w.heap.size + 1, 1, none⟩ = some (.slice none 0 0) := (ZB.out.cell (p := ⟨w.heap.size + 1, 1, none⟩) hl31).trans r1
  have t2 : x4.cell? ⟨w.heap.size + 1, 2, none⟩ = some (.bool false) := (ZB.out.cell (p := ⟨w.heap.size + 1, 2, none⟩) hl31).trans r2
  have t3 : x4.cell? ⟨w.heap.size + 1, 3, none⟩ = some (.string ⟨#[]⟩) := (ZB.out.cell (p := ⟨w.heap.size + 1, 3, none⟩) hl31).trans r3
  have t4 : x4.cell? ⟨w.heap.size + 1, 4, none⟩ = some (.string ⟨#[]⟩) := (ZB.out.cell (p := ⟨w.heap.size + 1, 4, none⟩) hl31).trans r4
  have tf : ∀ o, x4.frozen? ⟨w.heap.size + 1, o, none⟩ = false := fun o => (ZB.out.frozen (p := ⟨w.heap.size + 1, o, none⟩) hl31).trans (rf o)
  clear hZ
  go_wp2_with fail
  refine (parse_c w3.heap.size (w.heap.size + 2) p a3 none c3 0 [] B _ ZP.out (by simp) (by omega) HOK.out HUT4.out (by omega) (by omega)).mono ?_
  obtain ⟨R, hR⟩ : ∃ R, pstep p B = R := ⟨_, rfl⟩
  rw [hR] at HR ⊢
  clear hR
  rintro e w5 ⟨a5, c5, L5, al5, cl5, rfl, g1, g2, g3, g4⟩
  have hlo : ∀ k, (k = w3.heap.size ∨ k ∈ blkOf a3 ∨ k ∈ blkOf none) → w.heap.size + 2 ≤ k := fun k hk => by
    rcases hk with h | h | h
    · omega
    · have := (FreshIn.blks HF3.out k h).1; omega
    · simp [blkOf] at h
  have hne1 : ¬ (w.heap.size + 1 = w3.heap.size ∨ w.heap.size + 1 ∈ blkOf a3 ∨ w.heap.size + 1 ∈ blkOf none) := fun h => by have := hlo _ h; omega
  have hl4 : w.heap.size + 1 < x4.heap.size := by omega
  have u0 : w5.cell? ⟨w.heap.size + 1, 0, none⟩ = some (.int .i64 0) := (g3.cell (p := ⟨w.heap.size + 1, 0, none⟩) hl4 hne1).trans t0
  have u1 : w5.cell? ⟨w.heap.size + 1, 1, none⟩ = some (.slice none 0 0) := (g3.cell (p := ⟨w.heap.size + 1, 1, none⟩) hl4 hne1).trans t1
  have u2 : w5.cell? ⟨w.heap.size + 1, 2, none⟩ = some (.bool false) := (g3.cell (p := ⟨w.heap.size + 1, 2, none⟩) hl4 hne1).trans t2
  have u3 : w5.cell? ⟨w.heap.size + 1, 3, none⟩ = some (.string ⟨#[]⟩) := (g3.cell (p := ⟨w.heap.size + 1, 3, none⟩) hl4 hne1).trans t3
  have u4 : w5.cell? ⟨w.heap.size + 1, 4, none⟩ = some (.string ⟨#[]⟩) := (g3.cell (p := ⟨w.heap.size + 1, 4, none⟩) hl4 hne1).trans t4
  have uf : ∀ o, w5.frozen? ⟨w.heap.size + 1, o, none⟩ = false := fun o => (g3.frozen (p := ⟨w.heap.size + 1, o, none⟩) hl4 hne1).trans (tf o)
  have ul : w.heap.size + 1 < w5.heap.size := Nat.lt_of_lt_of_le hl4 g3.size
  have v0 := g1.c0
  have v1 := g1.c1
  have v2 := g1.c2
  have v3 := g1.c3
  have v4 := g1.c4
  have vlt := g1.lt
  have hBW5 : Hid (Below w.heap.size w w5) := Lib.hid ((HBW3.out.trans (ZB.out.mono (by omega))).trans (g3.below (by omega) (fun k hk => by have := hlo k hk; omega)))
  have G1 := Lib.hid g1
  have G2 := Lib.hid g2
  clear g1 g2 g3 g4 hlo hne1
  go_wp2_with fail
  refine bodyPost_ret (v := .tuple #[.agg #[.int .i64 R.1.state, .slice a5 R.1.args.length c5, .bool R.1.priv, .string R.1.text, .string R.1.utf], .slice al5 L5.length cl5, .int .i64 0]) (by simp [results, Tryd.results14, go_sem, u0, u1, u2, u3, u4, v0, v1, v2, v3, v4, ul, vlt]) rfl ?_
  have hc : ∀ y0 y1 y2 y3 y4, Ch (fun k => k = w.heap.size + 1) w5 (((((w5.setCell ⟨w.heap.size + 1, 0, none⟩ y0).setCell ⟨w.heap.size + 1, 1, none⟩ y1).setCell ⟨w.heap.size + 1, 2, none⟩ y2).setCell ⟨w.heap.size + 1, 3, none⟩ y3).setCell ⟨w.heap.size + 1, 4, none⟩ y4) := fun y0 y1 y2 y3 y4 => ((((Ch.set1 _ _ _ _).setB _ _).setB _ _).setB _ _).setB _ _
  have hcx := hc (.int .i64 R.1.state) (.slice a5 R.1.args.length c5) (.bool R.1.priv) (.string R.1.text) (.string R.1.utf)
  have hp := G1.out
  have hd : ∀ k ∈ blkOf a5 ++ acB al5 L5, ¬ k = w.heap.size + 1 := fun k hk h => by
    rcases List.mem_append.1 hk with h1 | h1
    · have := (FreshIn.blks hp.args k h1).1; omega
    · have := (hp.ro.bd actL k h1).1; omega
  have hp2 := hp.ch hcx (by omega) hd
  rw [HR.out]
  refine ⟨a5, c5, al5, cl5, L5, rfl, hp2.args.mono (by omega) (Nat.le_refl _), hp2.ro.low actL (by omega), hp2.nd, by rw [G2.out]; rfl, ?_⟩
  exact hBW5.out.trans (hcx.below (by omega) (fun k h => by omega))
end
section
open Go.RowKit
set_option maxRecDepth 100000 in
set_option maxHeartbeats 8000000 in
theorem implParseBytes_c (ap : Option Addr) (cp : Nat) (p : PV) (a : Option Addr) (ca : Nat) (l : List UInt8) (w : World) (ha : Sl intE 1 w ap p.args) (hb : Sl byteE 1 w a l) (hl : l.length ≤ 1048576) (hZ : PvSz p 1048576) (hUT : UT w) :
    Calls Tryd.prog 8 #[.agg #[.int .i64 p.state, .slice ap p.args.length cp, .bool p.priv, .string p.text, .string p.utf], .slice a l.length ca] w (OutR (pbytes p l) w) := by
  by_cases h1 : 65536 < l.length
  case pos =>
    have HR : Hid (pbytes p l = ((pz, []), 2)) := Lib.hid (by unfold pbytes; rw [if_pos h1])
    have HL : Hid (longP (l.length : Int) = true) := Lib.hid (by simp [longP]; omega)
    clear h1 ha hb hUT hZ
    obtain ⟨Gr, hG⟩ : ∃ G, pbytes p l = G := ⟨_, rfl⟩
    rw [hG] at HR ⊢
    clear hG
    go_enter Tryd.func8, Tryd.ntmps8
    go_wp2_with fail
    refine Calls.mono (isLong1_c _ (l.length) _ _ ?_ ?_) ?_
    · simp
    · simp [go_sem]
    rw [HL.out]
    rintro e w1 ⟨rfl, rfl⟩
    go_wp2_with fail
    refine bodyPost_ret (v := .tuple #[.agg #[.int .i64 0, .slice none 0 0, .bool false, .string ⟨#[]⟩, .string ⟨#[]⟩], .slice none 0 0, .int .i64 2]) (by simp [results, Tryd.results8, go_sem]) rfl ?_
    refine OutR.zero HR.out ?_
    repeat (first | (with_reducible exact Below.refl _ _) | (with_reducible refine Below.setCell ?_ ?_ _; rotate_left; ((try simp) <;> (try omega))) | (with_reducible refine Below.alloc ?_ ?_ _; rotate_left; ((try simp) <;> (try omega))))
  have HL : Hid (longP (l.length : Int) = false) := Lib.hid (by simp [longP]; omega)
  have hl65 : l.length ≤ 65536 := by omega
  obtain ⟨Gr, hG⟩ : ∃ G, pbytes p l = G := ⟨_, rfl⟩
  have HGG := Lib.hid hG
  rw [hG]
  clear hG
  go_enter Tryd.func8, Tryd.ntmps8
  go_wp2_with fail
  refine Calls.mono (isLong1_c _ (l.length) _ _ ?_ ?_) ?_
  · simp
  · simp [go_sem]
  rw [HL.out]
  rintro e w1 ⟨rfl, rfl⟩
  go_wp2_with fail
  refine (isParser_c ap cp p _ (((ha.alloc _).alloc _).alloc _) hZ).mono ?_
  rintro e w1 ⟨rfl, hb1⟩
  have HB1 := Lib.hid hb1
  have hz1 := hb1.size
  simp only [World.size_alloc] at hz1
  have hl1 : w.heap.size + 1 < w1.heap.size := by omega
  have hl0 : w.heap.size < w1.heap.size := by omega
  have qa0_0 : w1.cell? ⟨w.heap.size, 0, none⟩ = some (.int .i64 p.state) := (hb1.cell (p := ⟨w.heap.size, 0, none⟩) (by show w.heap.size < _; (try simp) <;> omega)).trans (by simp [go_sem])
  have qa0_1 : w1.cell? ⟨w.heap.size, 1, none⟩ = some (.slice ap p.args.length cp) := (hb1.cell (p := ⟨w.heap.size, 1, none⟩) (by show w.heap.size < _; (try simp) <;> omega)).trans (by simp [go_sem])
  have qa0_2 : w1.cell? ⟨w.heap.size, 2, none⟩ = some (.bool p.priv) := (hb1.cell (p := ⟨w.heap.size, 2, none⟩) (by show w.heap.size < _; (try simp) <;> omega)).trans (by simp [go_sem])
  have qa0_3 : w1.cell? ⟨w.heap.size, 3, none⟩ = some (.string p.text) := (hb1.cell (p := ⟨w.heap.size, 3, none⟩) (by show w.heap.size < _; (try simp) <;> omega)).trans (by simp [go_sem])
  have qa0_4 : w1.cell? ⟨w.heap.size, 4, none⟩ = some (.string p.utf) := (hb1.cell (p := ⟨w.heap.size, 4, none⟩) (by show w.heap.size < _; (try simp) <;> omega)).trans (by simp [go_sem])
  have fa0 : ∀ o, w1.frozen? ⟨w.heap.size, o, none⟩ = false := fun o => (hb1.frozen (p := ⟨w.heap.size, o, none⟩) (by show w.heap.size < _; (try simp) <;> omega)).trans (by simp [go_sem])
  have qa1_0 : w1.cell? ⟨w.heap.size + 1, 0, none⟩ = some (.int .i64 0) := (hb1.cell (p := ⟨w.heap.size + 1, 0, none⟩) (by show w.heap.size + 1 < _; (try simp) <;> omega)).trans (by simp [go_sem])
  have qa1_1 : w1.cell? ⟨w.heap.size + 1, 1, none⟩ = some (.slice none 0 0) := (hb1.cell (p := ⟨w.heap.size + 1, 1, none⟩) (by show w.heap.size + 1 < _; (try simp) <;> omega)).trans (by simp [go_sem])
  have qa1_2 : w1.cell? ⟨w.heap.size + 1, 2, none⟩ = some (.bool false) := (hb1.cell (p := ⟨w.heap.size + 1, 2, none⟩) (by show w.heap.size + 1 < _; (try simp) <;> omega)).trans (by simp [go_sem])
  have qa1_3 : w1.cell? ⟨w.heap.size + 1, 3, none⟩ = some (.string ⟨#[]⟩) := (hb1.cell (p := ⟨w.heap.size + 1, 3, none⟩) (by show w.heap.size + 1 < _; (try simp) <;> omega)).trans (by simp [go_sem])
  have qa1_4 : w1.cell? ⟨w.heap.size + 1, 4, none⟩ = some (.string ⟨#[]⟩) := (hb1.cell (p := ⟨w.heap.size + 1, 4, none⟩) (by show w.heap.size + 1 < _; (try simp) <;> omega)).trans (by simp [go_sem])
  have fa1 : ∀ o, w1.frozen? ⟨w.heap.size + 1, o, none⟩ = false := fun o => (hb1.frozen (p := ⟨w.heap.size + 1, o, none⟩) (by show w.heap.size + 1 < _; (try simp) <;> omega)).trans (by simp [go_sem])
  have hbw : Below w.heap.size w w1 := ((((Below.refl w.heap.size w).alloc (Nat.le_refl _) _).alloc (by simp) _).alloc (by simp; omega) _).trans (hb1.mono (by simp only [World.size_alloc]; omega))
  have HBW := Lib.hid hbw
  have HBSlt : Hid (l.length = 0 ∨ ∀ j ∈ blkOf a, j < w.heap.size) := Lib.hid (by
    rcases hb with h | ⟨b, o, h, h2, _⟩
    · left; rw [h]; rfl
    · right; intro j hj; rw [h] at hj; simp [blkOf] at hj; omega)
  have HA1 := Lib.hid (ha.keep hbw)
  have HBS1 := Lib.hid (hb.keep hbw)
  have HUT1 := Lib.hid (hUT.keep hbw)
  clear hb1 hbw
  obtain ⟨c, hc⟩ : ∃ c, pvB p = c := ⟨_, rfl⟩
  have HC := Lib.hid hc
  rw [hc]
  clear hc
  cases c
  case false =>
    have HR : Hid (Gr = ((pz, []), 1)) := Lib.hid (by rw [← HGG.out]; unfold pbytes; rw [if_neg h1, if_pos HC.out])
    clear ha hUT
    go_wp2_with fail
    refine bodyPost_ret (v := .tuple #[.agg #[.int .i64 0, .slice none 0 0, .bool false, .string ⟨#[]⟩, .string ⟨#[]⟩], .slice none 0 0, .int .i64 1]) (by simp [results, Tryd.results8, go_sem, qa1_0, qa1_1, qa1_2, qa1_3, qa1_4, hl1]) rfl ?_
    refine OutR.zero HR.out ?_
    refine HBW.out.trans ?_
    repeat (first | (with_reducible exact Below.refl _ _) | (with_reducible refine Below.setCell ?_ ?_ _; rotate_left; ((try simp) <;> (try omega))) | (with_reducible refine Below.alloc ?_ ?_ _; rotate_left; ((try simp) <;> (try omega))))
  have HR : Hid (Gr = (prun p l, 0)) := Lib.hid (by rw [← HGG.out]; unfold pbytes; rw [if_neg h1, if_neg (by rw [HC.out]; simp)])
  have HOK : Hid (PvOK p) := Lib.hid (pvB_iff.1 HC.out)
  clear h1 hb
  clear ha hUT
  go_wp2_with fail
  refine (cloneParser_c ap cp p _ HA1.out hZ.args).mono ?_
  rintro e w3 ⟨a3, c3, rfl, hf3, hb3⟩
  have HF3 := Lib.hid hf3
  have HB3 := Lib.hid hb3
  have hz3 := hb3.size
  have hl31 : w.heap.size + 1 < w3.heap.size := by omega
  have r0 : w3.cell? ⟨w.heap.size + 1, 0, none⟩ = some (.int .i64 0) := (hb3.cell (p := ⟨w.heap.size + 1, 0, none⟩) hl1).trans qa1_0
  have r1 : w3.cell? ⟨w.heap.size + 1, 1, none⟩ = some (.slice none 0 0) := (hb3.cell (p := ⟨w.heap.size + 1, 1, none⟩) hl1).trans qa1_1
  have r2 : w3.cell? ⟨w.heap.size + 1, 2, none⟩ = some (.bool false) := (hb3.cell (p := ⟨w.heap.size + 1, 2, none⟩) hl1).trans qa1_2
  have r3 : w3.cell? ⟨w.heap.size + 1, 3, none⟩ = some (.string ⟨#[]⟩) := (hb3.cell (p := ⟨w.heap.size + 1, 3, none⟩) hl1).trans qa1_3
  have r4 : w3.cell? ⟨w.heap.size + 1, 4, none⟩ = some (.string ⟨#[]⟩) := (hb3.cell (p := ⟨w.heap.size + 1, 4, none⟩) hl1).trans qa1_4
  have rf : ∀ o, w3.frozen? ⟨w.heap.size + 1, o, none⟩ = false := fun o => (hb3.frozen (p := ⟨w.heap.size + 1, o, none⟩) hl1).trans (fa1 o)
  have HBW3 : Hid (Below w.heap.size w w3) := Lib.hid (HBW.out.trans (hb3.mono (by omega)))
  clear hf3 hb3
  have ZP : Hid (PS w3.heap.size (w.heap.size + 2) p a3 c3 [] none 0 (w3.alloc (.cells #[.int .i64 p.state, .slice a3 p.args.length c3, .bool p.priv, .string p.text, .string p.utf] 25))) := Lib.hid (by
    have hc : Ch (fun k => k = w3.heap.size) w3 (w3.alloc (.cells #[.int .i64 p.state, .slice a3 p.args.length c3, .bool p.priv, .string p.text, .string p.utf] 25)) := by
      repeat (first | (with_reducible exact Ch.refl) | (with_reducible refine Ch.setB ?_ _ _) | (with_reducible refine Ch.alloc ?_ _))
    have hF := HF3.out
    have hF2 := (FreshIn.ch hF hc (fun k hk h => by have := (FreshIn.blks hF k hk).2; omega)).mono (lo' := w.heap.size + 2) (by omega) (Nat.le_refl _)
    refine PS.box (by simp [World.setCell]) hF2 ?_ ?_ ?_ ?_ ?_ ?_ (fun k hk h => by have := (FreshIn.blks hF k hk).2; omega)
    all_goals first | (intro o; simp [go_sem]; done) | (simp [go_sem]; done))
  have ZB : Hid (Below w3.heap.size w3 (w3.alloc (.cells #[.int .i64 p.state, .slice a3 p.args.length c3, .bool p.priv, .string p.text, .string p.utf] 25))) := Lib.hid (by
    repeat (first | (with_reducible exact Below.refl _ _) | (with_reducible refine Below.setCell ?_ ?_ _; rotate_left; ((try simp) <;> (try omega))) | (with_reducible refine Below.alloc ?_ ?_ _; rotate_left; ((try simp) <;> (try omega)))))
  go_upto_region 6 with fail
  obtain ⟨x4, hx4⟩ : ∃ x, (w3.alloc (.cells #[.int .i64 p.state, .slice a3 p.args.length c3, .bool p.priv, .string p.text, .string p.utf] 25)) = x := ⟨_, rfl⟩
  rw [hx4] at ZP ZB ⊢
  clear hx4
  have hz4 := ZB.out.size
  have hPlt := ZP.out.lt
  have HUT4 : Hid (UT x4) := Lib.hid ((HUT1.out.keep HB3.out).keep ZB.out)
  have hg1 := HUT1.out.l1
  have hg2 := HUT1.out.l2
  have t0 : x4.cell? ⟨w.heap.size + 1, 0, none⟩ = some (.int .i64 0) := (ZB.out.cell (p := ⟨w.heap.size + 1, 0, none⟩) hl31).trans r0
  have t1 : x4.cell? ⟨w.heap.size + 1, 1, none⟩ = some (.slice none 0 0) := (ZB.out.cell (p := ⟨w.heap.size + 1, 1, none⟩) hl31).trans r1
  have t2 : x4.cell? ⟨w.heap.size + 1, 2, none⟩ = some (.bool false) := (ZB.out.cell (p := ⟨w.heap.size + 1, 2, none⟩) hl31).trans r2
  have t3 : x4.cell? ⟨w.heap.size + 1, 3, none⟩ = some (.string ⟨#[]⟩) := (ZB.out.cell (p := ⟨w.heap.size + 1, 3, none⟩) hl31).trans r3
  have t4 : x4.cell? ⟨w.heap.size + 1, 4, none⟩ = some (.string ⟨#[]⟩) := (ZB.out.cell (p := ⟨w.heap.size + 1, 4, none⟩) hl31).trans r4
  have tf : ∀ o, x4.frozen? ⟨w.heap.size + 1, o, none⟩ = false := fun o => (ZB.out.frozen (p := ⟨w.heap.size + 1, o, none⟩) hl31).trans (rf o)
  clear hZ
  have HBS4 := Lib.hid ((HBS1.out.keep HB3.out).keep ZB.out)
  have HBW4 : Hid (Below w.heap.size w x4) := Lib.hid (HBW3.out.trans (ZB.out.mono (by omega)))
  have hl4 : w.heap.size + 1 < x4.heap.size := by omega
  have hn1 : ¬ w.heap.size + 2 ≤ w.heap.size + 1 := by omega
  go_wp2_with fail
  go_loopw [8, 26] (fun s i wr => ∃ (k : Nat) (a5 : Option Addr) (c5 : Nat) (L5 : List ActA) (al5 : Option Addr) (cl5 : Nat), k ≤ l.length ∧ i = .int .i64 k ∧ s = .slice al5 L5.length cl5 ∧ Hid (PS w3.heap.size (w.heap.size + 2) (prun p (l.take k)).1 a5 c5 L5 al5 cl5 wr ∧ L5.map (·.A) = (prun p (l.take k)).2 ∧ Ch (fun k => w.heap.size + 2 ≤ k) x4 wr)) (fun _ i _ => l.length - (intOf i).toNat)
  case atStart => exact ⟨0, a3, c3, [], none, 0, Nat.zero_le _, rfl, rfl, Lib.hid ⟨ZP.out, rfl, Ch.refl⟩⟩
  case round =>
    obtain ⟨k, a5, c5, L5, al5, cl5, hk, rfl, rfl, HPP⟩ := hrel
    have hsz := HPP.out.2.2.size
    by_cases hlt : k < l.length
    · have HSB : Hid (Sl byteE 1 wr a l) := Lib.hid (HBS4.out.ch HPP.out.2.2 (fun j hj h => by rcases HBSlt.out with h2 | h2; omega; have := h2 j hj; omega))
      obtain ⟨b1, o1, rfl, hb1, hc1⟩ := HSB.out.at hlt
      have c1 := hc1 k hlt 0 (by omega)
      simp only [byteE, Nat.mul_one, Nat.add_zero, List.getElem?_cons_zero] at c1
      clear hc1
      obtain ⟨b, hbk⟩ : ∃ b, l[k] = b := ⟨_, rfl⟩
      have HBK := Lib.hid hbk
      rw [hbk] at c1
      clear hbk
      have HUTr : Hid (UT wr) := Lib.hid (HUT4.out.ch HPP.out.2.2 (by omega) (by omega))
      have HLL : Hid (L5.length ≤ 1048575) := Lib.hid (by
        have h1 := congrArg List.length HPP.out.2.1
        have h2 := run_len (l.take k) p
        simp only [List.length_map, List.length_take] at h1 h2
        omega)
      obtain ⟨Pk, hPk⟩ : ∃ P, prun p (l.take k) = P := ⟨_, rfl⟩
      have HPK := Lib.hid hPk
      rw [hPk] at HPP
      clear hPk
      go_wp2_with fail
      refine (parse_c w3.heap.size (w.heap.size + 2) Pk.1 a5 al5 c5 cl5 L5 b _ HPP.out.1 HLL.out (by omega) (by rw [← HPK.out]; exact prun_ok _ HOK.out) HUTr.out (by omega) (by omega)).mono ?_
      rintro e w6 ⟨a7, c7, L7, al7, cl7, rfl, g1, g2, g3, g4⟩
      have G1 := Lib.hid g1
      have G2 := Lib.hid g2
      have G3 := Lib.hid g3
      clear g1 g2 g3 g4
      go_wp2_with fail
      go_roundw
      case rel =>
        have hs : prun p (l.take (k + 1)) = ((pstep Pk.1 b).1, Pk.2 ++ (pstep Pk.1 b).2) := by
          rw [List.take_succ_eq_append_getElem hlt, prun_snoc, HPK.out, HBK.out]
        refine ⟨k + 1, a7, c7, L7, al7, cl7, by omega, by go_num, rfl, Lib.hid ⟨by rw [hs]; exact G1.out, by rw [hs, G2.out, HPP.out.2.1], ?_⟩⟩
        refine HPP.out.2.2.trans G3.out (fun j hj => .inl ?_)
        have hp := HPP.out.1
        rcases hj with h | h | h
        · subst h; omega
        · exact (FreshIn.blks hp.args j h).1
        · exact (hp.ro.bd actL j (by simp [roB, h])).1
      case measure => simp [intOf]; omega
    · obtain rfl : k = l.length := by omega
      rw [List.take_length] at HPP
      have HPP := HPP
      obtain ⟨R, hR⟩ : ∃ R, prun p l = R := ⟨_, rfl⟩
      rw [hR] at HR HPP
      clear hR
      have g1 := HPP.out.1
      have g3 := HPP.out.2.2
      have u0 : wr.cell? ⟨w.heap.size + 1, 0, none⟩ = some (.int .i64 0) := (g3.cell (p := ⟨w.heap.size + 1, 0, none⟩) hl4 hn1).trans t0
      have u1 : wr.cell? ⟨w.heap.size + 1, 1, none⟩ = some (.slice none 0 0) := (g3.cell (p := ⟨w.heap.size + 1, 1, none⟩) hl4 hn1).trans t1
      have u2 : wr.cell? ⟨w.heap.size + 1, 2, none⟩ = some (.bool false) := (g3.cell (p := ⟨w.heap.size + 1, 2, none⟩) hl4 hn1).trans t2
      have u3 : wr.cell? ⟨w.heap.size + 1, 3, none⟩ = some (.string ⟨#[]⟩) := (g3.cell (p := ⟨w.heap.size + 1, 3, none⟩) hl4 hn1).trans t3
      have u4 : wr.cell? ⟨w.heap.size + 1, 4, none⟩ = some (.string ⟨#[]⟩) := (g3.cell (p := ⟨w.heap.size + 1, 4, none⟩) hl4 hn1).trans t4
      have uf : ∀ o, wr.frozen? ⟨w.heap.size + 1, o, none⟩ = false := fun o => (g3.frozen (p := ⟨w.heap.size + 1, o, none⟩) hl4 hn1).trans (tf o)
      have ul : w.heap.size + 1 < wr.heap.size := Nat.lt_of_lt_of_le hl4 g3.size
      have v0 := g1.c0
      have v1 := g1.c1
      have v2 := g1.c2
      have v3 := g1.c3
      have v4 := g1.c4
      have vlt := g1.lt
      clear g1 g3
      go_wp2_with fail
      refine bodyPost_ret (v := .tuple #[.agg #[.int .i64 R.1.state, .slice a5 R.1.args.length c5, .bool R.1.priv, .string R.1.text, .string R.1.utf], .slice al5 L5.length cl5, .int .i64 0]) (by simp [results, Tryd.results8, go_sem, u0, u1, u2, u3, u4, v0, v1, v2, v3, v4, ul, vlt]) rfl ?_
      have hc : ∀ y0 y1 y2 y3 y4, Ch (fun k => k = w.heap.size + 1) wr (((((wr.setCell ⟨w.heap.size + 1, 0, none⟩ y0).setCell ⟨w.heap.size + 1, 1, none⟩ y1).setCell ⟨w.heap.size + 1, 2, none⟩ y2).setCell ⟨w.heap.size + 1, 3, none⟩ y3).setCell ⟨w.heap.size + 1, 4, none⟩ y4) := fun y0 y1 y2 y3 y4 => ((((Ch.set1 _ _ _ _).setB _ _).setB _ _).setB _ _).setB _ _
      have hcx := hc (.int .i64 R.1.state) (.slice a5 R.1.args.length c5) (.bool R.1.priv) (.string R.1.text) (.string R.1.utf)
      have hp := HPP.out.1
      have hd : ∀ k ∈ blkOf a5 ++ acB al5 L5, ¬ k = w.heap.size + 1 := fun k hk h => by
        rcases List.mem_append.1 hk with h1 | h1
        · have := (FreshIn.blks hp.args k h1).1; omega
        · have := (hp.ro.bd actL k h1).1; omega
      have hp2 := hp.ch hcx (by omega) hd
      rw [HR.out]
      refine ⟨a5, c5, al5, cl5, L5, rfl, hp2.args.mono (by omega) (Nat.le_refl _), hp2.ro.low actL (by omega), hp2.nd, HPP.out.2.1, ?_⟩
      exact (HBW4.out.trans (HPP.out.2.2.below (by omega) (fun k h => by omega))).trans (hcx.below (by omega) (fun k h => by omega))
end
end Go.Proofs.YtlhhlmalihajcaaDoor
