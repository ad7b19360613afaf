/- A parser and a list in memory of their own; impl's ground, csi, inRune. No conditions but sizes. -/
import Derived.Test.YtlhhlmalihajcaaDoorPsA
import Derived.Test.YtlhhlmalihajcaaDoorCh
import Derived.Lib.Strings
import Derived.Shelf.Unicode.DecodeAny
import Derived.Test.YtlhhlmalihajcaaDoorCh2
import Derived.Deep.DeepCutAuto
namespace Go.Proofs.YtlhhlmalihajcaaDoor
set_option linter.unusedVariables false
set_option linter.unusedSimpArgs false
section
open Go.RowKit
/-- An action in memory: its value, and where its numbers lie. -/
structure ActA where
  A : AV
  aa : Option Addr
  ca : Nat
def actE (r : ActA) : List Value := [.int .i64 r.A.kind, .int .i64 r.A.n, .bool r.A.priv, .slice r.aa r.A.args.length r.ca, .string r.A.text]
def actBlk (r : ActA) : List Nat := blkOf r.aa
def actOwn (lo : Nat) (w : World) (r : ActA) : Prop := FreshIn intE 3 1 lo w.heap.size (.slice r.aa r.A.args.length r.ca) r.A.args w
theorem actL : OwnL actOwn actBlk where
  ch := fun h hc hd => FreshIn.ch h hc hd
  low := fun hl h => FreshIn.low h hl
  bd := fun h k hk => FreshIn.blks h k hk
  nd := fun _ => blkOf_nodup _
abbrev ActO (lo : Nat) (L : List ActA) (al : Option Addr) (cl : Nat) (w : World) : Prop := RO actE 46 5 actOwn actBlk lo L al cl w
abbrev acB (al : Option Addr) (L : List ActA) : List Nat := roB actBlk al L
theorem Tryd.infoAction : (Tryd.prog.info? 46).map (fun i => (i.zero, i.size, i.bytes)) = some (some (.agg #[.int .i64 0, .int .i64 0, .bool false, .slice none 0 0, .string ⟨#[]⟩]), 5, 64) := by kernel_rfl
theorem actOne : ∀ (x : ActA), ∀ u ∈ actE x, u.oneCell' = true := by
  intro x u hu
  simp only [actE, List.mem_cons, List.not_mem_nil, or_false] at hu
  rcases hu with rfl | rfl | rfl | rfl | rfl <;> rfl
structure PS (B lo : Nat) (p : PV) (ap : Option Addr) (cp : Nat) (L : List ActA) (al : Option Addr) (cl : Nat) (w : World) : Prop where
  c0 : w.cell? ⟨B, 0, none⟩ = some (.int .i64 p.state)
  c1 : w.cell? ⟨B, 1, none⟩ = some (.slice ap p.args.length cp)
  c2 : w.cell? ⟨B, 2, none⟩ = some (.bool p.priv)
  c3 : w.cell? ⟨B, 3, none⟩ = some (.string p.text)
  c4 : w.cell? ⟨B, 4, none⟩ = some (.string p.utf)
  fz : ∀ o, w.frozen? ⟨B, o, none⟩ = false
  lt : B < w.heap.size
  args : FreshIn intE 3 1 lo w.heap.size (.slice ap p.args.length cp) p.args w
  ro : ActO lo L al cl w
  nB : B ∉ blkOf ap ++ acB al L
  nd : ∀ k ∈ blkOf ap, k ∉ acB al L
section
variable {B lo : Nat} {p p' : PV} {ap ap' al al' : Option Addr} {cp cp' cl cl' : Nat} {L us : List ActA} {w w' w1 : World} {M : Nat → Prop}
theorem PS.ch (h : PS B lo p ap cp L al cl w) (hc : Ch M w w') (hB : ¬ M B) (hd : ∀ k ∈ blkOf ap ++ acB al L, ¬ M k) : PS B lo p ap cp L al cl w' where
  c0 := (hc.cell (p := ⟨B, 0, none⟩) h.lt hB).trans h.c0
  c1 := (hc.cell (p := ⟨B, 1, none⟩) h.lt hB).trans h.c1
  c2 := (hc.cell (p := ⟨B, 2, none⟩) h.lt hB).trans h.c2
  c3 := (hc.cell (p := ⟨B, 3, none⟩) h.lt hB).trans h.c3
  c4 := (hc.cell (p := ⟨B, 4, none⟩) h.lt hB).trans h.c4
  fz := fun o => (hc.frozen (p := ⟨B, o, none⟩) h.lt hB).trans (h.fz o)
  lt := Nat.lt_of_lt_of_le h.lt hc.size
  args := h.args.ch hc (fun k hk => hd k (by simp [hk]))
  ro := h.ro.ch actL hc (fun k hk => hd k (by rw [List.mem_append]; exact .inr hk))
  nB := h.nB
  nd := h.nd
theorem PS.keep (h : PS B lo p ap cp L al cl w) (hb : Below w.heap.size w w') : PS B lo p ap cp L al cl w' := h.ch (M := fun _ => False) (Ch.of_below hb) (fun h => h) (fun _ _ h => h)
/-- The parser's cells are written anew, the list stays. -/
theorem PS.cells (h : PS B lo p ap cp L al cl w) (hc : Ch (· = B) w w') (c0 : w'.cell? ⟨B, 0, none⟩ = some (.int .i64 p'.state)) (c1 : w'.cell? ⟨B, 1, none⟩ = some (.slice ap' p'.args.length cp')) (c2 : w'.cell? ⟨B, 2, none⟩ = some (.bool p'.priv))
    (c3 : w'.cell? ⟨B, 3, none⟩ = some (.string p'.text)) (c4 : w'.cell? ⟨B, 4, none⟩ = some (.string p'.utf)) (fz : ∀ o, w'.frozen? ⟨B, o, none⟩ = false) (ha : (ap' = ap ∧ cp' = cp ∧ p'.args = p.args) ∨ (ap' = none ∧ cp' = 0 ∧ p'.args = [])) : PS B lo p' ap' cp' L al cl w' := by
  have hne : ∀ k ∈ blkOf ap ++ acB al L, ¬ k = B := fun k hk e => h.nB (e ▸ hk)
  have hro := h.ro.ch actL hc (fun k hk => hne k (by rw [List.mem_append]; exact .inr hk))
  have hlt := Nat.lt_of_lt_of_le h.lt hc.size
  rcases ha with ⟨rfl, rfl, e⟩ | ⟨rfl, rfl, e⟩
  · exact ⟨c0, c1, c2, c3, c4, fz, hlt, by rw [e]; exact h.args.ch hc (fun k hk => hne k (by simp [hk])), hro, h.nB, h.nd⟩
  · refine ⟨c0, c1, c2, c3, c4, fz, hlt, by rw [e]; exact FreshIn.nil _ _ _ _ _ _, hro, fun hb => h.nB ?_, by simp [blkOf]⟩
    simp only [blkOf, List.nil_append] at hb
    rw [List.mem_append]; exact .inr hb
/-- One action more, without numbers. -/
theorem PS.push (h : PS B lo p ap cp L al cl w) {x : ActA} (hx : x.aa = none ∧ x.ca = 0 ∧ x.A.args = []) (hus : us = L ++ [x]) (hf : FreshIn actE 46 5 lo w'.heap.size (.slice al' us.length cl') us w') (hc : Ch (· ∈ blkOf al) w w')
    (hk : ∀ k ∈ blkOf al', k ∈ blkOf al ∨ k = w.heap.size) : PS B lo p ap cp us al' cl' w' := by
  have hB : B ∉ blkOf al := fun hb => h.nB (by simp [roB, hb])
  have hA : ∀ k ∈ blkOf ap, k ∉ blkOf al := fun k hk1 hk2 => h.nd k hk1 (by simp [roB, hk2])
  have hbx : actBlk x = [] := by unfold actBlk; rw [hx.1]; rfl
  have hro : ActO lo us al' cl' w' := h.ro.push actL (by unfold actOwn; rw [hx.1, hx.2.1, hx.2.2]; exact FreshIn.nil _ _ _ _ _ _) (by rw [hbx]; simp) hus hf hc hk
  have hin : ∀ k ∈ acB al' us, k ∈ acB al L ∨ k = w.heap.size := by
    intro k hk1
    simp only [roB, List.mem_append] at hk1 ⊢
    rcases hk1 with hk1 | hk1
    · rcases hk k hk1 with h2 | h2
      · exact .inl (.inl h2)
      · exact .inr h2
    · rw [hus] at hk1
      simp only [List.flatMap_append, List.flatMap_cons, List.flatMap_nil, List.append_nil, hbx] at hk1
      exact .inl (.inr hk1)
  refine ⟨(hc.cell (p := ⟨B, 0, none⟩) h.lt hB).trans h.c0, (hc.cell (p := ⟨B, 1, none⟩) h.lt hB).trans h.c1, (hc.cell (p := ⟨B, 2, none⟩) h.lt hB).trans h.c2, (hc.cell (p := ⟨B, 3, none⟩) h.lt hB).trans h.c3, (hc.cell (p := ⟨B, 4, none⟩) h.lt hB).trans h.c4, fun o => (hc.frozen (p := ⟨B, o, none⟩) h.lt hB).trans (h.fz o), Nat.lt_of_lt_of_le h.lt hc.size, h.args.ch hc hA, hro, fun hb => ?_, fun k hk1 hk2 => ?_⟩
  · rcases List.mem_append.1 hb with hb | hb
    · exact h.nB (by simp [hb])
    · rcases hin B hb with h2 | h2
      · exact h.nB (List.mem_append.2 (.inr h2))
      · have := h.lt; omega
  · rcases hin k hk2 with h2 | h2
    · exact h.nd k hk1 h2
    · have := (FreshIn.blks h.args k hk1).2; omega
theorem PS.pushIn {x : ActA} (hx : x.aa = none) (hus : us = L ++ [x]) (hk : ∀ k ∈ blkOf al', k ∈ blkOf al ∨ k = w.heap.size) : ∀ k ∈ acB al' us, k ∈ acB al L ∨ w.heap.size ≤ k := by
  intro k hk1
  have hbx : actBlk x = [] := by unfold actBlk; rw [hx]; rfl
  simp only [roB, List.mem_append] at hk1 ⊢
  rcases hk1 with hk1 | hk1
  · rcases hk k hk1 with h2 | h2
    · exact .inl (.inl h2)
    · exact .inr (by omega)
  · rw [hus] at hk1
    simp only [List.flatMap_append, List.flatMap_cons, List.flatMap_nil, List.append_nil, hbx] at hk1
    exact .inl (.inr hk1)
end
/-- What a byte leaves. -/
def PR (B lo : Nat) (R : PV × List AV) (ap : Option Addr) (L : List ActA) (al : Option Addr) (w : World) (e : Ending) (w' : World) : Prop :=
  ∃ (ap' : Option Addr) (cp' : Nat) (L' : List ActA) (al' : Option Addr) (cl' : Nat), e = .returned (.slice al' L'.length cl') ∧ PS B lo R.1 ap' cp' L' al' cl' w' ∧ L'.map (·.A) = L.map (·.A) ++ R.2 ∧
    Ch (fun k => k = B ∨ k ∈ blkOf ap ∨ k ∈ blkOf al) w w' ∧ (∀ k ∈ blkOf ap' ++ acB al' L', k ∈ blkOf ap ++ acB al L ∨ w.heap.size ≤ k)
section
variable {B lo : Nat} {p p' : PV} {ap ap' al al' : Option Addr} {cp cp' cl cl' : Nat} {L us : List ActA} {w w' w1 w2 : World} {R : PV × List AV} {e : Ending}
/-- An end where only the parser's cells have changed. -/
theorem PR.cells (h : PS B lo p ap cp L al cl w) (hc : Ch (· = B) w w') (hR1 : R.1 = p') (hR2 : R.2 = []) (h' : PS B lo p' ap' cp' L al cl w') (ha : ap' = ap ∨ ap' = none) : PR B lo R ap L al w (.returned (.slice al L.length cl)) w' := by
  refine ⟨ap', cp', L, al, cl, rfl, by rw [hR1]; exact h', by rw [hR2]; simp, hc.mono (fun i hi => .inl (.inl hi)), fun k hk => .inl ?_⟩
  rcases ha with rfl | rfl
  · exact hk
  · simp only [blkOf, List.nil_append] at hk
    rw [List.mem_append]; exact .inr hk
/-- .. where an action without numbers has come, and the parser's cells may have changed. -/
theorem PR.push (h : PS B lo p ap cp L al cl w) {x : ActA} (hx : x.aa = none) (hus : us = L ++ [x]) (hk : ∀ k ∈ blkOf al', k ∈ blkOf al ∨ k = w1.heap.size) (hz : w.heap.size ≤ w1.heap.size)
    (hc : Ch (fun k => k = B ∨ k ∈ blkOf al) w w') (hR1 : R.1 = p') (hR2 : R.2 = [x.A]) (h' : PS B lo p' ap' cp' us al' cl' w') (ha : ap' = ap ∨ ap' = none) : PR B lo R ap L al w (.returned (.slice al' us.length cl')) w' := by
  refine ⟨ap', cp', us, al', cl', rfl, by rw [hR1]; exact h', by rw [hR2, hus]; simp, hc.mono (fun i hi => .inl (by rcases hi with h | h; exact .inl h; exact .inr (.inr h))), fun k hk1 => ?_⟩
  have hin := PS.pushIn (w := w1) (al := al) (L := L) hx hus hk
  rcases List.mem_append.1 hk1 with hk2 | hk2
  · rcases ha with rfl | rfl
    · exact .inl (List.mem_append.2 (.inl hk2))
    · simp [blkOf] at hk2
  · rcases hin k hk2 with h2 | h2
    · exact .inl (List.mem_append.2 (.inr h2))
    · exact .inr (by omega)
end
end
section
open Go.RowKit
theorem ctl_eq (n : Nat) : ctlI (n : Int) = ctl n := by
  unfold ctlI ctl inB
  rw [Bool.eq_iff_iff]
  simp only [Bool.or_eq_true, Bool.and_eq_true, decide_eq_true_eq, beq_iff_eq]
  omega
theorem Ch.setB {a w : World} {B : Nat} (h : Ch (fun k => k = B) a w) (o : Nat) (u : Value) : Ch (fun k => k = B) a (w.setCell ⟨B, o, none⟩ u) := Ch.setCell (M := fun k => k = B) (p := ⟨B, o, none⟩) h (Or.inl rfl) u
theorem Ch.set1 (w : World) (B o : Nat) (u : Value) : Ch (fun k => k = B) w (w.setCell ⟨B, o, none⟩ u) := Ch.refl.setB o u
theorem conv1 (w : World) (b : UInt8) (n : Nat) (hn : b.toNat = n) : (convert 22 9 (.slice (some ⟨w.heap.size, 0, none⟩) 1 1)).run Tryd.prog (w.alloc (.cells #[.int .u8 n] 5)) = .ok (.string ⟨#[b]⟩) (w.alloc (.cells #[.int .u8 n] 5)) := by
  refine run_convert_bytes_back (w.alloc (.cells #[.int .u8 n] 5)) _ _ 5 ⟨w.heap.size, 0, none⟩ 1 [b] Tryd.underlying22 Tryd.underlying5 Tryd.underlying9 (fun j hj => ?_)
  have h0 : j = 0 := by simpa using hj
  subst h0
  simp [go_sem, hn]
section
variable {b : UInt8}
theorem gs1 (h : b.toNat = 27) : gstep b = (pst 1, []) := by unfold gstep; rw [if_pos h]
theorem gs2 (h : ¬ b.toNat = 27) (h2 : ctl b.toNat = true) : gstep b = (pz, [⟨2, b.toNat, false, [], e0⟩]) := by unfold gstep; rw [if_neg h, if_pos h2]
theorem gs3 (h : ¬ b.toNat = 27) (h2 : ctl b.toNat = false) (h3 : 32 ≤ b.toNat ∧ b.toNat ≤ 126) : gstep b = (pz, [pr b.toNat]) := by unfold gstep; rw [if_neg h, if_neg (by rw [h2]; simp), if_pos h3]
theorem gs4 (h : ¬ b.toNat = 27) (h2 : ctl b.toNat = false) (h3 : ¬ (32 ≤ b.toNat ∧ b.toNat ≤ 126)) (h4 : b.toNat < 128) : gstep b = (pz, []) := by unfold gstep; rw [if_neg h, if_neg (by rw [h2]; simp), if_neg h3, if_pos h4]
theorem gs5 (h : 128 ≤ b.toNat) (h5 : 0 < utfLen b.toNat) : gstep b = (⟨6, [], false, e0, ⟨#[b]⟩⟩, []) := by
  unfold gstep
  rw [if_neg (by omega), if_neg (by simp [ctl]; omega), if_neg (by omega), if_neg (by omega), if_pos h5]
theorem gs6 (h : 128 ≤ b.toNat) (h5 : ¬ 0 < utfLen b.toNat) : gstep b = (pz, [pr 65533]) := by
  unfold gstep
  rw [if_neg (by omega), if_neg (by simp [ctl]; omega), if_neg (by omega), if_neg (by omega), if_neg h5]
end
set_option maxRecDepth 100000 in
set_option maxHeartbeats 8000000 in
theorem ground_c (B lo : Nat) (ap al : Option Addr) (cp cl : Nat) (L : List ActA) (b : UInt8) (w : World) (h : PS B lo pz ap cp L al cl w) (hL : L.length ≤ 1048576) (hlo : lo ≤ w.heap.size) :
    Calls Tryd.prog 67 #[.pointer (some ⟨B, 0, none⟩), .slice al L.length cl, .int .u8 b.toNat] w (PR B lo (gstep b) ap L al w) := by
  obtain ⟨iA, hA, hA0, hA1, hA2⟩ := info_parts Tryd.infoAction
  have HP := Lib.hid h
  have k_0 : w.cell? ⟨B, 0, none⟩ = some (.int .i64 0) := h.c0
  have k_1 : w.cell? ⟨B, 1, none⟩ = some (.slice ap 0 cp) := h.c1
  have k_2 : w.cell? ⟨B, 2, none⟩ = some (.bool false) := h.c2
  have k_3 : w.cell? ⟨B, 3, none⟩ = some (.string ⟨#[]⟩) := h.c3
  have k_4 : w.cell? ⟨B, 4, none⟩ = some (.string ⟨#[]⟩) := h.c4
  have kf := h.fz
  have klt := h.lt
  have h256 : b.toNat < 256 := b.toNat_lt
  have HG1 := Lib.hid (@gs1 b)
  have HG2 := Lib.hid (@gs2 b)
  have HG3 := Lib.hid (@gs3 b)
  have HG4 := Lib.hid (@gs4 b)
  have HG5 := Lib.hid (@gs5 b)
  have HG6 := Lib.hid (@gs6 b)
  clear h
  generalize hG : gstep b = G at *
  have HGG := Lib.hid hG
  clear hG
  obtain ⟨n, hn⟩ : ∃ n, b.toNat = n := ⟨_, rfl⟩
  rw [hn] at h256 HG1 HG2 HG3 HG4 HG5 HG6 ⊢
  have HN := Lib.hid hn
  clear hn
  by_cases h27 : n = 27
  case pos =>
    have HR := Lib.hid (HG1.out h27)
    have g27 : ((n : Int) == 27) = true := by subst h27; rfl
    clear h27
    go_enter Tryd.func67, Tryd.ntmps67
    go_wp2_with fail
    go_ret
    have hc : Ch (· = B) w (w.setCell ⟨B, 0, none⟩ (.int .i64 1)) := Ch.set1 _ _ _ _
    refine PR.cells (p' := pst 1) (ap' := ap) (cp' := cp) HP.out hc (by rw [HR.out]) (by rw [HR.out]) (HP.out.cells hc ?_ ?_ ?_ ?_ ?_ ?_ (.inl ⟨rfl, rfl, rfl⟩)) (.inl rfl)
    all_goals first | (intro o; simp [go_sem, kf]; done) | (simp [go_sem, k_0, k_1, k_2, k_3, k_4, pst]; done)
  have g27 : ((n : Int) == 27) = false := beq_eq_false_iff_ne.2 (by omega)
  obtain ⟨c, hc⟩ : ∃ c, ctl n = c := ⟨_, rfl⟩
  have HCT : Hid (ctlI (n : Int) = c) := Lib.hid (by rw [ctl_eq]; exact hc)
  have HCC := Lib.hid hc
  clear hc
  cases c
  case true =>
    have HR := Lib.hid (HG2.out h27 HCC.out)
    go_enter Tryd.func67, Tryd.ntmps67
    go_upto_region 5 with (go_at_call 75; refine (isControl_c _ _).mono ?_; rw [HCT.out]; rintro e w' ⟨rfl, rfl⟩)
    have HSRC1 : Hid (Src Tryd.prog 5 28 (.slice (some ⟨w.heap.size, 0, none⟩) 1 1) [(⟨⟨2, n, false, [], e0⟩, none, 0⟩ : ActA)].length ([(⟨⟨2, n, false, [], e0⟩, none, 0⟩ : ActA)].flatMap actE) (w.alloc (.cells #[.int .i64 2, .int .i64 n, .bool false, .slice none 0 0, .string ⟨#[]⟩] 46))) := Lib.hid (Src.ofBox (enc := actE) Tryd.underlying28 (fun _ => rfl) actOne (⟨⟨2, n, false, [], e0⟩, none, 0⟩ : ActA) _ _ (by first | rfl | simp [actE]) _ rfl)
    have HRO1 : Hid (ActO lo L al cl (w.alloc (.cells #[.int .i64 2, .int .i64 n, .bool false, .slice none 0 0, .string ⟨#[]⟩] 46))) := Lib.hid (HP.out.ro.keep actL ((Below.refl _ _).alloc (Nat.le_refl _) _))
    go_wp2_with (at_builtin; refine wpList_append_ch (.tmp 21) (.tmp 25) 28 28 lo 46 iA (.agg #[.int .i64 0, .int .i64 0, .bool false, .slice none 0 0, .string ⟨#[]⟩]) 5 64 Tryd.underlying28 hA hA0 hA1 hA2 rfl (by decide) al L.length cl L HRO1.out.row (.slice (some ⟨w.heap.size, 0, none⟩) 1 1) [(⟨⟨2, n, false, [], e0⟩, none, 0⟩ : ActA)] HSRC1.out (by simp; omega) (by simp; omega) rfl rfl rfl rfl ?_)
    intro a1 c1 w1 us1 hus hf hc hk
    have HUS1 := hus
    have HF1 := Lib.hid hf
    have HC1 : Hid (Ch (· ∈ blkOf al) w w1) := Lib.hid ((Ch.refl.alloc _).trans hc (fun i hi => .inl hi))
    have HK1 : Hid (∀ j ∈ blkOf a1, j ∈ blkOf al ∨ j = (w.alloc (.cells #[.int .i64 2, .int .i64 n, .bool false, .slice none 0 0, .string ⟨#[]⟩] 46)).heap.size) := Lib.hid (fun j hj => by simpa using hk j hj)
    have HCA1 := Lib.hid hc
    clear hus hf hc hk
    go_wp2_with fail
    go_ret
    exact PR.push (p' := pz) (ap' := ap) (cp' := cp) (w1 := w.alloc (.cells #[.int .i64 2, .int .i64 n, .bool false, .slice none 0 0, .string ⟨#[]⟩] 46)) HP.out (x := ⟨⟨2, n, false, [], e0⟩, none, 0⟩) rfl HUS1.out HK1.out (by simp) (HC1.out.mono (fun i hi => .inl (.inr hi))) (by rw [HR.out]) (by rw [HR.out]; try rfl) ((HP.out.keep ((Below.refl _ _).alloc (Nat.le_refl _) (.cells #[.int .i64 2, .int .i64 n, .bool false, .slice none 0 0, .string ⟨#[]⟩] 46))).push ⟨rfl, rfl, rfl⟩ HUS1.out HF1.out HCA1.out HK1.out) (.inl rfl)
  have HCC2 := HCC
  by_cases h3 : 32 ≤ n ∧ n ≤ 126
  case pos =>
    have HR := Lib.hid (HG3.out h27 HCC.out h3)
    obtain ⟨h31, h32⟩ := h3
    have g31 : (32 : Int) ≤ (n : Int) := by omega
    have g32 : (n : Int) ≤ 126 := by omega
    go_enter Tryd.func67, Tryd.ntmps67
    go_upto_region 7 with (go_at_call 75; refine (isControl_c _ _).mono ?_; rw [HCT.out]; rintro e w' ⟨rfl, rfl⟩)
    have HSRC1 : Hid (Src Tryd.prog 5 28 (.slice (some ⟨w.heap.size, 0, none⟩) 1 1) [(⟨⟨1, n, false, [], e0⟩, none, 0⟩ : ActA)].length ([(⟨⟨1, n, false, [], e0⟩, none, 0⟩ : ActA)].flatMap actE) (w.alloc (.cells #[.int .i64 1, .int .i64 n, .bool false, .slice none 0 0, .string ⟨#[]⟩] 46))) := Lib.hid (Src.ofBox (enc := actE) Tryd.underlying28 (fun _ => rfl) actOne (⟨⟨1, n, false, [], e0⟩, none, 0⟩ : ActA) _ _ (by first | rfl | simp [actE]) _ rfl)
    have HRO1 : Hid (ActO lo L al cl (w.alloc (.cells #[.int .i64 1, .int .i64 n, .bool false, .slice none 0 0, .string ⟨#[]⟩] 46))) := Lib.hid (HP.out.ro.keep actL ((Below.refl _ _).alloc (Nat.le_refl _) _))
    go_wp2_with (at_builtin; refine wpList_append_ch (.tmp 34) (.tmp 38) 28 28 lo 46 iA (.agg #[.int .i64 0, .int .i64 0, .bool false, .slice none 0 0, .string ⟨#[]⟩]) 5 64 Tryd.underlying28 hA hA0 hA1 hA2 rfl (by decide) al L.length cl L HRO1.out.row (.slice (some ⟨w.heap.size, 0, none⟩) 1 1) [(⟨⟨1, n, false, [], e0⟩, none, 0⟩ : ActA)] HSRC1.out (by simp; omega) (by simp; omega) rfl rfl rfl rfl ?_)
    intro a1 c1 w1 us1 hus hf hc hk
    have HUS1 := hus
    have HF1 := Lib.hid hf
    have HC1 : Hid (Ch (· ∈ blkOf al) w w1) := Lib.hid ((Ch.refl.alloc _).trans hc (fun i hi => .inl hi))
    have HK1 : Hid (∀ j ∈ blkOf a1, j ∈ blkOf al ∨ j = (w.alloc (.cells #[.int .i64 1, .int .i64 n, .bool false, .slice none 0 0, .string ⟨#[]⟩] 46)).heap.size) := Lib.hid (fun j hj => by simpa using hk j hj)
    have HCA1 := Lib.hid hc
    clear hus hf hc hk
    go_wp2_with fail
    go_ret
    exact PR.push (p' := pz) (ap' := ap) (cp' := cp) (w1 := w.alloc (.cells #[.int .i64 1, .int .i64 n, .bool false, .slice none 0 0, .string ⟨#[]⟩] 46)) HP.out (x := ⟨⟨1, n, false, [], e0⟩, none, 0⟩) rfl HUS1.out HK1.out (by simp) (HC1.out.mono (fun i hi => .inl (.inr hi))) (by rw [HR.out]) (by rw [HR.out]; try rfl) ((HP.out.keep ((Below.refl _ _).alloc (Nat.le_refl _) (.cells #[.int .i64 1, .int .i64 n, .bool false, .slice none 0 0, .string ⟨#[]⟩] 46))).push ⟨rfl, rfl, rfl⟩ HUS1.out HF1.out HCA1.out HK1.out) (.inl rfl)
  by_cases h4 : n < 128
  case pos =>
    have HR := Lib.hid (HG4.out h27 HCC.out h3 h4)
    have g4 : (n : Int) < 128 := by omega
    go_enter Tryd.func67, Tryd.ntmps67
    go_wp2_with (go_at_call 75; refine (isControl_c _ _).mono ?_; rw [HCT.out]; rintro e w' ⟨rfl, rfl⟩)
    all_goals first
      | (exfalso; omega)
      | (go_ret
         exact PR.cells (p' := pz) (ap' := ap) (cp' := cp) HP.out Ch.refl (by rw [HR.out]) (by rw [HR.out]) HP.out (.inl rfl))
  have g4 : (128 : Int) ≤ (n : Int) := by omega
  have g32 : ¬ (n : Int) ≤ 126 := by omega
  have h4' : 128 ≤ n := by omega
  clear h3 h4
  by_cases h5 : 0 < utfLen n
  case pos =>
    have HR := Lib.hid (HG5.out h4' h5)
    obtain ⟨u, hu⟩ : ∃ u, utfLen n = u := ⟨_, rfl⟩
    have HU := Lib.hid hu
    rw [hu] at h5
    have g5 : (0 : Int) < (u : Int) := by omega
    clear hu
    have hcv := conv1 w b n HN.out
    go_enter Tryd.func67, Tryd.ntmps67
    go_wp2_with (first
      | (go_at_call 75; refine (isControl_c _ _).mono ?_; rw [HCT.out]; rintro e w' ⟨rfl, rfl⟩)
      | (go_at_call 84; refine (utfLength_c _ _).mono ?_; rw [HU.out]; rintro e w' ⟨rfl, rfl⟩))
    go_ret
    refine PR.cells (p' := ⟨6, [], false, e0, ⟨#[b]⟩⟩) (ap' := none) (cp' := 0) HP.out ?hc (by rw [HR.out]) (by rw [HR.out]) (HP.out.cells ?hc ?_ ?_ ?_ ?_ ?_ ?_ (.inr ⟨rfl, rfl, rfl⟩)) (.inr rfl)
    case hc => repeat (first | (with_reducible exact Ch.refl) | (with_reducible refine Ch.alloc ?_ _) | (with_reducible refine Ch.drew ?_) | (with_reducible refine Ch.setB ?_ _ _))
    all_goals first | (intro o; simp [go_sem, kf, klt]; done) | (simp [go_sem, k_0, k_1, k_2, k_3, k_4, klt]; done)
  have HR := Lib.hid (HG6.out h4' h5)
  obtain ⟨u, hu⟩ : ∃ u, utfLen n = u := ⟨_, rfl⟩
  have HU := Lib.hid hu
  rw [hu] at h5
  have g5 : (u : Int) ≤ 0 := by omega
  clear hu
  go_enter Tryd.func67, Tryd.ntmps67
  go_upto_region 1 with (first
    | (go_at_call 75; refine (isControl_c _ _).mono ?_; rw [HCT.out]; rintro e w' ⟨rfl, rfl⟩)
    | (go_at_call 84; refine (utfLength_c _ _).mono ?_; rw [HU.out]; rintro e w' ⟨rfl, rfl⟩))
  have HSRC1 : Hid (Src Tryd.prog 5 28 (.slice (some ⟨w.heap.size, 0, none⟩) 1 1) [(⟨⟨1, 65533, false, [], e0⟩, none, 0⟩ : ActA)].length ([(⟨⟨1, 65533, false, [], e0⟩, none, 0⟩ : ActA)].flatMap actE) (w.alloc (.cells #[.int .i64 1, .int .i64 65533, .bool false, .slice none 0 0, .string ⟨#[]⟩] 46))) := Lib.hid (Src.ofBox (enc := actE) Tryd.underlying28 (fun _ => rfl) actOne (⟨⟨1, 65533, false, [], e0⟩, none, 0⟩ : ActA) _ _ (by first | rfl | simp [actE]) _ rfl)
  have HRO1 : Hid (ActO lo L al cl (w.alloc (.cells #[.int .i64 1, .int .i64 65533, .bool false, .slice none 0 0, .string ⟨#[]⟩] 46))) := Lib.hid (HP.out.ro.keep actL ((Below.refl _ _).alloc (Nat.le_refl _) _))
  go_wp2_with (at_builtin; refine wpList_append_ch (.tmp 7) (.tmp 9) 28 28 lo 46 iA (.agg #[.int .i64 0, .int .i64 0, .bool false, .slice none 0 0, .string ⟨#[]⟩]) 5 64 Tryd.underlying28 hA hA0 hA1 hA2 rfl (by decide) al L.length cl L HRO1.out.row (.slice (some ⟨w.heap.size, 0, none⟩) 1 1) [(⟨⟨1, 65533, false, [], e0⟩, none, 0⟩ : ActA)] HSRC1.out (by simp; omega) (by simp; omega) rfl rfl rfl rfl ?_)
  intro a1 c1 w1 us1 hus hf hc hk
  have HUS1 := hus
  have HF1 := Lib.hid hf
  have HC1 : Hid (Ch (· ∈ blkOf al) w w1) := Lib.hid ((Ch.refl.alloc _).trans hc (fun i hi => .inl hi))
  have HK1 : Hid (∀ j ∈ blkOf a1, j ∈ blkOf al ∨ j = (w.alloc (.cells #[.int .i64 1, .int .i64 65533, .bool false, .slice none 0 0, .string ⟨#[]⟩] 46)).heap.size) := Lib.hid (fun j hj => by simpa using hk j hj)
  have HCA1 := Lib.hid hc
  clear hus hf hc hk
  go_wp2_with fail
  go_ret
  exact PR.push (p' := pz) (ap' := ap) (cp' := cp) (w1 := w.alloc (.cells #[.int .i64 1, .int .i64 65533, .bool false, .slice none 0 0, .string ⟨#[]⟩] 46)) HP.out (x := ⟨⟨1, 65533, false, [], e0⟩, none, 0⟩) rfl HUS1.out HK1.out (by simp) (HC1.out.mono (fun i hi => .inl (.inr hi))) (by rw [HR.out]) (by rw [HR.out]; try rfl) ((HP.out.keep ((Below.refl _ _).alloc (Nat.le_refl _) (.cells #[.int .i64 1, .int .i64 65533, .bool false, .slice none 0 0, .string ⟨#[]⟩] 46))).push ⟨rfl, rfl, rfl⟩ HUS1.out HF1.out HCA1.out HK1.out) (.inl rfl)
end
section
open Go.RowKit
section
variable {B lo g : Nat} {p p' : PV} {ap ap' al al' : Option Addr} {cp cp' cl cl' : Nat} {L us : List ActA} {w w' w1 w2 : World} {R : PV × List AV} {e : Ending} {xs ys : List Int}
theorem FreshIn.setI {c k : Nat} (h : FreshIn intE 3 1 lo w.heap.size (.slice (some ⟨g, 0, none⟩) xs.length c) xs w) (hk : k < xs.length) (v : Int) : FreshIn intE 3 1 lo (w.setCell ⟨g, k, none⟩ (.int .i64 v)).heap.size (.slice (some ⟨g, 0, none⟩) (xs.set k v).length c) (xs.set k v) (w.setCell ⟨g, k, none⟩ (.int .i64 v)) := by
  obtain ⟨g', he, h1, h2, h3, ho⟩ := h.block (by omega)
  cases he
  have hs := (ho.stored k (.int .i64 v)).1
  rw [flat_set1 intE (fun _ => rfl) _ k hk v _ rfl] at hs
  have hl : (xs.set k v).length = xs.length := by simp
  refine ⟨?_, fun j hj => by simp [Value.ownBlock] at hj; subst hj; simpa [World.setCell] using h3⟩
  rw [hl]
  exact Fresh.of_own hs hl.symm rfl
theorem PS.arg (h : PS B lo p ap cp L al cl w) (hc : Ch (· ∈ blkOf ap) w w') (ha : FreshIn intE 3 1 lo w'.heap.size (.slice ap xs.length cp) xs w') (hl : xs.length = p.args.length) : PS B lo { p with args := xs } ap cp L al cl w' := by
  have hB : ¬ B ∈ blkOf ap := fun hb => h.nB (by simp [hb])
  exact ⟨(hc.cell (p := ⟨B, 0, none⟩) h.lt hB).trans h.c0, by
    show _ = some (Value.slice ap xs.length cp)
    rw [hl]; exact (hc.cell (p := ⟨B, 1, none⟩) h.lt hB).trans h.c1, (hc.cell (p := ⟨B, 2, none⟩) h.lt hB).trans h.c2, (hc.cell (p := ⟨B, 3, none⟩) h.lt hB).trans h.c3, (hc.cell (p := ⟨B, 4, none⟩) h.lt hB).trans h.c4,
    fun o => (hc.frozen (p := ⟨B, o, none⟩) h.lt hB).trans (h.fz o), Nat.lt_of_lt_of_le h.lt hc.size, ha, h.ro.ch actL hc (fun k hk hk2 => h.nd k hk2 hk), h.nB, h.nd⟩
/-- The numbers lie elsewhere now: w1 behind the append, w2 behind the store of the field. -/
theorem PS.arg2 (h : PS B lo p ap cp L al cl w) (hc : Ch (· ∈ blkOf ap) w w1) (ha : FreshIn intE 3 1 lo w1.heap.size (.slice ap' xs.length cp') xs w1) (hk : ∀ k ∈ blkOf ap', k ∈ blkOf ap ∨ w.heap.size ≤ k) : PS B lo { p with args := xs } ap' cp' L al cl (w1.setCell ⟨B, 1, none⟩ (.slice ap' xs.length cp')) := by
  have hB : ¬ B ∈ blkOf ap := fun hb => h.nB (by simp [hb])
  have hlt := Nat.lt_of_lt_of_le h.lt hc.size
  have hB' : B ∉ blkOf ap' := fun hb => by
    rcases hk B hb with h1 | h1
    · exact hB h1
    · have := h.lt; omega
  have hcs : Ch (fun k => k = B) w1 (w1.setCell ⟨B, 1, none⟩ (.slice ap' xs.length cp')) := Ch.set1 _ _ _ _
  have k1 : w1.cell? ⟨B, 1, none⟩ = some (.slice ap p.args.length cp) := (hc.cell (p := ⟨B, 1, none⟩) h.lt hB).trans h.c1
  have ot : ∀ o, o ≠ 1 → (w1.setCell ⟨B, 1, none⟩ (.slice ap' xs.length cp')).cell? ⟨B, o, none⟩ = w.cell? ⟨B, o, none⟩ := fun o ho => (World.cell?_setCell_other _ _ _ _ (fun e => by cases e; exact ho rfl)).trans (hc.cell (p := ⟨B, o, none⟩) h.lt hB)
  refine ⟨(ot 0 (by decide)).trans h.c0, by simp [go_sem, k1], (ot 2 (by decide)).trans h.c2, (ot 3 (by decide)).trans h.c3, (ot 4 (by decide)).trans h.c4, fun o => (World.frozen?_setCell _ _ _ _).trans ((hc.frozen (p := ⟨B, o, none⟩) h.lt hB).trans (h.fz o)), by simpa [World.setCell] using hlt, ha.ch hcs (fun k hk1 e => hB' (e ▸ hk1)), (h.ro.ch actL hc (fun k hk hk2 => h.nd k hk2 hk)).ch actL hcs (fun k hk1 e => h.nB (by rw [List.mem_append]; exact .inr (e ▸ hk1))), fun hb => ?_, fun k hk1 hk2 => ?_⟩
  · rcases List.mem_append.1 hb with hb | hb
    · exact hB' hb
    · exact h.nB (List.mem_append.2 (.inr hb))
  · rcases hk k hk1 with h1 | h1
    · exact h.nd k h1 hk2
    · have := (h.ro.bd actL k hk2).2; omega
theorem PR.arg (h : PS B lo p ap cp L al cl w) (hR1 : R.1 = p') (hR2 : R.2 = []) (h' : PS B lo p' ap' cp' L al cl w') (hc : Ch (fun k => k = B ∨ k ∈ blkOf ap) w w') (hk : ∀ k ∈ blkOf ap', k ∈ blkOf ap ∨ w.heap.size ≤ k) : PR B lo R ap L al w (.returned (.slice al L.length cl)) w' := by
  refine ⟨ap', cp', L, al, cl, rfl, by rw [hR1]; exact h', by rw [hR2]; simp, hc.mono (fun i hi => .inl (by rcases hi with h1 | h1; exact .inl h1; exact .inr (.inl h1))), fun k hk1 => ?_⟩
  rcases List.mem_append.1 hk1 with h1 | h1
  · rcases hk k h1 with h2 | h2
    · exact .inl (List.mem_append.2 (.inl h2))
    · exact .inr h2
  · exact .inl (List.mem_append.2 (.inr h1))
/-- The numbers are handed on to an action: w1 behind the append, w2 behind the store of the zero parser. -/
theorem PR.give (h : PS B lo p ap cp L al cl w) {x : ActA} (hx : x.aa = ap ∧ x.ca = cp ∧ x.A.args = p.args) (hus : us = L ++ [x]) (hf : FreshIn actE 46 5 lo w1.heap.size (.slice al' us.length cl') us w1) (hc : Ch (· ∈ blkOf al) w w1)
    (hk : ∀ k ∈ blkOf al', k ∈ blkOf al ∨ k = w.heap.size) (hcs : Ch (fun k => k = B) w1 w2) (c0 : w2.cell? ⟨B, 0, none⟩ = some (.int .i64 p'.state)) (c1 : w2.cell? ⟨B, 1, none⟩ = some (.slice none 0 0)) (c2 : w2.cell? ⟨B, 2, none⟩ = some (.bool p'.priv))
    (c3 : w2.cell? ⟨B, 3, none⟩ = some (.string p'.text)) (c4 : w2.cell? ⟨B, 4, none⟩ = some (.string p'.utf)) (fz : ∀ o, w2.frozen? ⟨B, o, none⟩ = false) (hp : p'.args = []) (hR1 : R.1 = p') (hR2 : R.2 = [x.A]) :
    PR B lo R ap L al w (.returned (.slice al' us.length cl')) w2 := by
  have hbx : actBlk x = blkOf ap := by unfold actBlk; rw [hx.1]
  have hro : ActO lo us al' cl' w1 := h.ro.push actL (by unfold actOwn; rw [hx.1, hx.2.1, hx.2.2]; exact h.args) (by rw [hbx]; exact h.nd) hus hf hc hk
  have hin : ∀ k ∈ acB al' us, (k ∈ blkOf ap ∨ k ∈ acB al L) ∨ k = w.heap.size := by
    intro k hk1
    simp only [roB, List.mem_append] at hk1 ⊢
    rcases hk1 with hk1 | hk1
    · rcases hk k hk1 with h2 | h2
      · exact .inl (.inr (.inl h2))
      · exact .inr h2
    · rw [hus] at hk1
      simp only [List.flatMap_append, List.flatMap_cons, List.flatMap_nil, List.append_nil, hbx, List.mem_append] at hk1
      rcases hk1 with h2 | h2
      · exact .inl (.inr (.inr h2))
      · exact .inl (.inl h2)
  have hBn : B ∉ acB al' us := fun hb => by
    rcases hin B hb with (h2 | h2) | h2
    · exact h.nB (List.mem_append.2 (.inl h2))
    · exact h.nB (List.mem_append.2 (.inr h2))
    · have := h.lt; omega
  refine ⟨none, 0, us, al', cl', rfl, ?_, by rw [hR2, hus]; simp, ?_, fun k hk1 => ?_⟩
  · rw [hR1]
    exact ⟨c0, by rw [hp]; exact c1, c2, c3, c4, fz, Nat.lt_of_lt_of_le h.lt (Nat.le_trans hc.size hcs.size), by rw [hp]; exact FreshIn.nil _ _ _ _ _ _, hro.ch actL hcs (fun k hk1 e => hBn (e ▸ hk1)), by simpa [blkOf] using hBn, by simp [blkOf]⟩
  · refine (hc.mono (M := fun k => k = B ∨ k ∈ blkOf ap ∨ k ∈ blkOf al) (fun i hi => .inl (.inr (.inr hi)))).trans hcs (fun i hi => .inl (.inl hi))
  · simp only [blkOf, List.nil_append] at hk1
    rcases hin k hk1 with (h2 | h2) | h2
    · exact .inl (List.mem_append.2 (.inl h2))
    · exact .inl (List.mem_append.2 (.inr h2))
    · exact .inr (by omega)
end
end
section
open Go.Shelf Go.RowKit
def Tryd.lays197_ren : Go.Shelf.Ren := ⟨fun | 197 => 86 | 260 => 98 | n => n, fun | 9 => 9 | 21 => 21 | 3 => 3 | 4 => 4 | 5 => 5 | 105 => 90 | 119 => 96 | 0 => 0 | 46 => 97 | 139 => 100 | 138 => 99 | n => n, fun | 3 => 0 | 4 => 1 | n => n⟩
theorem Tryd.lays197 : Go.Proofs.Lays.n197 Tryd.prog Tryd.lays197_ren where
  mixed := by kernel_rfl
  f197 := Tryd.func86.trans (congrArg some (by kernel_rfl))
  f260 := Tryd.func98.trans (congrArg some (by kernel_rfl))
  t0 := Tryd.underlying0
  a0 := Tryd.isAgg0
  z0 := Tryd.sizeOf0
  v0 := Tryd.zeroValue0
  t3 := Tryd.underlying3
  a3 := Tryd.isAgg3
  z3 := Tryd.sizeOf3
  v3 := Tryd.zeroValue3
  t4 := Tryd.underlying4
  a4 := Tryd.isAgg4
  z4 := Tryd.sizeOf4
  v4 := Tryd.zeroValue4
  t5 := Tryd.underlying5
  a5 := Tryd.isAgg5
  z5 := Tryd.sizeOf5
  v5 := Tryd.zeroValue5
  t9 := Tryd.underlying9
  a9 := Tryd.isAgg9
  z9 := Tryd.sizeOf9
  v9 := Tryd.zeroValue9
  t21 := Tryd.underlying21
  a21 := Tryd.isAgg21
  z21 := Tryd.sizeOf21
  v21 := Tryd.zeroValue21
  t46 := Tryd.underlying97
  a46 := Tryd.isAgg97
  z46 := Tryd.sizeOf97
  v46 := Tryd.zeroValue97
  t105 := Tryd.underlying90
  a105 := Tryd.isAgg90
  z105 := Tryd.sizeOf90
  v105 := Tryd.zeroValue90
  t119 := Tryd.underlying96
  a119 := Tryd.isAgg96
  z119 := Tryd.sizeOf96
  t138 := Tryd.underlying99
  a138 := Tryd.isAgg99
  z138 := Tryd.sizeOf99
  v138 := Tryd.zeroValue99
  t139 := Tryd.underlying100
  a139 := Tryd.isAgg100
  z139 := Tryd.sizeOf100
  v139 := Tryd.zeroValue100
  g3 := by kernel_rfl
  g4 := by kernel_rfl
/-- The two tables of utf8, in blocks that lie there. -/
structure UT (w : World) : Prop where
  tabs : Lib.Utf8Tabs 0 1 w
  l1 : 0 < w.heap.size
  l2 : 1 < w.heap.size
theorem UT.ch {M : Nat → Prop} {w w' : World} (h : UT w) (hc : Ch M w w') (h1 : ¬ M 0) (h2 : ¬ M 1) : UT w' := by
  obtain ⟨⟨a, b⟩, l1, l2⟩ := h
  refine ⟨⟨fun c hcc => (hc.cell (p := ⟨_, c, none⟩) l1 h1).trans (a c hcc), fun i hi => ⟨(hc.cell (p := ⟨_, 2 * i, none⟩) l2 h2).trans (b i hi).1, (hc.cell (p := ⟨_, 2 * i + 1, none⟩) l2 h2).trans (b i hi).2⟩⟩, Nat.lt_of_lt_of_le l1 hc.size, Nat.lt_of_lt_of_le l2 hc.size⟩
theorem UT.keep {w w' : World} (h : UT w) (hb : Below w.heap.size w w') : UT w' := h.ch (M := fun _ => False) (Ch.of_below hb) (fun h => h) (fun h => h)
theorem decRune_c (s : ByteArray) (w : World) (h : UT w) : Calls Tryd.prog 86 #[.string s] w fun e w' => e = .returned (.tuple #[.int .i32 (Lib.decodeGo s).1, .int .i64 (Lib.decodeGo s).2]) ∧ Below w.heap.size w w' :=
  Any.utf8_DecodeRuneInString Tryd.lays197 s w h.tabs
theorem mayF_bd {l : List UInt8} {b : Nat} (h : mayF l b = true) : lowOf l ≤ b ∧ b ≤ highOf l := by
  simpa [mayF] using h
theorem dec_rune {l : List UInt8} {b : UInt8} (h : begB l = true) (hm : mayF l b.toNat = true) (hl : l.length + 1 = utfLen (l.headD 0).toNat) : (((Lib.decodeGo ⟨(l ++ [b]).toArray⟩).1 : Nat) : Int) = rnV (l ++ [b]) := by
  obtain ⟨h1, h2, h3⟩ := begB_iff.1 h
  have hs : ∀ xs : List UInt8, (⟨xs.toArray⟩ : ByteArray).size = xs.length := fun xs => rfl
  have hd : Lib.decodeGo ⟨(l ++ [b]).toArray⟩ = Utf8.decode ⟨(l ++ [b]).toArray⟩ 0 := by
    unfold Lib.decodeGo
    rw [if_neg (by rw [hs]; simp)]
  rw [hd, Lib.decode_at, hs]
  have hm' := mayF_bd hm
  match l, h1, h2, h3, hl, hm' with
  | [a], _, _, _, hl, hm' =>
    rw [lowOf_one, highOf_one] at hm'
    simp only [List.headD_cons, List.length_cons, List.length_nil] at hl
    have ha : 194 ≤ a.toNat ∧ a.toNat < 224 := by unfold utfLen at hl; (repeat' split at hl) <;> omega
    have hb : 128 ≤ b.toNat ∧ b.toNat ≤ 191 := by (repeat' split at hm') <;> omega
    show (((Lib.decodeN 2 a.toNat b.toNat 0 0).1 : Nat) : Int) = (a.toNat - 192) * 64 + (b.toNat - 128)
    unfold Lib.decodeN
    rw [if_neg (by omega), if_pos (by omega), if_pos (by omega)]
    show ((a.toNat % 32 * 64 + b.toNat % 64 : Nat) : Int) = _
    omega
  | [a, c], _, _, h3, hl, hm' =>
    have h4 := mayF_bd (h3 1 (by omega) (by simp))
    simp only [List.take_succ_cons, List.take_zero, List.getD_cons_succ, List.getD_cons_zero] at h4
    rw [lowOf_one, highOf_one] at h4
    simp only [List.headD_cons, List.length_cons, List.length_nil] at hl
    have hb : 128 ≤ b.toNat ∧ b.toNat ≤ 191 := hm'
    have ha : 224 ≤ a.toNat ∧ a.toNat < 240 := by unfold utfLen at hl; (repeat' split at hl) <;> omega
    have hc : 128 ≤ c.toNat ∧ c.toNat ≤ 191 ∧ (a.toNat = 224 → 160 ≤ c.toNat) ∧ (a.toNat = 237 → c.toNat ≤ 159) := by (repeat' split at h4) <;> omega
    show (((Lib.decodeN 3 a.toNat c.toNat b.toNat 0).1 : Nat) : Int) = ((a.toNat - 224) * 64 + (c.toNat - 128)) * 64 + (b.toNat - 128)
    unfold Lib.decodeN
    rw [if_neg (by omega), if_neg (by omega), if_pos (by omega), if_pos (by omega)]
    show ((a.toNat % 16 * 4096 + c.toNat % 64 * 64 + b.toNat % 64 : Nat) : Int) = _
    omega
  | [a, c, d], _, _, h3, hl, hm' =>
    have h4 := mayF_bd (h3 1 (by omega) (by simp))
    have h5 := mayF_bd (h3 2 (by omega) (by simp))
    simp only [List.take_succ_cons, List.take_zero, List.getD_cons_succ, List.getD_cons_zero] at h4 h5
    rw [lowOf_one, highOf_one] at h4
    simp only [List.headD_cons, List.length_cons, List.length_nil] at hl
    have hb : 128 ≤ b.toNat ∧ b.toNat ≤ 191 := hm'
    have hdd : 128 ≤ d.toNat ∧ d.toNat ≤ 191 := h5
    have ha : 240 ≤ a.toNat ∧ a.toNat ≤ 244 := by unfold utfLen at hl; (repeat' split at hl) <;> omega
    have hc : 128 ≤ c.toNat ∧ c.toNat ≤ 191 ∧ (a.toNat = 240 → 144 ≤ c.toNat) ∧ (a.toNat = 244 → c.toNat ≤ 143) := by (repeat' split at h4) <;> omega
    show (((Lib.decodeN 4 a.toNat c.toNat d.toNat b.toNat).1 : Nat) : Int) = (((a.toNat - 240) * 64 + (c.toNat - 128)) * 64 + (d.toNat - 128)) * 64 + (b.toNat - 128)
    unfold Lib.decodeN
    rw [if_neg (by omega), if_neg (by omega), if_neg (by omega), if_pos (by omega), if_pos (by omega)]
    show ((a.toNat % 8 * 262144 + c.toNat % 64 * 4096 + d.toNat % 64 * 64 + b.toNat % 64 : Nat) : Int) = _
    omega
  | a :: c :: d :: e :: l, _, _, _, hl, _ =>
    exfalso
    simp only [List.length_cons] at hl
    have : ∀ n, utfLen n ≤ 4 := fun n => by unfold utfLen; (repeat' split) <;> omega
    have := this ((a :: c :: d :: e :: l).headD 0).toNat
    omega
end
section
open Go.RowKit

section
variable {p : PV} {b : UInt8} {n : Nat}
theorem cs1 (hn : b.toNat = n) (h : n = 27) : cstep p b = (pst 1, []) := by subst hn; unfold cstep; rw [if_pos h]
theorem cs2 (hn : b.toNat = n) (h : ¬ n = 27) (h2 : ctl n = true) : cstep p b = (p, [⟨2, n, false, [], e0⟩]) := by subst hn; unfold cstep; rw [if_neg h, if_pos h2]
theorem cs3 (hn : b.toNat = n) (h2 : ctl n = false) (h3 : 48 ≤ n ∧ n ≤ 57) : cstep p b = ({ p with args := p.args.dropLast ++ [min 9999 (max 0 (lastA p.args) * 10 + ((n : Int) - 48))] }, []) := by subst hn; unfold cstep; rw [if_neg (by omega), if_neg (by rw [h2]; simp), if_pos h3]
theorem cs4 (hn : b.toNat = n) (h2 : ctl n = false) (h3 : n = 59 ∧ p.args.length < 8) : cstep p b = ({ p with args := p.args ++ [-1] }, []) := by subst hn; unfold cstep; rw [if_neg (by omega), if_neg (by rw [h2]; simp), if_neg (by omega), if_pos h3]
theorem cs5 (hn : b.toNat = n) (h2 : ctl n = false) (h3 : n = 63 ∧ p.args = [-1] ∧ p.priv = false) : cstep p b = ({ p with priv := true }, []) := by subst hn; unfold cstep; rw [if_neg (by omega), if_neg (by rw [h2]; simp), if_neg (by omega), if_neg (by omega), if_pos h3]
theorem cs6 (hn : b.toNat = n) (h2 : ctl n = false) (h3 : 64 ≤ n ∧ n ≤ 126) : cstep p b = (pz, [⟨4, n, p.priv, p.args, e0⟩]) := by subst hn; unfold cstep; rw [if_neg (by omega), if_neg (by rw [h2]; simp), if_neg (by omega), if_neg (by omega), if_neg (by omega), if_pos h3]
theorem cs7 (hn : b.toNat = n) (h : ¬ n = 27) (h2 : ctl n = false) (h3 : ¬ (48 ≤ n ∧ n ≤ 57)) (h4 : ¬ (n = 59 ∧ p.args.length < 8)) (h5 : ¬ (n = 63 ∧ p.args = [-1] ∧ p.priv = false)) (h6 : ¬ (64 ≤ n ∧ n ≤ 126)) : cstep p b = (pst 3, []) := by
  subst hn; unfold cstep; rw [if_neg h, if_neg (by rw [h2]; simp), if_neg h3, if_neg h4, if_neg h5, if_neg h6]
end
theorem set_last {xs : List Int} {m : Nat} (hm : xs.length = m + 1) (v : Int) : xs.set m v = xs.dropLast ++ [v] := by
  have h1 : xs ≠ [] := by intro h; rw [h] at hm; simp at hm
  obtain ⟨ys, y, rfl⟩ : ∃ ys y, xs = ys ++ [y] := ⟨xs.dropLast, xs.getLast h1, (List.dropLast_concat_getLast h1).symm⟩
  have : ys.length = m := by simpa using hm
  subst this
  simp
theorem last_at {xs : List Int} {m : Nat} (hm : xs.length = m + 1) : lastA xs = xs[m]'(by omega) := by
  have h1 : xs ≠ [] := by intro h; rw [h] at hm; simp at hm
  unfold lastA
  rw [List.getLastD_eq_getLast?, List.getLast?_eq_some_getLast h1, Option.getD_some, List.getLast_eq_getElem]
  congr 1
  omega
theorem one_at {xs : List Int} (h1 : xs.length = 1) (h2 : xs[0]'(by omega) = -1) : xs = [-1] := by
  match xs, h1, h2 with
  | [x], _, h2 => simpa using h2
theorem u8_in {n : Int} (h1 : 0 ≤ n) (h2 : n < 256) : IntKind.u8.wrap n = n := by
  unfold IntKind.wrap
  simp [IntKind.bits, IntKind.signed]
  omega
theorem PR.dig {B lo g m : Nat} {p : PV} {al : Option Addr} {cp cl : Nat} {L : List ActA} {w : World} {R : PV × List AV} {V v : Int} (h : PS B lo p (some ⟨g, 0, none⟩) cp L al cl w) (hm : m < p.args.length) (hv : V = v) (hR1 : R.1 = { p with args := p.args.set m v }) (hR2 : R.2 = []) :
    PR B lo R (some ⟨g, 0, none⟩) L al w (.returned (.slice al L.length cl)) (w.setCell ⟨g, m, none⟩ (.int .i64 V)).drew := by
  subst hv
  have hc : Ch (fun k => k = g) w (w.setCell ⟨g, m, none⟩ (.int .i64 V)) := Ch.set1 _ _ _ _
  have hc1 : Ch (· ∈ blkOf (some (⟨g, 0, none⟩ : Addr))) w (w.setCell ⟨g, m, none⟩ (.int .i64 V)) := hc.mono (fun i hi => .inl (by simp [blkOf, hi]))
  have h1 := (h.arg hc1 (h.args.setI hm V) (by simp)).keep ((Below.refl _ _).drew)
  exact PR.arg h hR1 hR2 h1 ((hc1.drew).mono (fun i hi => .inl (.inr hi))) (fun k hk => .inl hk)
/-- A byte's result, seen from an earlier world. -/
theorem PR.base {B lo : Nat} {R : PV × List AV} {ap al : Option Addr} {L : List ActA} {w w1 w' : World} {e : Ending} (h : PR B lo R ap L al w1 e w') (hb : Below w.heap.size w w1) : PR B lo R ap L al w e w' := by
  obtain ⟨ap', cp', L', al', cl', h1, h2, h3, h4, h5⟩ := h
  refine ⟨ap', cp', L', al', cl', h1, h2, h3, (Ch.of_below hb).trans h4 (fun i hi => .inl hi), fun k hk => ?_⟩
  rcases h5 k hk with h6 | h6
  · exact .inl h6
  · have := hb.size
    exact .inr (by omega)
set_option maxRecDepth 100000 in
set_option maxHeartbeats 16000000 in
theorem csi_c (B lo : Nat) (p : PV) (ap al : Option Addr) (cp cl : Nat) (L : List ActA) (b : UInt8) (w : World) (h : PS B lo p ap cp L al cl w) (hL : L.length ≤ 1048576) (hlo : lo ≤ w.heap.size)
    (hs : p.state = 2) (hA : argsB p.args = true) (hT : p.text = e0) (hU : p.utf = e0) :
    Calls Tryd.prog 70 #[.pointer (some ⟨B, 0, none⟩), .slice al L.length cl, .int .u8 b.toNat] w (PR B lo (cstep p b) ap L al w) := by
  obtain ⟨iA, hA, hA0, hA1, hA2⟩ := info_parts Tryd.infoAction
  obtain ⟨iI, hI, hI0, hI1, hI2⟩ := info_parts Tryd.infoInt
  have HP := Lib.hid h
  have k_0 : w.cell? ⟨B, 0, none⟩ = some (.int .i64 2) := by rw [h.c0, hs]
  have k_2 : w.cell? ⟨B, 2, none⟩ = some (.bool p.priv) := h.c2
  have k_3 : w.cell? ⟨B, 3, none⟩ = some (.string ⟨#[]⟩) := by rw [h.c3, hT]
  have k_4 : w.cell? ⟨B, 4, none⟩ = some (.string ⟨#[]⟩) := by rw [h.c4, hU]
  have kf := h.fz
  have klt := h.lt
  have h256 : b.toNat < 256 := b.toNat_lt
  rename_i hAA
  simp only [argsB, Bool.and_eq_true, decide_eq_true_eq, List.all_eq_true] at hAA
  obtain ⟨⟨hl1, hl8⟩, hall⟩ := hAA
  obtain ⟨g, rfl, hg1, _, hg3, ho⟩ := h.args.block (by omega)
  obtain ⟨m, hm⟩ : ∃ m, p.args.length = m + 1 := ⟨p.args.length - 1, by omega⟩
  have k_1 : w.cell? ⟨B, 1, none⟩ = some (.slice (some ⟨g, 0, none⟩) (m + 1) cp) := by rw [h.c1, hm]
  have HLM := Lib.hid hm
  have HST := Lib.hid hs
  have HTX := Lib.hid hT
  have HUX := Lib.hid hU
  have hBg : ¬ B = g := fun e => h.nB (by simp [blkOf, e])
  have hgB : ¬ g = B := fun e => hBg e.symm
  have hlm : m < p.args.length := by omega
  obtain ⟨x, hx⟩ : ∃ x, p.args[m]'hlm = x := ⟨_, rfl⟩
  have a_m : w.cell? ⟨g, m, none⟩ = some (.int .i64 x) := by
    have := (h.args.sl (fun _ => rfl) : Sl intE 1 w (some ⟨g, 0, none⟩) p.args)
    obtain ⟨b1, o1, he, _, hc⟩ := this.at hlm
    cases he
    have h2 := hc m hlm 0 (by omega)
    simpa [intE, hx] using h2
  have gf : ∀ o, w.frozen? ⟨g, o, none⟩ = false := fun o => ho.frozenAt o
  have hxb : -1 ≤ x ∧ x ≤ 9999 := by
    rw [← hx]
    exact hall _ (List.getElem_mem _)
  obtain ⟨hx1, hx2⟩ := hxb
  have HX : Hid (lastA p.args = x) := Lib.hid (by rw [last_at hm]; exact hx)
  have HX0 : Hid (m = 0 → x = -1 → p.args = [-1]) := Lib.hid (fun h0 h1 => by
    subst h0
    exact one_at hm (by rw [hx]; exact h1))
  have HX1 : Hid (p.args = [-1] → m = 0 ∧ x = -1) := Lib.hid (fun h0 => by
    have e1 : m = 0 := by rw [h0] at hm; simp at hm; omega
    subst e1
    refine ⟨rfl, ?_⟩
    rw [← hx]
    simp [h0])
  have hm7 : m ≤ 7 := by omega
  clear h ho hall hs hT hU hx hl1 hl8 hm
  obtain ⟨n, hn⟩ : ∃ n, b.toNat = n := ⟨_, rfl⟩
  rw [hn] at h256 ⊢
  have HN := Lib.hid hn
  clear hn
  obtain ⟨Gr, hG⟩ : ∃ G, cstep p b = G := ⟨_, rfl⟩
  have HGG := Lib.hid hG
  rw [hG]
  clear hG
  by_cases h27 : n = 27
  case pos =>
    have HR : Hid (Gr = (pst 1, [])) := Lib.hid (by rw [← HGG.out]; exact cs1 HN.out h27)
    have g27 : ((n : Int) == 27) = true := by subst h27; rfl
    clear h27
    go_enter Tryd.func70, Tryd.ntmps70
    go_wp2_with fail
    go_ret
    refine PR.cells (p' := pst 1) (ap' := none) (cp' := 0) HP.out ?hc (by rw [HR.out]) (by rw [HR.out]) (HP.out.cells ?hc ?_ ?_ ?_ ?_ ?_ ?_ (.inr ⟨rfl, rfl, rfl⟩)) (.inr rfl)
    case hc => repeat (first | (with_reducible exact Ch.refl) | (with_reducible refine Ch.alloc ?_ _) | (with_reducible refine Ch.drew ?_) | (with_reducible refine Ch.setB ?_ _ _))
    all_goals first | (intro o; simp [go_sem, kf]; done) | (simp [go_sem, k_0, k_1, k_2, k_3, k_4, pst]; done)
  have g27 : ((n : Int) == 27) = false := beq_eq_false_iff_ne.2 (by omega)
  obtain ⟨c, hc⟩ : ∃ c, ctl n = c := ⟨_, rfl⟩
  have HCT : Hid (ctlI (n : Int) = c) := Lib.hid (by rw [ctl_eq]; exact hc)
  have HCC := Lib.hid hc
  clear hc
  cases c
  case true =>
    have HR : Hid (Gr = (p, [⟨2, n, false, [], e0⟩])) := Lib.hid (by rw [← HGG.out]; exact cs2 HN.out h27 HCC.out)
    go_enter Tryd.func70, Tryd.ntmps70
    go_upto_region 6 with (go_at_call 75; refine (isControl_c _ _).mono ?_; rw [HCT.out]; rintro e w' ⟨rfl, rfl⟩)
    have HSRC1 : Hid (Src Tryd.prog 5 28 (.slice (some ⟨w.heap.size, 0, none⟩) 1 1) [(⟨⟨2, n, false, [], e0⟩, none, 0⟩ : ActA)].length ([(⟨⟨2, n, false, [], e0⟩, none, 0⟩ : ActA)].flatMap actE) (w.alloc (.cells #[.int .i64 2, .int .i64 n, .bool false, .slice none 0 0, .string ⟨#[]⟩] 46))) := Lib.hid (Src.ofBox (enc := actE) Tryd.underlying28 (fun _ => rfl) actOne (⟨⟨2, n, false, [], e0⟩, none, 0⟩ : ActA) _ _ (by first | rfl | simp [actE]) _ rfl)
    have HRO1 : Hid (ActO lo L al cl (w.alloc (.cells #[.int .i64 2, .int .i64 n, .bool false, .slice none 0 0, .string ⟨#[]⟩] 46))) := Lib.hid (HP.out.ro.keep actL ((Below.refl _ _).alloc (Nat.le_refl _) _))
    go_wp2_with (at_builtin; refine wpList_append_ch (.tmp 27) (.tmp 31) 28 28 lo 46 iA (.agg #[.int .i64 0, .int .i64 0, .bool false, .slice none 0 0, .string ⟨#[]⟩]) 5 64 Tryd.underlying28 hA hA0 hA1 hA2 rfl (by decide) al L.length cl L HRO1.out.row (.slice (some ⟨w.heap.size, 0, none⟩) 1 1) [(⟨⟨2, n, false, [], e0⟩, none, 0⟩ : ActA)] HSRC1.out (by simp; omega) (by simp; omega) rfl rfl rfl rfl ?_)
    intro a1 c1 w1 us1 hus hf hc hk
    have HUS1 := hus
    have HF1 := Lib.hid hf
    have HC1 : Hid (Ch (· ∈ blkOf al) w w1) := Lib.hid ((Ch.refl.alloc _).trans hc (fun i hi => .inl hi))
    have HK1 : Hid (∀ j ∈ blkOf a1, j ∈ blkOf al ∨ j = (w.alloc (.cells #[.int .i64 2, .int .i64 n, .bool false, .slice none 0 0, .string ⟨#[]⟩] 46)).heap.size) := Lib.hid (fun j hj => by simpa using hk j hj)
    have HCA1 := Lib.hid hc
    clear hus hf hc hk
    go_wp2_with fail
    go_ret
    exact PR.push (p' := p) (ap' := some ⟨g, 0, none⟩) (cp' := cp) (w1 := w.alloc (.cells #[.int .i64 2, .int .i64 n, .bool false, .slice none 0 0, .string ⟨#[]⟩] 46)) HP.out (x := ⟨⟨2, n, false, [], e0⟩, none, 0⟩) rfl HUS1.out HK1.out (by simp) (HC1.out.mono (fun i hi => .inl (.inr hi))) (by rw [HR.out]) (by rw [HR.out]; try rfl) ((HP.out.keep ((Below.refl _ _).alloc (Nat.le_refl _) (.cells #[.int .i64 2, .int .i64 n, .bool false, .slice none 0 0, .string ⟨#[]⟩] 46))).push ⟨rfl, rfl, rfl⟩ HUS1.out HF1.out HCA1.out HK1.out) (.inl rfl)
  by_cases h3 : 48 ≤ n ∧ n ≤ 57
  case pos =>
    have HR : Hid (Gr = ({ p with args := p.args.dropLast ++ [min 9999 (max 0 x * 10 + ((n : Int) - 48))] }, [])) := Lib.hid (by rw [← HGG.out, cs3 HN.out HCC.out h3, HX.out])
    obtain ⟨h31, h32⟩ := h3
    have g31 : (48 : Int) ≤ (n : Int) := by omega
    have g32 : (n : Int) ≤ 57 := by omega
    obtain ⟨y, hy⟩ : ∃ y, max 0 x = y := ⟨_, rfl⟩
    have hy0 : 0 ≤ y := by omega
    have hy1 : y ≤ 9999 := by omega
    rw [hy] at HR
    have HY := Lib.hid hy
    clear h31 h32 hy
    go_enter Tryd.func70, Tryd.ntmps70
    go_upto_region 8 with (go_at_call 75; refine (isControl_c _ _).mono ?_; rw [HCT.out]; rintro e w' ⟨rfl, rfl⟩)
    have hS0 : w.cell? ⟨B, 1, none⟩ = some (.slice (some ⟨g, 0, none⟩) (m + 1) cp) ∧ w.cell? ⟨g, m, none⟩ = some (.int .i64 x) := ⟨k_1, a_m⟩
    have em : (m : Int) < (m : Int) + 1 := by omega
    refine wp_region_G (fun w' => w'.cell? ⟨B, 1, none⟩ = some (.slice (some ⟨g, 0, none⟩) (m + 1) cp) ∧ w'.cell? ⟨g, m, none⟩ = some (.int .i64 x)) (fun i => i == 20) (by kernel_rfl) hS0 ?_
    refine wpAnyG_takeW (i := 0) (v := ?_) rfl (by kernel_rfl) (by kernel_rfl) (by kernel_rfl) (fun _ _ _ h => h) (Or.inl ⟨by rfl, ?_⟩) ?_
    rotate_left
    · intro w' hSw
      go_simp
      try (with_reducible rfl)
    try simp only [Act.put, List.getElem_toArray, List.getElem_cons_zero, List.getElem_cons_succ, List.setIfInBounds_toArray, List.set_cons_zero, List.set_cons_succ]
    refine wpAnyG_takeW (i := 1) (v := ?_) rfl (by kernel_rfl) (by kernel_rfl) (by kernel_rfl) (fun _ _ _ h => h) (Or.inl ⟨by rfl, ?_⟩) ?_
    rotate_left
    · intro w' hSw
      go_simp
      try (with_reducible rfl)
    try simp only [Act.put, List.getElem_toArray, List.getElem_cons_zero, List.getElem_cons_succ, List.setIfInBounds_toArray, List.set_cons_zero, List.set_cons_succ]
    refine wpAnyG_takeW (i := 2) (v := ?_) rfl (by kernel_rfl) (by kernel_rfl) (by kernel_rfl) (fun _ _ _ h => h) (Or.inl ⟨by rfl, ?_⟩) ?_
    rotate_left
    · intro w' hSw
      go_simp
      try (with_reducible rfl)
    try simp only [Act.put, List.getElem_toArray, List.getElem_cons_zero, List.getElem_cons_succ, List.setIfInBounds_toArray, List.set_cons_zero, List.set_cons_succ]
    refine wpAnyG_take (i := 3) (v := ?_) rfl (by kernel_rfl) (by kernel_rfl) (by kernel_rfl) (by kernel_rfl) (fun _ _ _ h => h) hS0 (Or.inl ⟨by rfl, ?_⟩) ?_
    rotate_left
    · intro w' hSw
      obtain ⟨s0, s1⟩ := hSw
      go_simp
      try (with_reducible rfl)
    try simp only [Act.put, List.getElem_toArray, List.getElem_cons_zero, List.getElem_cons_succ, List.setIfInBounds_toArray, List.set_cons_zero, List.set_cons_succ]
    refine wpAnyG_takeW (i := 4) (v := ?_) rfl (by kernel_rfl) (by kernel_rfl) (by kernel_rfl) (fun _ _ _ h => h) (Or.inl ⟨by rfl, ?_⟩) ?_
    rotate_left
    · intro w' hSw
      go_simp
      try (with_reducible rfl)
    try simp only [Act.put, List.getElem_toArray, List.getElem_cons_zero, List.getElem_cons_succ, List.setIfInBounds_toArray, List.set_cons_zero, List.set_cons_succ]
    refine wpAnyG_takeW (i := 5) (v := ?_) rfl (by kernel_rfl) (by kernel_rfl) (by kernel_rfl) (fun _ _ _ h => h) (Or.inl ⟨by rfl, ?_⟩) ?_
    rotate_left
    · intro w' hSw
      go_simp
      try (with_reducible rfl)
    try simp only [Act.put, List.getElem_toArray, List.getElem_cons_zero, List.getElem_cons_succ, List.setIfInBounds_toArray, List.set_cons_zero, List.set_cons_succ]
    refine wpAnyG_takeW (i := 6) (v := ?_) rfl (by kernel_rfl) (by kernel_rfl) (by kernel_rfl) (fun _ _ _ h => h) (Or.inl ⟨by rfl, ?_⟩) ?_
    rotate_left
    · intro w' hSw
      go_simp
      try (with_reducible rfl)
    try simp only [Act.put, List.getElem_toArray, List.getElem_cons_zero, List.getElem_cons_succ, List.setIfInBounds_toArray, List.set_cons_zero, List.set_cons_succ]
    refine wpAnyG_takeW (i := 7) (v := ?_) rfl (by kernel_rfl) (by kernel_rfl) (by kernel_rfl) (fun _ _ _ h => h) (Or.inl ⟨by rfl, ?_⟩) ?_
    rotate_left
    · intro w' hSw
      go_simp
      try (with_reducible rfl)
    try simp only [Act.put, List.getElem_toArray, List.getElem_cons_zero, List.getElem_cons_succ, List.setIfInBounds_toArray, List.set_cons_zero, List.set_cons_succ]
    refine wpAnyG_take (i := 8) (v := ?_) rfl (by kernel_rfl) (by kernel_rfl) (by kernel_rfl) (by kernel_rfl) (fun _ _ _ h => h) hS0 (Or.inl ⟨by rfl, ?_⟩) ?_
    rotate_left
    · intro w' hSw
      obtain ⟨s0, s1⟩ := hSw
      go_simp
      try (with_reducible rfl)
    try simp only [Act.put, List.getElem_toArray, List.getElem_cons_zero, List.getElem_cons_succ, List.setIfInBounds_toArray, List.set_cons_zero, List.set_cons_succ]
    refine wpAnyG_takeW (i := 9) (v := ?_) rfl (by kernel_rfl) (by kernel_rfl) (by kernel_rfl) (fun _ _ _ h => h) (Or.inl ⟨by rfl, ?_⟩) ?_
    rotate_left
    · intro w' hSw
      go_simp
      try (with_reducible rfl)
    try simp only [Act.put, List.getElem_toArray, List.getElem_cons_zero, List.getElem_cons_succ, List.setIfInBounds_toArray, List.set_cons_zero, List.set_cons_succ]
    refine wpAnyG_takeW (i := 10) (v := ?_) rfl (by kernel_rfl) (by kernel_rfl) (by kernel_rfl) (fun _ _ _ h => h) (Or.inl ⟨by rfl, ?_⟩) ?_
    rotate_left
    · intro w' hSw
      go_simp
      try (with_reducible rfl)
    try simp only [Act.put, List.getElem_toArray, List.getElem_cons_zero, List.getElem_cons_succ, List.setIfInBounds_toArray, List.set_cons_zero, List.set_cons_succ]
    refine wpAnyG_take (i := 11) (v := ?_) rfl (by kernel_rfl) (by kernel_rfl) (by kernel_rfl) (by kernel_rfl) (fun _ _ _ h => h) hS0 (Or.inl ⟨by rfl, ?_⟩) ?_
    rotate_left
    · intro w' hSw
      obtain ⟨s0, s1⟩ := hSw
      go_simp
      try (with_reducible rfl)
    try simp only [Act.put, List.getElem_toArray, List.getElem_cons_zero, List.getElem_cons_succ, List.setIfInBounds_toArray, List.set_cons_zero, List.set_cons_succ]
    refine wpAnyG_takeW (i := 12) (v := ?_) rfl (by kernel_rfl) (by kernel_rfl) (by kernel_rfl) (fun _ _ _ h => h) (Or.inl ⟨by rfl, ?_⟩) ?_
    rotate_left
    · intro w' hSw
      go_simp
      try (with_reducible rfl)
    try simp only [Act.put, List.getElem_toArray, List.getElem_cons_zero, List.getElem_cons_succ, List.setIfInBounds_toArray, List.set_cons_zero, List.set_cons_succ]
    refine wpAnyG_takeW (i := 13) (v := ?_) rfl (by kernel_rfl) (by kernel_rfl) (by kernel_rfl) (fun _ _ _ h => h) (Or.inl ⟨by rfl, ?_⟩) ?_
    rotate_left
    · intro w' hSw
      go_simp
      try (with_reducible rfl)
    try simp only [Act.put, List.getElem_toArray, List.getElem_cons_zero, List.getElem_cons_succ, List.setIfInBounds_toArray, List.set_cons_zero, List.set_cons_succ]
    refine wpAnyG_takeW (i := 14) (v := ?_) rfl (by kernel_rfl) (by kernel_rfl) (by kernel_rfl) (fun _ _ _ h => h) (Or.inl ⟨by rfl, ?_⟩) ?_
    rotate_left
    · intro w' hSw
      go_simp
      try (with_reducible rfl)
    try simp only [Act.put, List.getElem_toArray, List.getElem_cons_zero, List.getElem_cons_succ, List.setIfInBounds_toArray, List.set_cons_zero, List.set_cons_succ]
    refine wpAnyG_takeW (i := 15) (v := ?_) rfl (by kernel_rfl) (by kernel_rfl) (by kernel_rfl) (fun _ _ _ h => h) (Or.inl ⟨by rfl, ?_⟩) ?_
    rotate_left
    · intro w' hSw
      go_simp
      try (with_reducible rfl)
    try simp only [Act.put, List.getElem_toArray, List.getElem_cons_zero, List.getElem_cons_succ, List.setIfInBounds_toArray, List.set_cons_zero, List.set_cons_succ]
    refine wpAnyG_takeW (i := 16) (v := ?_) rfl (by kernel_rfl) (by kernel_rfl) (by kernel_rfl) (fun _ _ _ h => h) (Or.inl ⟨by rfl, ?_⟩) ?_
    rotate_left
    · intro w' hSw
      go_simp
      try (with_reducible rfl)
    try simp only [Act.put, List.getElem_toArray, List.getElem_cons_zero, List.getElem_cons_succ, List.setIfInBounds_toArray, List.set_cons_zero, List.set_cons_succ]
    refine wpAnyG_takeW (i := 17) (v := ?_) rfl (by kernel_rfl) (by kernel_rfl) (by kernel_rfl) (fun _ _ _ h => h) (Or.inl ⟨by rfl, ?_⟩) ?_
    rotate_left
    · intro w' hSw
      go_simp
      try (with_reducible rfl)
    try simp only [Act.put, List.getElem_toArray, List.getElem_cons_zero, List.getElem_cons_succ, List.setIfInBounds_toArray, List.set_cons_zero, List.set_cons_succ]
    refine wpAnyG_takeW (i := 18) (v := ?_) rfl (by kernel_rfl) (by kernel_rfl) (by kernel_rfl) (fun _ _ _ h => h) (Or.inl ⟨by rfl, ?_⟩) ?_
    rotate_left
    · intro w' hSw
      go_simp
      try (with_reducible rfl)
    try simp only [Act.put, List.getElem_toArray, List.getElem_cons_zero, List.getElem_cons_succ, List.setIfInBounds_toArray, List.set_cons_zero, List.set_cons_succ]
    refine wpAnyG_takeW (i := 19) (v := ?_) rfl (by kernel_rfl) (by kernel_rfl) (by kernel_rfl) (fun _ _ _ h => h) (Or.inl ⟨by rfl, ?_⟩) ?_
    rotate_left
    · intro w' hSw
      go_simp
      try (with_reducible rfl)
    try simp only [Act.put, List.getElem_toArray, List.getElem_cons_zero, List.getElem_cons_succ, List.setIfInBounds_toArray, List.set_cons_zero, List.set_cons_succ]
    refine wpAnyG_one (i := 20) (by kernel_rfl) rfl hS0 (fun K' hK => ?_)
    simp only [List.getElem_toArray, List.getElem_cons_zero, List.getElem_cons_succ]
    go_simp
    refine hK.out _ _ (Or.inl rfl) ?_
    clear hK K'
    try simp only [Act.put, List.getElem_toArray, List.getElem_cons_zero, List.getElem_cons_succ, List.setIfInBounds_toArray, List.set_cons_zero, List.set_cons_succ]
    refine wpAnyG_done (by kernel_rfl) ?_ _
    go_wp2_with fail
    all_goals
      have hset := set_last HLM.out (min 9999 (y * 10 + ((n : Int) - 48)))
      go_ret
      refine PR.dig HP.out hlm (v := min 9999 (y * 10 + ((n : Int) - 48))) ?_ (by rw [HR.out, hset]) (by rw [HR.out])
      have hyx := HY.out
      simp only [IntKind.wrap_i64, IntKind.wrap_u8] at *
      omega
  have HN27 := h27
  by_cases h59 : n = 59
  case pos =>
    have g59 : ((n : Int) == 59) = true := by subst h59; rfl
    have g57 : ¬ (n : Int) ≤ 57 := by omega
    have g48 : (48 : Int) ≤ (n : Int) := by omega
    have H59 := Lib.hid h59
    clear h59
    by_cases hm8 : m < 7
    case pos =>
      have HR : Hid (Gr = ({ p with args := p.args ++ [-1] }, [])) := Lib.hid (by rw [← HGG.out]; exact cs4 HN.out HCC.out ⟨H59.out, by rw [HLM.out]; omega⟩)
      have gm8 : (m : Int) + 1 < 8 := by omega
      go_enter Tryd.func70, Tryd.ntmps70
      go_upto_region 10 with (go_at_call 75; refine (isControl_c _ _).mono ?_; rw [HCT.out]; rintro e w' ⟨rfl, rfl⟩)
      have HSRC : Hid (Src Tryd.prog 1 23 (.slice (some ⟨w.heap.size, 0, none⟩) 1 1) [(-1 : Int)].length ([(-1 : Int)].flatMap intE) (w.alloc (.cells #[.int .i64 (-1)] 3))) := Lib.hid (Src.ofBox (enc := intE) Tryd.underlying23 (fun _ => rfl) (fun x u hu => by simp [intE] at hu; subst hu; rfl) (-1 : Int) _ _ (by first | rfl | simp [intE]) _ rfl)
      have hrow := HP.out.args.ch (M := fun _ => False) (Ch.of_below ((Below.refl _ _).alloc (Nat.le_refl _) (.cells #[.int .i64 (-1)] 3))) (fun _ _ h => h)
      rw [HLM.out] at hrow
      have HROW := Lib.hid hrow
      clear hrow
      go_wp2_with (at_builtin; refine wpList_append_ch (.tmp 75) (.tmp 76) 23 23 lo 3 iI (.int .i64 0) 1 8 Tryd.underlying23 hI hI0 hI1 hI2 rfl (by decide) (some ⟨g, 0, none⟩) (m + 1) cp p.args HROW.out (.slice (some ⟨w.heap.size, 0, none⟩) 1 1) [(-1 : Int)] HSRC.out (by rw [HLM.out]; simp; omega) (by simp; omega) rfl rfl rfl rfl ?_)
      intro a1 c1 w1 us hus hf hc hk
      have HUS := hus
      have HF := Lib.hid hf
      have HC1 : Hid (Ch (· ∈ blkOf (some (⟨g, 0, none⟩ : Addr))) w w1) := Lib.hid ((Ch.refl.alloc _).trans hc (fun i hi => .inl hi))
      have HK : Hid (∀ j ∈ blkOf a1, j ∈ blkOf (some (⟨g, 0, none⟩ : Addr)) ∨ w.heap.size ≤ j) := Lib.hid (fun j hj => by
        rcases hk j hj with h | h
        · exact .inl h
        · right; (try simp at h); omega)
      have q_1 : w1.cell? ⟨B, 1, none⟩ = some (.slice (some ⟨g, 0, none⟩) (m + 1) cp) := (HC1.out.cell (p := ⟨B, 1, none⟩) klt (by simpa [blkOf] using hBg)).trans k_1
      have qf : ∀ o, w1.frozen? ⟨B, o, none⟩ = false := fun o => (HC1.out.frozen (p := ⟨B, o, none⟩) klt (by simpa [blkOf] using hBg)).trans (kf o)
      clear hus hf hc hk
      go_wp2_with fail
      go_ret
      exact PR.arg (p' := { p with args := us }) HP.out (by rw [HR.out, HUS.out]) (by rw [HR.out]) (HP.out.arg2 HC1.out HF.out HK.out) ((HC1.out.mono (M := fun k => k = B ∨ k ∈ blkOf (some (⟨g, 0, none⟩ : Addr))) (fun i hi => .inl (.inr hi))).trans (Ch.set1 _ _ _ _) (fun i hi => .inl (.inl hi))) HK.out
    have gm8 : ¬ (m : Int) + 1 < 8 := by omega
    have n59 := H59.out
    have g31 : ¬ (n : Int) ≤ 57 := by omega
    have g63 : ((n : Int) == 63) = false := beq_eq_false_iff_ne.2 (by omega)
    have g64 : ¬ (64 : Int) ≤ (n : Int) := by omega
    have HH59 : Hid (¬ (n = 59 ∧ p.args.length < 8)) := Lib.hid (fun h => by rw [HLM.out] at h; omega)
    have HH63 : Hid (¬ (n = 63 ∧ p.args = [-1] ∧ p.priv = false)) := Lib.hid (fun h => by omega)
    have HH64 : Hid (¬ (64 ≤ n ∧ n ≤ 126)) := Lib.hid (by omega)
    clear n59
    have HR : Hid (Gr = (pst 3, [])) := Lib.hid (by rw [← HGG.out]; exact cs7 HN.out h27 HCC.out h3 HH59.out HH63.out HH64.out)
    go_enter Tryd.func70, Tryd.ntmps70
    go_wp2_with (go_at_call 75; refine (isControl_c _ _).mono ?_; rw [HCT.out]; rintro e w' ⟨rfl, rfl⟩)
    go_ret
    refine PR.cells (p' := pst 3) (ap' := none) (cp' := 0) HP.out ?hc (by rw [HR.out]) (by rw [HR.out]) (HP.out.cells ?hc ?_ ?_ ?_ ?_ ?_ ?_ (.inr ⟨rfl, rfl, rfl⟩)) (.inr rfl)
    case hc => repeat (first | (with_reducible exact Ch.refl) | (with_reducible refine Ch.alloc ?_ _) | (with_reducible refine Ch.drew ?_) | (with_reducible refine Ch.setB ?_ _ _))
    all_goals first | (intro o; simp [go_sem, kf]; done) | (simp [go_sem, k_0, k_1, k_2, k_3, k_4, pst]; done)
  have g59 : ((n : Int) == 59) = false := beq_eq_false_iff_ne.2 (by omega)
  by_cases h63 : n = 63
  case pos =>
    have g63 : ((n : Int) == 63) = true := by subst h63; rfl
    have g64 : ¬ (64 : Int) ≤ (n : Int) := by omega
    have g57 : ¬ (n : Int) ≤ 57 := by omega
    have HH64 : Hid (¬ (64 ≤ n ∧ n ≤ 126)) := Lib.hid (by omega)
    have HH59 : Hid (¬ (n = 59 ∧ p.args.length < 8)) := Lib.hid (fun h => by omega)
    have H63 := Lib.hid h63
    clear h63
    by_cases hm0 : m = 0
    case neg =>
      have gm0 : ((m : Int) == 0) = false := beq_eq_false_iff_ne.2 (by omega)
      have HH63 : Hid (¬ (n = 63 ∧ p.args = [-1] ∧ p.priv = false)) := Lib.hid (fun h => hm0 (HX1.out h.2.1).1)
      skip
      have HR : Hid (Gr = (pst 3, [])) := Lib.hid (by rw [← HGG.out]; exact cs7 HN.out h27 HCC.out h3 HH59.out HH63.out HH64.out)
      go_enter Tryd.func70, Tryd.ntmps70
      go_wp2_with (go_at_call 75; refine (isControl_c _ _).mono ?_; rw [HCT.out]; rintro e w' ⟨rfl, rfl⟩)
      go_ret
      refine PR.cells (p' := pst 3) (ap' := none) (cp' := 0) HP.out ?hc (by rw [HR.out]) (by rw [HR.out]) (HP.out.cells ?hc ?_ ?_ ?_ ?_ ?_ ?_ (.inr ⟨rfl, rfl, rfl⟩)) (.inr rfl)
      case hc => repeat (first | (with_reducible exact Ch.refl) | (with_reducible refine Ch.alloc ?_ _) | (with_reducible refine Ch.drew ?_) | (with_reducible refine Ch.setB ?_ _ _))
      all_goals first | (intro o; simp [go_sem, kf]; done) | (simp [go_sem, k_0, k_1, k_2, k_3, k_4, pst]; done)
    have gm0 : ((m : Int) == 0) = true := by subst hm0; rfl
    have a_0 : w.cell? ⟨g, 0, none⟩ = some (.int .i64 x) := by rw [← a_m, hm0]
    have HM0 := Lib.hid hm0
    clear hm0
    by_cases hxm : x = -1
    case neg =>
      have gx : (x == -1) = false := beq_eq_false_iff_ne.2 hxm
      have HH63 : Hid (¬ (n = 63 ∧ p.args = [-1] ∧ p.priv = false)) := Lib.hid (fun h => hxm (HX1.out h.2.1).2)
      skip
      have HR : Hid (Gr = (pst 3, [])) := Lib.hid (by rw [← HGG.out]; exact cs7 HN.out h27 HCC.out h3 HH59.out HH63.out HH64.out)
      go_enter Tryd.func70, Tryd.ntmps70
      go_wp2_with (go_at_call 75; refine (isControl_c _ _).mono ?_; rw [HCT.out]; rintro e w' ⟨rfl, rfl⟩)
      go_ret
      refine PR.cells (p' := pst 3) (ap' := none) (cp' := 0) HP.out ?hc (by rw [HR.out]) (by rw [HR.out]) (HP.out.cells ?hc ?_ ?_ ?_ ?_ ?_ ?_ (.inr ⟨rfl, rfl, rfl⟩)) (.inr rfl)
      case hc => repeat (first | (with_reducible exact Ch.refl) | (with_reducible refine Ch.alloc ?_ _) | (with_reducible refine Ch.drew ?_) | (with_reducible refine Ch.setB ?_ _ _))
      all_goals first | (intro o; simp [go_sem, kf]; done) | (simp [go_sem, k_0, k_1, k_2, k_3, k_4, pst]; done)
    have gx : (x == -1) = true := by subst hxm; rfl
    have HXM := Lib.hid hxm
    clear hxm
    obtain ⟨pv, hpv⟩ : ∃ b, p.priv = b := ⟨_, rfl⟩
    rw [hpv] at k_2
    have HPV := Lib.hid hpv
    clear hpv
    cases pv
    case true =>
      have HH63 : Hid (¬ (n = 63 ∧ p.args = [-1] ∧ p.priv = false)) := Lib.hid (fun h => by rw [HPV.out] at h; exact absurd h.2.2 (by simp))
      skip
      have HR : Hid (Gr = (pst 3, [])) := Lib.hid (by rw [← HGG.out]; exact cs7 HN.out h27 HCC.out h3 HH59.out HH63.out HH64.out)
      go_enter Tryd.func70, Tryd.ntmps70
      go_wp2_with (go_at_call 75; refine (isControl_c _ _).mono ?_; rw [HCT.out]; rintro e w' ⟨rfl, rfl⟩)
      go_ret
      refine PR.cells (p' := pst 3) (ap' := none) (cp' := 0) HP.out ?hc (by rw [HR.out]) (by rw [HR.out]) (HP.out.cells ?hc ?_ ?_ ?_ ?_ ?_ ?_ (.inr ⟨rfl, rfl, rfl⟩)) (.inr rfl)
      case hc => repeat (first | (with_reducible exact Ch.refl) | (with_reducible refine Ch.alloc ?_ _) | (with_reducible refine Ch.drew ?_) | (with_reducible refine Ch.setB ?_ _ _))
      all_goals first | (intro o; simp [go_sem, kf]; done) | (simp [go_sem, k_0, k_1, k_2, k_3, k_4, pst]; done)
    have HR : Hid (Gr = ({ p with priv := true }, [])) := Lib.hid (by rw [← HGG.out]; exact cs5 HN.out HCC.out ⟨H63.out, HX0.out HM0.out HXM.out, HPV.out⟩)
    go_enter Tryd.func70, Tryd.ntmps70
    go_wp2_with (go_at_call 75; refine (isControl_c _ _).mono ?_; rw [HCT.out]; rintro e w' ⟨rfl, rfl⟩)
    go_ret
    have hc : Ch (fun k => k = B) w (w.setCell ⟨B, 2, none⟩ (.bool true)) := Ch.set1 _ _ _ _
    refine PR.cells (p' := { p with priv := true }) (ap' := some ⟨g, 0, none⟩) (cp' := cp) HP.out hc (by rw [HR.out]) (by rw [HR.out]) (HP.out.cells hc ?_ ?_ ?_ ?_ ?_ ?_ (.inl ⟨rfl, rfl, rfl⟩)) (.inl rfl)
    all_goals first | (intro o; simp [go_sem, kf]; done) | (simp [go_sem, k_0, k_1, k_2, k_3, k_4, HST.out, HTX.out, HUX.out, HLM.out]; done)
  have g63 : ((n : Int) == 63) = false := beq_eq_false_iff_ne.2 (by omega)
  by_cases h64 : 64 ≤ n ∧ n ≤ 126
  case neg =>
    have HH63 : Hid (¬ (n = 63 ∧ p.args = [-1] ∧ p.priv = false)) := Lib.hid (fun h => h63 h.1)
    have HH59 : Hid (¬ (n = 59 ∧ p.args.length < 8)) := Lib.hid (fun h => h59 h.1)
    have HH64 := Lib.hid h64
    have g57 : ¬ ((48 : Int) ≤ (n : Int) ∧ (n : Int) ≤ 57) := by omega
    by_cases hlow : n < 48
    · have g48 : (n : Int) < 48 := by omega
      have g64 : (n : Int) < 64 := by omega
      clear hlow
      skip
      have HR : Hid (Gr = (pst 3, [])) := Lib.hid (by rw [← HGG.out]; exact cs7 HN.out h27 HCC.out h3 HH59.out HH63.out HH64.out)
      go_enter Tryd.func70, Tryd.ntmps70
      go_wp2_with (go_at_call 75; refine (isControl_c _ _).mono ?_; rw [HCT.out]; rintro e w' ⟨rfl, rfl⟩)
      go_ret
      refine PR.cells (p' := pst 3) (ap' := none) (cp' := 0) HP.out ?hc (by rw [HR.out]) (by rw [HR.out]) (HP.out.cells ?hc ?_ ?_ ?_ ?_ ?_ ?_ (.inr ⟨rfl, rfl, rfl⟩)) (.inr rfl)
      case hc => repeat (first | (with_reducible exact Ch.refl) | (with_reducible refine Ch.alloc ?_ _) | (with_reducible refine Ch.drew ?_) | (with_reducible refine Ch.setB ?_ _ _))
      all_goals first | (intro o; simp [go_sem, kf]; done) | (simp [go_sem, k_0, k_1, k_2, k_3, k_4, pst]; done)
    have g48 : (57 : Int) < (n : Int) := by omega
    by_cases hl4 : n < 64
    · have g64 : (n : Int) < 64 := by omega
      skip
      have HR : Hid (Gr = (pst 3, [])) := Lib.hid (by rw [← HGG.out]; exact cs7 HN.out h27 HCC.out h3 HH59.out HH63.out HH64.out)
      go_enter Tryd.func70, Tryd.ntmps70
      go_wp2_with (go_at_call 75; refine (isControl_c _ _).mono ?_; rw [HCT.out]; rintro e w' ⟨rfl, rfl⟩)
      go_ret
      refine PR.cells (p' := pst 3) (ap' := none) (cp' := 0) HP.out ?hc (by rw [HR.out]) (by rw [HR.out]) (HP.out.cells ?hc ?_ ?_ ?_ ?_ ?_ ?_ (.inr ⟨rfl, rfl, rfl⟩)) (.inr rfl)
      case hc => repeat (first | (with_reducible exact Ch.refl) | (with_reducible refine Ch.alloc ?_ _) | (with_reducible refine Ch.drew ?_) | (with_reducible refine Ch.setB ?_ _ _))
      all_goals first | (intro o; simp [go_sem, kf]; done) | (simp [go_sem, k_0, k_1, k_2, k_3, k_4, pst]; done)
    have g64 : (126 : Int) < (n : Int) := by omega
    skip
    have HR : Hid (Gr = (pst 3, [])) := Lib.hid (by rw [← HGG.out]; exact cs7 HN.out h27 HCC.out h3 HH59.out HH63.out HH64.out)
    go_enter Tryd.func70, Tryd.ntmps70
    go_wp2_with (go_at_call 75; refine (isControl_c _ _).mono ?_; rw [HCT.out]; rintro e w' ⟨rfl, rfl⟩)
    go_ret
    refine PR.cells (p' := pst 3) (ap' := none) (cp' := 0) HP.out ?hc (by rw [HR.out]) (by rw [HR.out]) (HP.out.cells ?hc ?_ ?_ ?_ ?_ ?_ ?_ (.inr ⟨rfl, rfl, rfl⟩)) (.inr rfl)
    case hc => repeat (first | (with_reducible exact Ch.refl) | (with_reducible refine Ch.alloc ?_ _) | (with_reducible refine Ch.drew ?_) | (with_reducible refine Ch.setB ?_ _ _))
    all_goals first | (intro o; simp [go_sem, kf]; done) | (simp [go_sem, k_0, k_1, k_2, k_3, k_4, pst]; done)
  have HR : Hid (Gr = (pz, [⟨4, n, p.priv, p.args, e0⟩])) := Lib.hid (by rw [← HGG.out]; exact cs6 HN.out HCC.out h64)
  obtain ⟨h641, h642⟩ := h64
  have g57 : ¬ (n : Int) ≤ 57 := by omega
  have g641 : (64 : Int) ≤ (n : Int) := by omega
  have g642 : (n : Int) ≤ 126 := by omega
  go_enter Tryd.func70, Tryd.ntmps70
  go_upto_region 14 with (go_at_call 75; refine (isControl_c _ _).mono ?_; rw [HCT.out]; rintro e w' ⟨rfl, rfl⟩)
  have hS0 : w.cell? ⟨B, 2, none⟩ = some (.bool p.priv) ∧ w.cell? ⟨B, 1, none⟩ = some (.slice (some ⟨g, 0, none⟩) (m + 1) cp) := ⟨k_2, k_1⟩
  have hwn : IntKind.i64.wrap (n : Int) = n := IntWalk.i64_in _ ⟨by omega, by omega⟩
  refine wp_region_G (fun w' => w'.cell? ⟨B, 2, none⟩ = some (.bool p.priv) ∧ w'.cell? ⟨B, 1, none⟩ = some (.slice (some ⟨g, 0, none⟩) (m + 1) cp)) (fun i => false) (by kernel_rfl) hS0 ?_
  refine wpAnyG_takeW (i := 0) (v := ?_) rfl (by kernel_rfl) (by kernel_rfl) (by kernel_rfl) (fun _ _ _ h => h) (Or.inl ⟨by rfl, ?_⟩) ?_
  rotate_left
  · intro w' hSw
    go_simp
    try (with_reducible rfl)
  try simp only [Act.put, List.getElem_toArray, List.getElem_cons_zero, List.getElem_cons_succ, List.setIfInBounds_toArray, List.set_cons_zero, List.set_cons_succ]
  refine wpAnyG_takeW (i := 1) (v := ?_) rfl (by kernel_rfl) (by kernel_rfl) (by kernel_rfl) (fun _ _ _ h => h) (Or.inl ⟨by rfl, ?_⟩) ?_
  rotate_left
  · intro w' hSw
    go_simp
    try (with_reducible rfl)
  try simp only [Act.put, List.getElem_toArray, List.getElem_cons_zero, List.getElem_cons_succ, List.setIfInBounds_toArray, List.set_cons_zero, List.set_cons_succ]
  refine wpAnyG_takeW (i := 2) (v := ?_) rfl (by kernel_rfl) (by kernel_rfl) (by kernel_rfl) (fun _ _ _ h => h) (Or.inl ⟨by rfl, ?_⟩) ?_
  rotate_left
  · intro w' hSw
    go_simp
    try (with_reducible rfl)
  try simp only [Act.put, List.getElem_toArray, List.getElem_cons_zero, List.getElem_cons_succ, List.setIfInBounds_toArray, List.set_cons_zero, List.set_cons_succ]
  refine wpAnyG_takeW (i := 3) (v := ?_) rfl (by kernel_rfl) (by kernel_rfl) (by kernel_rfl) (fun _ _ _ h => h) (Or.inl ⟨by rfl, ?_⟩) ?_
  rotate_left
  · intro w' hSw
    go_simp
    try (with_reducible rfl)
  try simp only [Act.put, List.getElem_toArray, List.getElem_cons_zero, List.getElem_cons_succ, List.setIfInBounds_toArray, List.set_cons_zero, List.set_cons_succ]
  refine wpAnyG_takeW (i := 4) (v := ?_) rfl (by kernel_rfl) (by kernel_rfl) (by kernel_rfl) (fun _ _ _ h => h) (Or.inl ⟨by rfl, ?_⟩) ?_
  rotate_left
  · intro w' hSw
    go_simp
    try (with_reducible rfl)
  try simp only [Act.put, List.getElem_toArray, List.getElem_cons_zero, List.getElem_cons_succ, List.setIfInBounds_toArray, List.set_cons_zero, List.set_cons_succ]
  refine wpAnyG_takeW (i := 5) (v := ?_) rfl (by kernel_rfl) (by kernel_rfl) (by kernel_rfl) (fun _ _ _ h => h) (Or.inl ⟨by rfl, ?_⟩) ?_
  rotate_left
  · intro w' hSw
    go_simp
    try (with_reducible rfl)
  try simp only [Act.put, List.getElem_toArray, List.getElem_cons_zero, List.getElem_cons_succ, List.setIfInBounds_toArray, List.set_cons_zero, List.set_cons_succ]
  refine wpAnyG_take (i := 6) (v := ?_) rfl (by kernel_rfl) (by kernel_rfl) (by kernel_rfl) (by kernel_rfl) (fun _ _ _ h => h) hS0 (Or.inl ⟨by rfl, ?_⟩) ?_
  rotate_left
  · intro w' hSw
    obtain ⟨s0, s1⟩ := hSw
    go_simp
    try (with_reducible rfl)
  try simp only [Act.put, List.getElem_toArray, List.getElem_cons_zero, List.getElem_cons_succ, List.setIfInBounds_toArray, List.set_cons_zero, List.set_cons_succ]
  refine wpAnyG_takeW (i := 7) (v := ?_) rfl (by kernel_rfl) (by kernel_rfl) (by kernel_rfl) (fun _ _ _ h => h) (Or.inl ⟨by rfl, ?_⟩) ?_
  rotate_left
  · intro w' hSw
    go_simp
    try (with_reducible rfl)
  try simp only [Act.put, List.getElem_toArray, List.getElem_cons_zero, List.getElem_cons_succ, List.setIfInBounds_toArray, List.set_cons_zero, List.set_cons_succ]
  refine wpAnyG_takeW (i := 8) (v := ?_) rfl (by kernel_rfl) (by kernel_rfl) (by kernel_rfl) (fun _ _ _ h => h) (Or.inl ⟨by rfl, ?_⟩) ?_
  rotate_left
  · intro w' hSw
    go_simp
    try (with_reducible rfl)
  try simp only [Act.put, List.getElem_toArray, List.getElem_cons_zero, List.getElem_cons_succ, List.setIfInBounds_toArray, List.set_cons_zero, List.set_cons_succ]
  refine wpAnyG_takeW (i := 9) (v := ?_) rfl (by kernel_rfl) (by kernel_rfl) (by kernel_rfl) (fun _ _ _ h => h) (Or.inl ⟨by rfl, ?_⟩) ?_
  rotate_left
  · intro w' hSw
    go_simp
    try (with_reducible rfl)
  try simp only [Act.put, List.getElem_toArray, List.getElem_cons_zero, List.getElem_cons_succ, List.setIfInBounds_toArray, List.set_cons_zero, List.set_cons_succ]
  refine wpAnyG_take (i := 10) (v := ?_) rfl (by kernel_rfl) (by kernel_rfl) (by kernel_rfl) (by kernel_rfl) (fun _ _ _ h => h) hS0 (Or.inl ⟨by rfl, ?_⟩) ?_
  rotate_left
  · intro w' hSw
    obtain ⟨s0, s1⟩ := hSw
    go_simp
    try (with_reducible rfl)
  try simp only [Act.put, List.getElem_toArray, List.getElem_cons_zero, List.getElem_cons_succ, List.setIfInBounds_toArray, List.set_cons_zero, List.set_cons_succ]
  refine wpAnyG_takeW (i := 11) (v := ?_) rfl (by kernel_rfl) (by kernel_rfl) (by kernel_rfl) (fun _ _ _ h => h) (Or.inl ⟨by rfl, ?_⟩) ?_
  rotate_left
  · intro w' hSw
    go_simp
    try (with_reducible rfl)
  try simp only [Act.put, List.getElem_toArray, List.getElem_cons_zero, List.getElem_cons_succ, List.setIfInBounds_toArray, List.set_cons_zero, List.set_cons_succ]
  refine wpAnyG_one (i := 12) (by kernel_rfl) rfl hS0 (fun K' hK => ?_)
  simp only [List.getElem_toArray, List.getElem_cons_zero, List.getElem_cons_succ]
  go_simp
  clear hwn
  obtain ⟨x1, hx1⟩ : ∃ x, (w.alloc (.cells #[.int .i64 4, .int .i64 n, .bool p.priv, .slice (some ⟨g, 0, none⟩) (m + 1) cp, .string ⟨#[]⟩] 46)).drew = x := ⟨_, rfl⟩
  have hx1' : w.drew.alloc (.cells #[.int .i64 4, .int .i64 n, .bool p.priv, .slice (some ⟨g, 0, none⟩) (m + 1) cp, .string ⟨#[]⟩] 46) = x1 := by rw [← hx1]; rfl
  have HB1 : Hid (Below w.heap.size w x1) := Lib.hid (by rw [← hx1]; exact ((Below.refl _ _).alloc (Nat.le_refl _) _).drew)
  have hz1 : w.heap.size < x1.heap.size := by rw [← hx1]; simp
  have hsrc : Src Tryd.prog 5 28 (.slice (some ⟨w.heap.size, 0, none⟩) 1 1) [(⟨⟨4, n, p.priv, p.args, e0⟩, some ⟨g, 0, none⟩, cp⟩ : ActA)].length ([(⟨⟨4, n, p.priv, p.args, e0⟩, some ⟨g, 0, none⟩, cp⟩ : ActA)].flatMap actE) x1 := by
    rw [← hx1']
    exact Src.ofBox (enc := actE) Tryd.underlying28 (fun _ => rfl) actOne (⟨⟨4, n, p.priv, p.args, e0⟩, some ⟨g, 0, none⟩, cp⟩ : ActA) _ _ (by simp [actE, HLM.out]) _ (by simp)
  have HSRC := Lib.hid hsrc
  have HP1 := Lib.hid (HP.out.keep HB1.out)
  have hS1 : x1.cell? ⟨B, 2, none⟩ = some (.bool p.priv) ∧ x1.cell? ⟨B, 1, none⟩ = some (.slice (some ⟨g, 0, none⟩) (m + 1) cp) := ⟨(HB1.out.cell (p := ⟨B, 2, none⟩) klt).trans k_2, (HB1.out.cell (p := ⟨B, 1, none⟩) klt).trans k_1⟩
  have HX1' : Hid (x1.heap.size = w.heap.size + 1) := Lib.hid (by rw [← hx1]; simp)
  clear hsrc hx1'
  rw [hx1]
  clear hx1
  refine hK.out _ _ (Or.inr hS1) ?_
  clear hK K'
  try simp only [Act.put, List.getElem_toArray, List.getElem_cons_zero, List.getElem_cons_succ, List.setIfInBounds_toArray, List.set_cons_zero, List.set_cons_succ]
  refine wpAnyG_one (i := 13) (by kernel_rfl) rfl hS1 (fun K' hK => ?_)
  simp only [List.getElem_toArray, List.getElem_cons_zero, List.getElem_cons_succ]
  rw [if_pos (by rfl)]
  refine step_append_ch (.tmp 113) (.tmp 125) 28 28 lo 46 iA (.agg #[.int .i64 0, .int .i64 0, .bool false, .slice none 0 0, .string ⟨#[]⟩]) 5 64 Tryd.underlying28 hA hA0 hA1 hA2 rfl (by decide) al L.length cl L HP1.out.ro.row (.slice (some ⟨w.heap.size, 0, none⟩) 1 1) [(⟨⟨4, n, p.priv, p.args, e0⟩, some ⟨g, 0, none⟩, cp⟩ : ActA)] HSRC.out (by simp; omega) (by omega) ?_ ?_ ?_ ?_
  · rfl
  · rfl
  · rfl
  intro a4 c4 w4 us hus hf hc hk
  have HUS := hus
  have HF := Lib.hid hf
  have HC4 := Lib.hid hc
  have HK := Lib.hid hk
  have HC1 : Hid (Ch (· ∈ blkOf al) w w4) := Lib.hid ((Ch.of_below HB1.out).trans hc (fun i hi => .inl hi))
  have hBal : ¬ B ∈ blkOf al := fun hb => HP.out.nB (by rw [List.mem_append]; right; simp [roB, hb])
  have q_0 : w4.cell? ⟨B, 0, none⟩ = some (.int .i64 2) := (HC1.out.cell (p := ⟨B, 0, none⟩) klt hBal).trans k_0
  have q_1 : w4.cell? ⟨B, 1, none⟩ = some (.slice (some ⟨g, 0, none⟩) (m + 1) cp) := (HC1.out.cell (p := ⟨B, 1, none⟩) klt hBal).trans k_1
  have q_2 : w4.cell? ⟨B, 2, none⟩ = some (.bool p.priv) := (HC1.out.cell (p := ⟨B, 2, none⟩) klt hBal).trans k_2
  have q_3 : w4.cell? ⟨B, 3, none⟩ = some (.string ⟨#[]⟩) := (HC1.out.cell (p := ⟨B, 3, none⟩) klt hBal).trans k_3
  have q_4 : w4.cell? ⟨B, 4, none⟩ = some (.string ⟨#[]⟩) := (HC1.out.cell (p := ⟨B, 4, none⟩) klt hBal).trans k_4
  have qf : ∀ o, w4.frozen? ⟨B, o, none⟩ = false := fun o => (HC1.out.frozen (p := ⟨B, o, none⟩) klt hBal).trans (kf o)
  clear hus hf hc hk
  refine hK.out _ _ (Or.inr ⟨q_2, q_1⟩) ?_
  clear hK K'
  try simp only [Act.put, List.getElem_toArray, List.getElem_cons_zero, List.getElem_cons_succ, List.setIfInBounds_toArray, List.set_cons_zero, List.set_cons_succ]
  refine wpAnyG_takeW (i := 14) (v := ?_) rfl (by kernel_rfl) (by kernel_rfl) (by kernel_rfl) (fun _ _ _ h => h) (Or.inl ⟨by rfl, ?_⟩) ?_
  rotate_left
  · intro w' hSw
    go_simp
    try (with_reducible rfl)
  try simp only [Act.put, List.getElem_toArray, List.getElem_cons_zero, List.getElem_cons_succ, List.setIfInBounds_toArray, List.set_cons_zero, List.set_cons_succ]
  refine wpAnyG_done (by kernel_rfl) ?_ _
  go_wp2_with fail
  go_ret
  refine PR.give (p' := pz) (w1 := w4) HP1.out (x := ⟨⟨4, n, p.priv, p.args, e0⟩, some ⟨g, 0, none⟩, cp⟩) ⟨rfl, rfl, rfl⟩ HUS.out HF.out HC4.out HK.out ?hc ?_ ?_ ?_ ?_ ?_ ?_ rfl (by rw [HR.out]) (by rw [HR.out]) |>.base HB1.out
  case hc => repeat (first | (with_reducible exact Ch.refl) | (with_reducible refine Ch.alloc ?_ _) | (with_reducible refine Ch.drew ?_) | (with_reducible refine Ch.setB ?_ _ _))
  all_goals first | (intro o; simp [go_sem, qf]; done) | (simp [go_sem, q_0, q_1, q_2, q_3, q_4, pz]; done)
end
section
open Go.RowKit
section
variable {p : PV} {b : UInt8}
theorem us1 (h : mayF p.utf.data.toList b.toNat = false) : ustep p b = ((gstep b).1, pr 65533 :: (gstep b).2) := by unfold ustep; rw [if_pos h]
theorem us2 (h : mayF p.utf.data.toList b.toNat = true) (h2 : p.utf.size + 1 < utfLen (p.utf.data.toList.headD 0).toNat) : ustep p b = ({ p with utf := p.utf ++ ⟨#[b]⟩ }, []) := by unfold ustep; rw [if_neg (by rw [h]; simp), if_pos h2]
theorem us3 (h : mayF p.utf.data.toList b.toNat = true) (h2 : ¬ p.utf.size + 1 < utfLen (p.utf.data.toList.headD 0).toNat) : ustep p b = (pz, [pr (rnV (p.utf.data.toList ++ [b]))]) := by unfold ustep; rw [if_neg (by rw [h]; simp), if_neg h2]
end
/-- A byte's result behind an action that came first. -/
theorem PR.after {B lo : Nat} {R : PV × List AV} {ap al a1 : Option Addr} {L us : List ActA} {x : ActA} {w w2 w' : World} {e : Ending} (h : PR B lo R none us a1 w2 e w') (hx : x.aa = none) (hus : us = L ++ [x]) (hc : Ch (fun k => k = B ∨ k ∈ blkOf al) w w2) (hka : ∀ k ∈ blkOf a1, k ∈ blkOf al ∨ w.heap.size ≤ k) :
    PR B lo (R.1, x.A :: R.2) ap L al w e w' := by
  obtain ⟨ap', cp', L', al', cl', h1, h2, h3, h4, h5⟩ := h
  have hbx : actBlk x = [] := by unfold actBlk; rw [hx]; rfl
  refine ⟨ap', cp', L', al', cl', h1, h2, by rw [h3, hus]; simp, ?_, fun k hk1 => ?_⟩
  · refine (hc.mono (M := fun k => k = B ∨ k ∈ blkOf ap ∨ k ∈ blkOf al) (fun i hi => .inl (by rcases hi with h | h; exact .inl h; exact .inr (.inr h)))).trans h4 (fun i hi => ?_)
    rcases hi with h6 | h6 | h6
    · exact .inl (.inl h6)
    · simp [blkOf] at h6
    · rcases hka i h6 with h7 | h7
      · exact .inl (.inr (.inr h7))
      · exact .inr h7
  · rcases h5 k hk1 with h6 | h6
    · simp only [blkOf, List.nil_append, roB, List.mem_append, hus, List.flatMap_append, List.flatMap_cons, List.flatMap_nil, List.append_nil, hbx] at h6
      rcases h6 with h6 | h6
      · rcases hka k h6 with h7 | h7
        · exact .inl (by simp only [List.mem_append, roB]; exact .inr (.inl h7))
        · exact .inr h7
      · exact .inl (by simp only [List.mem_append, roB]; exact .inr (.inr h6))
    · have := hc.size
      exact .inr (by omega)
theorem decodeGo_le (s : ByteArray) : (Lib.decodeGo s).1 ≤ 2097151 := by
  unfold Lib.decodeGo
  split
  · decide
  · rw [Lib.decode_at]
    have h0 := (s.get! 0).toNat_lt
    unfold Lib.decodeN
    (repeat' split) <;> simp <;> omega
theorem convAt (g : Nat) (w : World) (b : UInt8) (n : Nat) (hc : w.cell? ⟨g, 0, none⟩ = some (.int .u8 n)) (hn : b.toNat = n) : (convert 22 9 (.slice (some ⟨g, 0, none⟩) 1 1)).run Tryd.prog w = .ok (.string ⟨#[b]⟩) w := by
  refine run_convert_bytes_back w _ _ 5 ⟨g, 0, none⟩ 1 [b] Tryd.underlying22 Tryd.underlying5 Tryd.underlying9 (fun j hj => ?_)
  have h0 : j = 0 := by simpa using hj
  subst h0
  simp [Addr.add, hc, hn]
set_option maxRecDepth 100000 in
set_option maxHeartbeats 16000000 in
theorem inRune_c (B lo : Nat) (p : PV) (ap al : Option Addr) (cp cl : Nat) (L : List ActA) (b : UInt8) (w : World) (h : PS B lo p ap cp L al cl w) (hL : L.length ≤ 1048575) (hlo : lo ≤ w.heap.size)
    (hs : p.state = 6) (hA : p.args = []) (hP : p.priv = false) (hT : p.text = e0) (hU : begB p.utf.data.toList = true) (hUT : UT w) (hB1 : B ≠ 0) (hB2 : B ≠ 1) :
    Calls Tryd.prog 68 #[.pointer (some ⟨B, 0, none⟩), .slice al L.length cl, .int .u8 b.toNat] w (PR B lo (ustep p b) ap L al w) := by
  obtain ⟨iA, hA, hA0, hA1, hA2⟩ := info_parts Tryd.infoAction
  rename_i hAA
  have HP := Lib.hid h
  have k_0 : w.cell? ⟨B, 0, none⟩ = some (.int .i64 6) := by rw [h.c0, hs]
  have k_1 : w.cell? ⟨B, 1, none⟩ = some (.slice ap 0 cp) := by rw [h.c1, hAA]; rfl
  have k_2 : w.cell? ⟨B, 2, none⟩ = some (.bool false) := by rw [h.c2, hP]
  have k_3 : w.cell? ⟨B, 3, none⟩ = some (.string ⟨#[]⟩) := by rw [h.c3, hT]
  have k_4 : w.cell? ⟨B, 4, none⟩ = some (.string p.utf) := h.c4
  have kf := h.fz
  have klt := h.lt
  have HUT := Lib.hid hUT
  have HB1 := Lib.hid hB1
  have HB2 := Lib.hid hB2
  have HBG := Lib.hid hU
  obtain ⟨hu1, hu2, hu3⟩ := begB_iff.1 hU
  have hls : p.utf.data.toList.length = p.utf.size := rfl
  have hu4 : p.utf.size ≤ 3 := by
    have : ∀ n, utfLen n ≤ 4 := fun n => by unfold utfLen; (repeat' split) <;> omega
    have := this (p.utf.data.toList.headD 0).toNat
    omega
  have hup : 0 < p.utf.size := by omega
  have HHD := Lib.hid (headL hup)
  have HE : Hid (p.state = 6 ∧ p.args = [] ∧ p.priv = false ∧ p.text = e0) := Lib.hid ⟨hs, hAA, hP, hT⟩
  clear h hs hAA hP hT hU hUT hB1 hB2 hu1 hu2 hu3 hls
  obtain ⟨Gr, hG⟩ : ∃ G, ustep p b = G := ⟨_, rfl⟩
  have HGG := Lib.hid hG
  rw [hG]
  clear hG
  obtain ⟨U, hU⟩ : ∃ U, p.utf ++ (⟨#[b]⟩ : ByteArray) = U := ⟨_, rfl⟩
  have HU := Lib.hid hU
  have HUL : Hid (U.data.toList = p.utf.data.toList ++ [b]) := Lib.hid (by rw [← hU]; simp)
  have hUs : U.size ≤ 4 := by rw [← hU, ByteArray.size_append]; show _ + 1 ≤ _; omega
  have HUS : Hid (U.size = p.utf.size + 1) := Lib.hid (by rw [← hU, ByteArray.size_append]; rfl)
  have hU0 : 0 < U.size := by rw [HUS.out]; omega
  have HU0 : Hid ((U[0]'hU0) = p.utf.data.toList.headD 0) := Lib.hid (by
    rw [← headL hU0, HUL.out]
    cases hc : p.utf.data.toList with
    | nil => have : p.utf.data.toList.length = p.utf.size := rfl; rw [hc] at this; simp at this; omega
    | cons a l => rfl)
  have hbig : ¬ 9223372036854775807 < p.utf.size + 1 := by omega
  have hcv := convAt w.heap.size (w.alloc (.cells #[.int .u8 b.toNat] 5)).drew b b.toNat (by simp [go_sem]) rfl
  go_enter Tryd.func68, Tryd.ntmps68
  go_upto_region 1 with fail
  refine wp_region_G (fun w' => w'.cell? ⟨B, 4, none⟩ = some (.string p.utf)) (fun i => false) (by kernel_rfl) k_4 ?_
  refine wpAnyG_takeW (i := 0) (v := ?_) rfl (by kernel_rfl) (by kernel_rfl) (by kernel_rfl) (fun _ _ _ h => h) (Or.inl ⟨by rfl, ?_⟩) ?_
  rotate_left
  · intro w' hSw
    go_simp
    try (with_reducible rfl)
  try simp only [Act.put, List.getElem_toArray, List.getElem_cons_zero, List.getElem_cons_succ, List.setIfInBounds_toArray, List.set_cons_zero, List.set_cons_succ]
  refine wpAnyG_takeW (i := 1) (v := ?_) rfl (by kernel_rfl) (by kernel_rfl) (by kernel_rfl) (fun _ _ _ h => h) (Or.inl ⟨by rfl, ?_⟩) ?_
  rotate_left
  · intro w' hSw
    go_simp
    try (with_reducible rfl)
  try simp only [Act.put, List.getElem_toArray, List.getElem_cons_zero, List.getElem_cons_succ, List.setIfInBounds_toArray, List.set_cons_zero, List.set_cons_succ]
  refine wpAnyG_takeW (i := 2) (v := ?_) rfl (by kernel_rfl) (by kernel_rfl) (by kernel_rfl) (fun _ _ _ h => h) (Or.inl ⟨by rfl, ?_⟩) ?_
  rotate_left
  · intro w' hSw
    go_simp
    try (with_reducible rfl)
  try simp only [Act.put, List.getElem_toArray, List.getElem_cons_zero, List.getElem_cons_succ, List.setIfInBounds_toArray, List.set_cons_zero, List.set_cons_succ]
  refine wpAnyG_take (i := 3) (v := ?_) rfl (by kernel_rfl) (by kernel_rfl) (by kernel_rfl) (by kernel_rfl) (fun _ _ _ h => h) k_4 (Or.inl ⟨by rfl, ?_⟩) ?_
  rotate_left
  · intro w' hSw
    go_simp
    try (with_reducible rfl)
  try simp only [Act.put, List.getElem_toArray, List.getElem_cons_zero, List.getElem_cons_succ, List.setIfInBounds_toArray, List.set_cons_zero, List.set_cons_succ]
  refine wpAnyG_takeW (i := 4) (v := ?_) rfl (by kernel_rfl) (by kernel_rfl) (by kernel_rfl) (fun _ _ _ h => h) (Or.inl ⟨by rfl, ?_⟩) ?_
  rotate_left
  · intro w' hSw
    go_simp
    try (with_reducible rfl)
  try simp only [Act.put, List.getElem_toArray, List.getElem_cons_zero, List.getElem_cons_succ, List.setIfInBounds_toArray, List.set_cons_zero, List.set_cons_succ]
  refine wpAnyG_one (i := 5) (by kernel_rfl) rfl k_4 (fun K' hK => ?_)
  simp only [List.getElem_toArray, List.getElem_cons_zero, List.getElem_cons_succ]
  go_simp
  have hS1 : (w.alloc (.cells #[.int .u8 b.toNat] 5)).cell? ⟨B, 4, none⟩ = some (.string p.utf) := (World.cell?_alloc_lt _ _ _ klt).trans k_4
  refine hK.out _ _ (Or.inr hS1) ?_
  clear hK K'
  try simp only [Act.put, List.getElem_toArray, List.getElem_cons_zero, List.getElem_cons_succ, List.setIfInBounds_toArray, List.set_cons_zero, List.set_cons_succ]
  refine wpAnyG_one (i := 6) (by kernel_rfl) rfl hS1 (fun K' hK => ?_)
  simp only [List.getElem_toArray, List.getElem_cons_zero, List.getElem_cons_succ]
  go_simp
  refine hK.out _ _ (Or.inr hS1) ?_
  clear hK K'
  try simp only [Act.put, List.getElem_toArray, List.getElem_cons_zero, List.getElem_cons_succ, List.setIfInBounds_toArray, List.set_cons_zero, List.set_cons_succ]
  refine wpAnyG_takeW (i := 7) (v := ?_) rfl (by kernel_rfl) (by kernel_rfl) (by kernel_rfl) (fun _ _ _ h => h) (Or.inl ⟨by rfl, ?_⟩) ?_
  rotate_left
  · intro w' hSw
    go_simp
    try (with_reducible rfl)
  try simp only [Act.put, List.getElem_toArray, List.getElem_cons_zero, List.getElem_cons_succ, List.setIfInBounds_toArray, List.set_cons_zero, List.set_cons_succ]
  refine wpAnyG_takeW (i := 8) (v := ?_) rfl (by kernel_rfl) (by kernel_rfl) (by kernel_rfl) (fun _ _ _ h => h) (Or.inl ⟨by rfl, ?_⟩) ?_
  rotate_left
  · intro w' hSw
    go_simp
    try (with_reducible rfl)
  try simp only [Act.put, List.getElem_toArray, List.getElem_cons_zero, List.getElem_cons_succ, List.setIfInBounds_toArray, List.set_cons_zero, List.set_cons_succ]
  refine wpAnyG_done (by kernel_rfl) ?_ _
  clear hcv hU hbig
  have hb1 : Below w.heap.size w (w.alloc (.cells #[.int .u8 b.toNat] 5)).drew := ((Below.refl _ _).alloc (Nat.le_refl _) _).drew
  obtain ⟨x1, hx1⟩ : ∃ x, (w.alloc (.cells #[.int .u8 b.toNat] 5)).drew = x := ⟨_, rfl⟩
  rw [hx1] at hb1 ⊢
  have HBW := Lib.hid hb1
  have HP1 := Lib.hid (HP.out.keep hb1)
  have HUT1 := Lib.hid (HUT.out.keep hb1)
  have hz1 := hb1.size
  have q_0 := (hb1.cell (p := ⟨B, 0, none⟩) klt).trans k_0
  have q_1 := (hb1.cell (p := ⟨B, 1, none⟩) klt).trans k_1
  have q_2 := (hb1.cell (p := ⟨B, 2, none⟩) klt).trans k_2
  have q_3 := (hb1.cell (p := ⟨B, 3, none⟩) klt).trans k_3
  have q_4 := (hb1.cell (p := ⟨B, 4, none⟩) klt).trans k_4
  have qf : ∀ o, x1.frozen? ⟨B, o, none⟩ = false := fun o => (hb1.frozen (p := ⟨B, o, none⟩) klt).trans (kf o)
  have qlt : B < x1.heap.size := by omega
  clear hx1 hb1 hS1 k_0 k_1 k_2 k_3 k_4 kf
  obtain ⟨v, hv⟩ : ∃ v, mayF p.utf.data.toList b.toNat = v := ⟨_, rfl⟩
  have HV := Lib.hid hv
  clear hv
  have ZC : Hid (Ch (fun k => k = B) x1 (((((x1.setCell ⟨B, 0, none⟩ (.int .i64 0)).setCell ⟨B, 1, none⟩ (.slice none 0 0)).setCell ⟨B, 2, none⟩ (.bool false)).setCell ⟨B, 3, none⟩ (.string ⟨#[]⟩)).setCell ⟨B, 4, none⟩ (.string ⟨#[]⟩))) := Lib.hid (by repeat (first | (with_reducible exact Ch.refl) | (with_reducible refine Ch.alloc ?_ _) | (with_reducible refine Ch.drew ?_) | (with_reducible refine Ch.setB ?_ _ _)))
  have ZP : Hid (PS B lo pz none 0 L al cl (((((x1.setCell ⟨B, 0, none⟩ (.int .i64 0)).setCell ⟨B, 1, none⟩ (.slice none 0 0)).setCell ⟨B, 2, none⟩ (.bool false)).setCell ⟨B, 3, none⟩ (.string ⟨#[]⟩)).setCell ⟨B, 4, none⟩ (.string ⟨#[]⟩))) := Lib.hid (by
    refine HP1.out.cells ZC.out ?_ ?_ ?_ ?_ ?_ ?_ (.inr ⟨rfl, rfl, rfl⟩)
    all_goals first | (intro o; simp [go_sem, qf]; done) | (simp [go_sem, q_0, q_1, q_2, q_3, q_4, pz]; done))
  cases v
  case false =>
    have HR : Hid (Gr = ((gstep b).1, pr 65533 :: (gstep b).2)) := Lib.hid (by rw [← HGG.out]; exact us1 HV.out)
    go_upto_region 4 with (go_at_call 85; refine (mayFollow_c _ _ _ (by omega)).mono ?_; rw [HV.out]; rintro e w' ⟨rfl, rfl⟩)
    obtain ⟨x3, hx3⟩ : ∃ x, (((((x1.setCell ⟨B, 0, none⟩ (.int .i64 0)).setCell ⟨B, 1, none⟩ (.slice none 0 0)).setCell ⟨B, 2, none⟩ (.bool false)).setCell ⟨B, 3, none⟩ (.string ⟨#[]⟩)).setCell ⟨B, 4, none⟩ (.string ⟨#[]⟩)) = x := ⟨_, rfl⟩
    rw [hx3] at ZC ZP ⊢
    clear hx3
    have hz3 := ZC.out.size
    have HSRC4 : Hid (Src Tryd.prog 5 28 (.slice (some ⟨x3.heap.size, 0, none⟩) 1 1) [(⟨⟨1, 65533, false, [], e0⟩, none, 0⟩ : ActA)].length ([(⟨⟨1, 65533, false, [], e0⟩, none, 0⟩ : ActA)].flatMap actE) (x3.alloc (.cells #[.int .i64 1, .int .i64 65533, .bool false, .slice none 0 0, .string ⟨#[]⟩] 46))) := Lib.hid (Src.ofBox (enc := actE) Tryd.underlying28 (fun _ => rfl) actOne (⟨⟨1, 65533, false, [], e0⟩, none, 0⟩ : ActA) _ _ (by first | rfl | simp [actE]) _ rfl)
    have HRO4 : Hid (ActO lo L al cl (x3.alloc (.cells #[.int .i64 1, .int .i64 65533, .bool false, .slice none 0 0, .string ⟨#[]⟩] 46))) := Lib.hid (ZP.out.ro.keep actL ((Below.refl _ _).alloc (Nat.le_refl _) _))
    go_wp2_with (at_builtin; refine wpList_append_ch (.tmp 30) (.tmp 32) 28 28 lo 46 iA (.agg #[.int .i64 0, .int .i64 0, .bool false, .slice none 0 0, .string ⟨#[]⟩]) 5 64 Tryd.underlying28 hA hA0 hA1 hA2 rfl (by decide) al L.length cl L HRO4.out.row (.slice (some ⟨x3.heap.size, 0, none⟩) 1 1) [(⟨⟨1, 65533, false, [], e0⟩, none, 0⟩ : ActA)] HSRC4.out (by simp; omega) (by simp; omega) rfl rfl rfl rfl ?_)
    intro a4 c4 w4 us4 hus hf hc hk
    have HUS4 := hus
    have HF4 := Lib.hid hf
    have HC4 : Hid (Ch (· ∈ blkOf al) x3 w4) := Lib.hid ((Ch.refl.alloc _).trans hc (fun i hi => .inl hi))
    have HK4 : Hid (∀ j ∈ blkOf a4, j ∈ blkOf al ∨ j = (x3.alloc (.cells #[.int .i64 1, .int .i64 65533, .bool false, .slice none 0 0, .string ⟨#[]⟩] 46)).heap.size) := Lib.hid (fun j hj => by simpa using hk j hj)
    have HCA4 := Lib.hid hc
    clear hus hf hc hk
    have HP4 := Lib.hid ((ZP.out.keep ((Below.refl _ _).alloc (Nat.le_refl _) (.cells #[.int .i64 1, .int .i64 65533, .bool false, .slice none 0 0, .string ⟨#[]⟩] 46))).push (x := ⟨⟨1, 65533, false, [], e0⟩, none, 0⟩) ⟨rfl, rfl, rfl⟩ HUS4.out HF4.out HCA4.out HK4.out)
    have hul : us4.length ≤ 1048576 := by rw [HUS4.out]; simp; omega
    have hz4 := HC4.out.size
    go_wp2_with fail
    refine (ground_c B lo none a4 0 c4 us4 b _ HP4.out hul (by omega)).mono ?_
    rintro e w5 ⟨ap', cp', L', al', cl', rfl, g2, g3, g4, g5⟩
    have HG2 := Lib.hid g2
    have HG3 := Lib.hid g3
    have HG4 := Lib.hid g4
    have HG5 := Lib.hid g5
    clear g2 g3 g4 g5
    go_wp2_with fail
    go_ret
    rw [HR.out]
    refine PR.after (x := ⟨⟨1, 65533, false, [], e0⟩, none, 0⟩) (w2 := w4) ⟨ap', cp', L', al', cl', rfl, HG2.out, HG3.out, HG4.out, HG5.out⟩ rfl HUS4.out ?_ ?_
    · exact ((Ch.of_below HBW.out).trans ZC.out (fun i hi => .inl (.inl hi))).trans HC4.out (fun i hi => .inl (.inr hi))
    · intro k hk
      rcases HK4.out k hk with h1 | h1
      · exact .inl h1
      · right
        simp at h1
        omega
  obtain ⟨u, hu⟩ : ∃ u, utfLen (U[0]'hU0).toNat = u := ⟨_, rfl⟩
  have HUU := Lib.hid hu
  have HUX : Hid (utfLen (p.utf.data.toList.headD 0).toNat = u) := Lib.hid (by rw [← hu, HU0.out])
  clear hu
  by_cases hlt : U.size < u
  case pos =>
    have HR : Hid (Gr = ({ p with utf := U }, [])) := Lib.hid (by rw [← HGG.out, us2 HV.out (by rw [HUX.out]; have := HUS.out; omega), HU.out])
    have glt : (U.size : Int) < (u : Int) := by omega
    go_wp2_with (first | (go_at_call 85; refine (mayFollow_c _ _ _ (by omega)).mono ?_; rw [HV.out]; rintro e w' ⟨rfl, rfl⟩) | (go_at_call 84; refine (utfLength_c _ _).mono ?_; rw [HUU.out]; rintro e w' ⟨rfl, rfl⟩))
    go_ret
    have hc : Ch (fun k => k = B) x1 (x1.setCell ⟨B, 4, none⟩ (.string U)) := Ch.set1 _ _ _ _
    have hE := HE.out
    refine (PR.cells (p' := { p with utf := U }) (ap' := ap) (cp' := cp) HP1.out hc (by rw [HR.out]) (by rw [HR.out]) (HP1.out.cells hc ?_ ?_ ?_ ?_ ?_ ?_ (.inl ⟨rfl, rfl, rfl⟩)) (.inl rfl)).base HBW.out
    all_goals first | (intro o; simp [go_sem, qf]; done) | (simp [go_sem, q_0, q_1, q_2, q_3, q_4, hE.1, hE.2.1, hE.2.2.1, hE.2.2.2]; done)
  have glt : (u : Int) ≤ (U.size : Int) := by omega
  obtain ⟨r, hr⟩ : ∃ r, (Lib.decodeGo U).1 = r := ⟨_, rfl⟩
  obtain ⟨d, hd⟩ : ∃ d, (Lib.decodeGo U).2 = d := ⟨_, rfl⟩
  have hrl : r ≤ 2097151 := by rw [← hr]; exact decodeGo_le U
  have HD : Hid (((Lib.decodeGo U).1 = r) ∧ ((Lib.decodeGo U).2 = d)) := Lib.hid ⟨hr, hd⟩
  have HR : Hid (Gr = (pz, [pr r])) := Lib.hid (by
    have h3 := us3 (p := p) HV.out (by rw [HUX.out]; have := HUS.out; omega)
    rw [← HGG.out, h3]
    have h4 := dec_rune HBG.out HV.out (by
      rw [HUX.out]
      have h5 := (begB_iff.1 HBG.out).2.1
      rw [HUX.out] at h5
      have h6 : p.utf.data.toList.length = p.utf.size := rfl
      have := HUS.out
      omega)
    have h7 : (⟨(p.utf.data.toList ++ [b]).toArray⟩ : ByteArray) = U := by rw [← HUL.out]
    rw [h7, hr] at h4
    rw [h4])
  clear hr hd
  go_wp2_with (first | (go_at_call 85; refine (mayFollow_c _ _ _ (by omega)).mono ?_; rw [HV.out]; rintro e w' ⟨rfl, rfl⟩) | (go_at_call 84; refine (utfLength_c _ _).mono ?_; rw [HUU.out]; rintro e w' ⟨rfl, rfl⟩))
  refine (decRune_c U _ (HUT1.out.ch ZC.out (fun h => HB1.out h.symm) (fun h => HB2.out h.symm))).mono ?_
  rw [HD.out.1, HD.out.2]
  rintro e x4 ⟨rfl, hb4⟩
  go_upto_region 10 with fail
  have HX4 : Hid (Below _ _ x4) := Lib.hid hb4
  have HP4 := Lib.hid (ZP.out.keep hb4)
  have HCZ := Lib.hid (ZC.out.below1 hb4)
  have hz4 := HCZ.out.size
  clear hb4 HX4
  have HSRC5 : Hid (Src Tryd.prog 5 28 (.slice (some ⟨x4.heap.size, 0, none⟩) 1 1) [(⟨⟨1, r, false, [], e0⟩, none, 0⟩ : ActA)].length ([(⟨⟨1, r, false, [], e0⟩, none, 0⟩ : ActA)].flatMap actE) (x4.alloc (.cells #[.int .i64 1, .int .i64 r, .bool false, .slice none 0 0, .string ⟨#[]⟩] 46))) := Lib.hid (Src.ofBox (enc := actE) Tryd.underlying28 (fun _ => rfl) actOne (⟨⟨1, r, false, [], e0⟩, none, 0⟩ : ActA) _ _ (by first | rfl | simp [actE]) _ rfl)
  have HRO5 : Hid (ActO lo L al cl (x4.alloc (.cells #[.int .i64 1, .int .i64 r, .bool false, .slice none 0 0, .string ⟨#[]⟩] 46))) := Lib.hid (HP4.out.ro.keep actL ((Below.refl _ _).alloc (Nat.le_refl _) _))
  go_wp2_with (at_builtin; refine wpList_append_ch (.tmp 56) (.tmp 60) 28 28 lo 46 iA (.agg #[.int .i64 0, .int .i64 0, .bool false, .slice none 0 0, .string ⟨#[]⟩]) 5 64 Tryd.underlying28 hA hA0 hA1 hA2 rfl (by decide) al L.length cl L HRO5.out.row (.slice (some ⟨x4.heap.size, 0, none⟩) 1 1) [(⟨⟨1, r, false, [], e0⟩, none, 0⟩ : ActA)] HSRC5.out (by simp; omega) (by simp; omega) rfl rfl rfl rfl ?_)
  intro a5 c5 w5 us5 hus hf hc hk
  have HUS5 := hus
  have HF5 := Lib.hid hf
  have HC5 : Hid (Ch (· ∈ blkOf al) x4 w5) := Lib.hid ((Ch.refl.alloc _).trans hc (fun i hi => .inl hi))
  have HK5 : Hid (∀ j ∈ blkOf a5, j ∈ blkOf al ∨ j = (x4.alloc (.cells #[.int .i64 1, .int .i64 r, .bool false, .slice none 0 0, .string ⟨#[]⟩] 46)).heap.size) := Lib.hid (fun j hj => by simpa using hk j hj)
  have HCA5 := Lib.hid hc
  clear hus hf hc hk
  go_wp2_with fail
  go_ret
  exact (PR.push (p' := pz) (ap' := none) (cp' := 0) (w1 := x4.alloc (.cells #[.int .i64 1, .int .i64 r, .bool false, .slice none 0 0, .string ⟨#[]⟩] 46)) HP1.out (x := ⟨⟨1, r, false, [], e0⟩, none, 0⟩) rfl HUS5.out HK5.out (by simp; omega) ((HCZ.out.mono (M := fun k => k = B ∨ k ∈ blkOf al) (fun i hi => .inl (.inl hi))).trans HC5.out (fun i hi => .inl (.inr hi))) (by rw [HR.out]) (by rw [HR.out]; try rfl) ((HP4.out.keep ((Below.refl _ _).alloc (Nat.le_refl _) (.cells #[.int .i64 1, .int .i64 r, .bool false, .slice none 0 0, .string ⟨#[]⟩] 46))).push ⟨rfl, rfl, rfl⟩ HUS5.out HF5.out HCA5.out HK5.out) (.inr rfl)).base HBW.out
end
section
open Go.RowKit
theorem esc_eq (n : Nat) : escI (n : Int) = esc n := by
  unfold escI esc
  rw [Bool.eq_iff_iff]
  simp only [Bool.or_eq_true, beq_iff_eq]
  omega
section
variable {b : UInt8} {n : Nat}
theorem es1 (hn : b.toNat = n) (h : n = 91) : estep b = (⟨2, [-1], false, e0, e0⟩, []) := by subst hn; unfold estep; rw [if_pos h]
theorem es2 (hn : b.toNat = n) (h : n = 93) : estep b = (pst 4, []) := by subst hn; unfold estep; rw [if_neg (by omega), if_pos h]
theorem es3 (hn : b.toNat = n) (h : n = 27) : estep b = (pst 1, []) := by subst hn; unfold estep; rw [if_neg (by omega), if_neg (by omega), if_pos h]
theorem es4 (hn : b.toNat = n) (h1 : ¬ n = 91) (h2 : ¬ n = 93) (h3 : ¬ n = 27) (h4 : esc n = true) : estep b = (pz, [⟨3, n, false, [], e0⟩]) := by subst hn; unfold estep; rw [if_neg h1, if_neg h2, if_neg h3, if_pos h4]
theorem es5 (hn : b.toNat = n) (h1 : ¬ n = 91) (h2 : ¬ n = 93) (h3 : ¬ n = 27) (h4 : esc n = false) : estep b = (pz, []) := by subst hn; unfold estep; rw [if_neg h1, if_neg h2, if_neg h3, if_neg (by rw [h4]; simp)]
end
theorem fresh_one (lo : Nat) (w : World) (g : Nat) (v : Int) (hg : g = w.heap.size) (h : lo ≤ w.heap.size) : FreshIn intE 3 1 lo (w.alloc (.cells #[.int .i64 v] 3)).heap.size (.slice (some ⟨g, 0, none⟩) 1 1) [v] (w.alloc (.cells #[.int .i64 v] 3)) := by
  subst hg
  exact (Fresh.of_own (World.ownsRow_lit (base := lo) w #[.int .i64 v] 1 h (by decide) rfl) rfl rfl).here
/-- The parser's cells are written anew, with numbers in new memory. -/
theorem PS.cellsNew {B lo g : Nat} {p p' : PV} {ap al : Option Addr} {cp cp' cl : Nat} {L : List ActA} {w w' : World} (h : PS B lo p ap cp L al cl w) (hc : Ch (fun k => k = B) w w') (hg : w.heap.size ≤ g) (ha : FreshIn intE 3 1 lo w'.heap.size (.slice (some ⟨g, 0, none⟩) p'.args.length cp') p'.args w')
    (c0 : w'.cell? ⟨B, 0, none⟩ = some (.int .i64 p'.state)) (c1 : w'.cell? ⟨B, 1, none⟩ = some (.slice (some ⟨g, 0, none⟩) p'.args.length cp')) (c2 : w'.cell? ⟨B, 2, none⟩ = some (.bool p'.priv))
    (c3 : w'.cell? ⟨B, 3, none⟩ = some (.string p'.text)) (c4 : w'.cell? ⟨B, 4, none⟩ = some (.string p'.utf)) (fz : ∀ o, w'.frozen? ⟨B, o, none⟩ = false) : PS B lo p' (some ⟨g, 0, none⟩) cp' L al cl w' := by
  have hne : ∀ k ∈ acB al L, ¬ k = B := fun k hk e => h.nB (by rw [List.mem_append]; exact .inr (e ▸ hk))
  have hlt := h.lt
  refine ⟨c0, c1, c2, c3, c4, fz, Nat.lt_of_lt_of_le hlt hc.size, ha, h.ro.ch actL hc hne, fun hB => ?_, fun k hk1 hk2 => ?_⟩
  · rcases List.mem_append.1 hB with h1 | h1
    · simp [blkOf] at h1; omega
    · exact hne B h1 rfl
  · simp [blkOf] at hk1
    have := (h.ro.bd actL k hk2).2
    omega
set_option maxRecDepth 100000 in
set_option maxHeartbeats 16000000 in
theorem parseEsc_c (B lo : Nat) (ap al : Option Addr) (cp cl : Nat) (L : List ActA) (b : UInt8) (w : World) (h : PS B lo (pst 1) ap cp L al cl w) (hL : L.length ≤ 1048576) (hlo : lo ≤ w.heap.size) :
    Calls Tryd.prog 39 #[.pointer (some ⟨B, 0, none⟩), .slice al L.length cl, .int .u8 b.toNat] w (PR B lo (estep b) ap L al w) := by
  obtain ⟨iA, hA, hA0, hA1, hA2⟩ := info_parts Tryd.infoAction
  have HP := Lib.hid h
  have k_0 : w.cell? ⟨B, 0, none⟩ = some (.int .i64 1) := h.c0
  have k_1 : w.cell? ⟨B, 1, none⟩ = some (.slice ap 0 cp) := h.c1
  have k_2 : w.cell? ⟨B, 2, none⟩ = some (.bool false) := h.c2
  have k_3 : w.cell? ⟨B, 3, none⟩ = some (.string ⟨#[]⟩) := h.c3
  have k_4 : w.cell? ⟨B, 4, none⟩ = some (.string ⟨#[]⟩) := h.c4
  have kf := h.fz
  have klt := h.lt
  have h256 : b.toNat < 256 := b.toNat_lt
  clear h
  obtain ⟨Gr, hG⟩ : ∃ G, estep b = G := ⟨_, rfl⟩
  have HGG := Lib.hid hG
  rw [hG]
  clear hG
  obtain ⟨n, hn⟩ : ∃ n, b.toNat = n := ⟨_, rfl⟩
  rw [hn] at h256 ⊢
  have HN := Lib.hid hn
  clear hn
  by_cases h91 : n = 91
  case pos =>
    have HR : Hid (Gr = (⟨2, [-1], false, e0, e0⟩, [])) := Lib.hid (by rw [← HGG.out]; exact es1 HN.out h91)
    have g91 : ((n : Int) == 91) = true := by subst h91; rfl
    clear h91
    have ZC : Hid (Ch (fun k => k = B) w (((((w.setCell ⟨B, 0, none⟩ (.int .i64 0)).setCell ⟨B, 1, none⟩ (.slice none 0 0)).setCell ⟨B, 2, none⟩ (.bool false)).setCell ⟨B, 3, none⟩ (.string ⟨#[]⟩)).setCell ⟨B, 4, none⟩ (.string ⟨#[]⟩))) := Lib.hid (by repeat (first | (with_reducible exact Ch.refl) | (with_reducible refine Ch.alloc ?_ _) | (with_reducible refine Ch.drew ?_) | (with_reducible refine Ch.setB ?_ _ _)))
    have ZP : Hid (PS B lo pz none 0 L al cl (((((w.setCell ⟨B, 0, none⟩ (.int .i64 0)).setCell ⟨B, 1, none⟩ (.slice none 0 0)).setCell ⟨B, 2, none⟩ (.bool false)).setCell ⟨B, 3, none⟩ (.string ⟨#[]⟩)).setCell ⟨B, 4, none⟩ (.string ⟨#[]⟩))) := Lib.hid (by
      refine HP.out.cells ZC.out ?_ ?_ ?_ ?_ ?_ ?_ (.inr ⟨rfl, rfl, rfl⟩)
      all_goals first | (intro o; simp [go_sem, kf, klt]; done) | (simp [go_sem, k_0, k_1, k_2, k_3, k_4, klt, pz]; done))
    go_enter Tryd.func39, Tryd.ntmps39
    go_upto_region 9 with fail
    obtain ⟨x3, hx3⟩ : ∃ x, (((((w.setCell ⟨B, 0, none⟩ (.int .i64 0)).setCell ⟨B, 1, none⟩ (.slice none 0 0)).setCell ⟨B, 2, none⟩ (.bool false)).setCell ⟨B, 3, none⟩ (.string ⟨#[]⟩)).setCell ⟨B, 4, none⟩ (.string ⟨#[]⟩)) = x := ⟨_, rfl⟩
    rw [hx3] at ZC ZP ⊢
    have hz3 : w.heap.size ≤ x3.heap.size := ZC.out.size
    have hz4 : x3.heap.size = w.heap.size := by rw [← hx3]; simp [World.setCell]
    have HZ4 := Lib.hid hz4
    clear hx3 hz4
    have y_0 : x3.cell? ⟨B, 0, none⟩ = some (.int .i64 0) := ZP.out.c0
    have y_1 : x3.cell? ⟨B, 1, none⟩ = some (.slice none 0 0) := ZP.out.c1
    have y_2 : x3.cell? ⟨B, 2, none⟩ = some (.bool false) := ZP.out.c2
    have y_3 : x3.cell? ⟨B, 3, none⟩ = some (.string ⟨#[]⟩) := ZP.out.c3
    have y_4 : x3.cell? ⟨B, 4, none⟩ = some (.string ⟨#[]⟩) := ZP.out.c4
    have yf := ZP.out.fz
    have ylt := ZP.out.lt
    go_wp2_with fail
    go_ret
    refine PR.arg (p' := ⟨2, [-1], false, e0, e0⟩) (ap' := some ⟨x3.heap.size, 0, none⟩) (cp' := 1) HP.out (by rw [HR.out]) (by rw [HR.out]) (ZP.out.cellsNew ?hc (Nat.le_refl _) (fresh_one _ _ _ _ (by simp [World.setCell]) (by simp [World.setCell]; omega)) ?_ ?_ ?_ ?_ ?_ ?_) (ZC.out.mono (M := fun k => k = B ∨ k ∈ blkOf ap) (fun i hi => .inl (.inl hi)) |>.trans (N := fun k => k = B) ?hc (fun i hi => .inl (.inl hi))) (fun k hk => .inr (by simp [blkOf] at hk; omega))
    case hc => repeat (first | (with_reducible exact Ch.refl) | (with_reducible refine Ch.alloc ?_ _) | (with_reducible refine Ch.drew ?_) | (with_reducible refine Ch.setB ?_ _ _))
    all_goals first | (intro o; simp [go_sem, yf, ylt]; done) | (simp [go_sem, y_0, y_1, y_2, y_3, y_4, ylt]; done)
  have g91 : ((n : Int) == 91) = false := beq_eq_false_iff_ne.2 (by omega)
  by_cases h93 : n = 93
  case pos =>
    have HR : Hid (Gr = (pst 4, [])) := Lib.hid (by rw [← HGG.out]; exact es2 HN.out h93)
    have g93 : ((n : Int) == 93) = true := by subst h93; rfl
    clear h93
    go_enter Tryd.func39, Tryd.ntmps39
    go_wp2_with fail
    go_ret
    refine PR.cells (p' := pst 4) (ap' := none) (cp' := 0) HP.out ?hc (by rw [HR.out]) (by rw [HR.out]) (HP.out.cells ?hc ?_ ?_ ?_ ?_ ?_ ?_ (.inr ⟨rfl, rfl, rfl⟩)) (.inr rfl)
    case hc => repeat (first | (with_reducible exact Ch.refl) | (with_reducible refine Ch.alloc ?_ _) | (with_reducible refine Ch.drew ?_) | (with_reducible refine Ch.setB ?_ _ _))
    all_goals first | (intro o; simp [go_sem, kf, klt]; done) | (simp [go_sem, k_0, k_1, k_2, k_3, k_4, klt, pst]; done)
  have g93 : ((n : Int) == 93) = false := beq_eq_false_iff_ne.2 (by omega)
  by_cases h27 : n = 27
  case pos =>
    have HR : Hid (Gr = (pst 1, [])) := Lib.hid (by rw [← HGG.out]; exact es3 HN.out h27)
    have g27 : ((n : Int) == 27) = true := by subst h27; rfl
    clear h27
    go_enter Tryd.func39, Tryd.ntmps39
    go_wp2_with fail
    go_ret
    refine PR.cells (p' := pst 1) (ap' := none) (cp' := 0) HP.out ?hc (by rw [HR.out]) (by rw [HR.out]) (HP.out.cells ?hc ?_ ?_ ?_ ?_ ?_ ?_ (.inr ⟨rfl, rfl, rfl⟩)) (.inr rfl)
    case hc => repeat (first | (with_reducible exact Ch.refl) | (with_reducible refine Ch.alloc ?_ _) | (with_reducible refine Ch.drew ?_) | (with_reducible refine Ch.setB ?_ _ _))
    all_goals first | (intro o; simp [go_sem, kf, klt]; done) | (simp [go_sem, k_0, k_1, k_2, k_3, k_4, klt, pst]; done)
  have g27 : ((n : Int) == 27) = false := beq_eq_false_iff_ne.2 (by omega)
  obtain ⟨c, hc⟩ : ∃ c, esc n = c := ⟨_, rfl⟩
  have HES : Hid (escI (n : Int) = c) := Lib.hid (by rw [esc_eq]; exact hc)
  have HCC := Lib.hid hc
  clear hc
  cases c
  case false =>
    have HR : Hid (Gr = (pz, [])) := Lib.hid (by rw [← HGG.out]; exact es5 HN.out h91 h93 h27 HCC.out)
    go_enter Tryd.func39, Tryd.ntmps39
    go_wp2_with (go_at_call 69; refine (isEscape_c _ _).mono ?_; rw [HES.out]; rintro e w' ⟨rfl, rfl⟩)
    go_ret
    refine PR.cells (p' := pz) (ap' := none) (cp' := 0) HP.out ?hc (by rw [HR.out]) (by rw [HR.out]) (HP.out.cells ?hc ?_ ?_ ?_ ?_ ?_ ?_ (.inr ⟨rfl, rfl, rfl⟩)) (.inr rfl)
    case hc => repeat (first | (with_reducible exact Ch.refl) | (with_reducible refine Ch.alloc ?_ _) | (with_reducible refine Ch.drew ?_) | (with_reducible refine Ch.setB ?_ _ _))
    all_goals first | (intro o; simp [go_sem, kf, klt]; done) | (simp [go_sem, k_0, k_1, k_2, k_3, k_4, klt, pz]; done)
  have HR : Hid (Gr = (pz, [⟨3, n, false, [], e0⟩])) := Lib.hid (by rw [← HGG.out]; exact es4 HN.out h91 h93 h27 HCC.out)
  have ZC : Hid (Ch (fun k => k = B) w (((((w.setCell ⟨B, 0, none⟩ (.int .i64 0)).setCell ⟨B, 1, none⟩ (.slice none 0 0)).setCell ⟨B, 2, none⟩ (.bool false)).setCell ⟨B, 3, none⟩ (.string ⟨#[]⟩)).setCell ⟨B, 4, none⟩ (.string ⟨#[]⟩))) := Lib.hid (by repeat (first | (with_reducible exact Ch.refl) | (with_reducible refine Ch.alloc ?_ _) | (with_reducible refine Ch.drew ?_) | (with_reducible refine Ch.setB ?_ _ _)))
  have ZP : Hid (PS B lo pz none 0 L al cl (((((w.setCell ⟨B, 0, none⟩ (.int .i64 0)).setCell ⟨B, 1, none⟩ (.slice none 0 0)).setCell ⟨B, 2, none⟩ (.bool false)).setCell ⟨B, 3, none⟩ (.string ⟨#[]⟩)).setCell ⟨B, 4, none⟩ (.string ⟨#[]⟩))) := Lib.hid (by
    refine HP.out.cells ZC.out ?_ ?_ ?_ ?_ ?_ ?_ (.inr ⟨rfl, rfl, rfl⟩)
    all_goals first | (intro o; simp [go_sem, kf, klt]; done) | (simp [go_sem, k_0, k_1, k_2, k_3, k_4, klt, pz]; done))
  go_enter Tryd.func39, Tryd.ntmps39
  go_upto_region 15 with (go_at_call 69; refine (isEscape_c _ _).mono ?_; rw [HES.out]; rintro e w' ⟨rfl, rfl⟩)
  obtain ⟨x3, hx3⟩ : ∃ x, (((((w.setCell ⟨B, 0, none⟩ (.int .i64 0)).setCell ⟨B, 1, none⟩ (.slice none 0 0)).setCell ⟨B, 2, none⟩ (.bool false)).setCell ⟨B, 3, none⟩ (.string ⟨#[]⟩)).setCell ⟨B, 4, none⟩ (.string ⟨#[]⟩)) = x := ⟨_, rfl⟩
  rw [hx3] at ZC ZP ⊢
  clear hx3
  have hz3 := ZC.out.size
  have HSRC5 : Hid (Src Tryd.prog 5 28 (.slice (some ⟨x3.heap.size, 0, none⟩) 1 1) [(⟨⟨3, n, false, [], e0⟩, none, 0⟩ : ActA)].length ([(⟨⟨3, n, false, [], e0⟩, none, 0⟩ : ActA)].flatMap actE) (x3.alloc (.cells #[.int .i64 3, .int .i64 n, .bool false, .slice none 0 0, .string ⟨#[]⟩] 46))) := Lib.hid (Src.ofBox (enc := actE) Tryd.underlying28 (fun _ => rfl) actOne (⟨⟨3, n, false, [], e0⟩, none, 0⟩ : ActA) _ _ (by first | rfl | simp [actE]) _ rfl)
  have HRO5 : Hid (ActO lo L al cl (x3.alloc (.cells #[.int .i64 3, .int .i64 n, .bool false, .slice none 0 0, .string ⟨#[]⟩] 46))) := Lib.hid (ZP.out.ro.keep actL ((Below.refl _ _).alloc (Nat.le_refl _) _))
  go_wp2_with (at_builtin; refine wpList_append_ch (.tmp 51) (.tmp 55) 28 28 lo 46 iA (.agg #[.int .i64 0, .int .i64 0, .bool false, .slice none 0 0, .string ⟨#[]⟩]) 5 64 Tryd.underlying28 hA hA0 hA1 hA2 rfl (by decide) al L.length cl L HRO5.out.row (.slice (some ⟨x3.heap.size, 0, none⟩) 1 1) [(⟨⟨3, n, false, [], e0⟩, none, 0⟩ : ActA)] HSRC5.out (by simp; omega) (by simp; omega) rfl rfl rfl rfl ?_)
  intro a5 c5 w5 us5 hus hf hc hk
  have HUS5 := hus
  have HF5 := Lib.hid hf
  have HC5 : Hid (Ch (· ∈ blkOf al) x3 w5) := Lib.hid ((Ch.refl.alloc _).trans hc (fun i hi => .inl hi))
  have HK5 : Hid (∀ j ∈ blkOf a5, j ∈ blkOf al ∨ j = (x3.alloc (.cells #[.int .i64 3, .int .i64 n, .bool false, .slice none 0 0, .string ⟨#[]⟩] 46)).heap.size) := Lib.hid (fun j hj => by simpa using hk j hj)
  have HCA5 := Lib.hid hc
  clear hus hf hc hk
  go_wp2_with fail
  go_ret
  exact PR.push (p' := pz) (ap' := none) (cp' := 0) (w1 := x3.alloc (.cells #[.int .i64 3, .int .i64 n, .bool false, .slice none 0 0, .string ⟨#[]⟩] 46)) HP.out (x := ⟨⟨3, n, false, [], e0⟩, none, 0⟩) rfl HUS5.out HK5.out (by simp; omega) ((ZC.out.mono (M := fun k => k = B ∨ k ∈ blkOf al) (fun i hi => .inl (.inl hi))).trans HC5.out (fun i hi => .inl (.inr hi))) (by rw [HR.out]) (by rw [HR.out]; try rfl) ((ZP.out.keep ((Below.refl _ _).alloc (Nat.le_refl _) (.cells #[.int .i64 3, .int .i64 n, .bool false, .slice none 0 0, .string ⟨#[]⟩] 46))).push ⟨rfl, rfl, rfl⟩ HUS5.out HF5.out HCA5.out HK5.out) (.inr rfl)
end
end Go.Proofs.YtlhhlmalihajcaaDoor
