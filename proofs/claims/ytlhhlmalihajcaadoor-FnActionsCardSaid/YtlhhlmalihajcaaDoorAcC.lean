/- Actions drawn. No conditions but sizes. -/
import Derived.Test.YtlhhlmalihajcaaDoorAcA
import Derived.Test.YtlhhlmalihajcaaDoorAcB
import Derived.Test.YtlhhlmalihajcaaDoorSqA
namespace Go.Proofs.YtlhhlmalihajcaaDoor
set_option linter.unusedVariables false
set_option linter.unusedSimpArgs false
section
open Go.RowKit
def phi (p : PV) : Nat := if p.state = 0 ∨ p.state = 1 ∨ p.state = 2 ∨ p.state = 3 ∨ p.state = 4 ∨ p.state = 5 then 0 else 1
theorem phi_lo {p : PV} (h : p.state = 0 ∨ p.state = 1 ∨ p.state = 2 ∨ p.state = 3 ∨ p.state = 4 ∨ p.state = 5) : phi p = 0 := if_pos h
theorem phi_le (p : PV) : phi p ≤ 1 := by unfold phi; split <;> omega
theorem phi_pz : phi pz = 0 := rfl
theorem phi_pst1 : phi (pst 1) = 0 := rfl
theorem phi_pst3 : phi (pst 3) = 0 := rfl
theorem phi_pst4 : phi (pst 4) = 0 := rfl
theorem gstep_len (b : UInt8) : (gstep b).2.length + phi (gstep b).1 ≤ 1 := by
  unfold gstep
  repeat' split
  all_goals simp only [phi_pz, phi_pst1, List.length_nil, List.length_cons]
  all_goals first | omega | (have := phi_le ⟨6, [], false, e0, ⟨#[b]⟩⟩; omega)
theorem estep_len (b : UInt8) : (estep b).2.length + phi (estep b).1 ≤ 1 := by
  unfold estep
  repeat' split
  all_goals simp only [phi_pz, phi_pst1, phi_pst4, List.length_nil, List.length_cons]
  all_goals first | omega | (have := phi_le ⟨2, [-1], false, e0, e0⟩; omega)
theorem pstep_len (p : PV) (b : UInt8) : (pstep p b).2.length + phi (pstep p b).1 ≤ 1 + phi p := by
  unfold pstep
  split
  · have := gstep_len b; omega
  split
  · have := estep_len b; omega
  split
  · rename_i h
    unfold cstep
    repeat' split
    all_goals simp only [phi_pz, phi_pst1, phi_pst3, List.length_nil, List.length_cons]
    all_goals first | omega | (simp only [phi, h]; simp)
  split
  · rename_i h
    unfold sstep
    repeat' split
    all_goals simp only [phi_pz, phi_pst1, List.length_nil, List.length_cons]
    all_goals first | omega | (simp only [phi, h]; simp)
  split
  · rename_i h
    unfold ostep
    repeat' split
    all_goals simp only [phi_pz, phi_pst1, List.length_nil, List.length_cons]
    all_goals first | omega | (simp only [phi, h]; simp)
  split
  · rename_i h
    unfold qstep
    split
    · simp only [phi_pz, List.length_cons, List.length_nil]; omega
    · have := estep_len b; omega
  · rename_i h0 h1 h2 h3 h4 h5
    have hp : phi p = 1 := by unfold phi; rw [if_neg (by omega)]
    unfold ustep
    split
    · have := gstep_len b
      simp only [List.length_cons]
      omega
    split
    · have := phi_le { p with utf := p.utf ++ ⟨#[b]⟩ }
      simp only [List.length_nil]
      omega
    · simp only [phi_pz, List.length_cons, List.length_nil]; omega
theorem prun_len (l : List UInt8) (p : PV) : (prun p l).2.length + phi (prun p l).1 ≤ l.length + phi p := by
  induction l generalizing p with
  | nil => simp [prun]
  | cons b l ih =>
    have h1 := pstep_len p b
    have h2 := ih (pstep p b).1
    simp only [prun, List.length_append, List.length_cons]
    omega
theorem prun_len0 (l : List UInt8) : (prun pz l).2.length ≤ l.length := by
  have := prun_len l pz
  rw [phi_pz] at this
  omega
end
section
open Go.RowKit
def ParF (w : World) (e : Ending) (w' : World) : Prop :=
  ∃ a : Option Addr, e = .returned (.agg #[.int .i64 0, .slice a 0 0, .bool false, .string ⟨#[]⟩, .string ⟨#[]⟩]) ∧ FreshIn intE 3 1 w.heap.size w'.heap.size (.slice a 0 0) ([] : List Int) w' ∧ Below w.heap.size w w'
set_option maxRecDepth 100000 in
set_option maxHeartbeats 2000000 in
theorem firstParser_c (w : World) : Calls Tryd.prog 29 #[] w (ParF w) := by
  go_enter Tryd.func29, Tryd.ntmps29
  go_wp2_with fail
  refine bodyPost_ret (v := .agg #[.int .i64 0, .slice (some ⟨w.heap.size + 1, 0, none⟩) 0 0, .bool false, .string ⟨#[]⟩, .string ⟨#[]⟩]) (by simp [results, Tryd.results29, go_sem]) rfl ?_
  refine ⟨some ⟨w.heap.size + 1, 0, none⟩, rfl, ?_, ((Below.refl w.heap.size w).alloc (Nat.le_refl _) _).alloc (by simp) _⟩
  exact fresh_zero w.heap.size (w.alloc (.cells #[.int .i64 0, .slice (some ⟨w.heap.size + 1, 0, none⟩) 0 0, .bool false, .string ⟨#[]⟩, .string ⟨#[]⟩] 25)) (w.heap.size + 1) (by simp) (by simp)
end
section
open Go.RowKit
def ActR (w : World) (e : Ending) (w' : World) : Prop :=
  ∃ (A : AV) (aa : Option Addr) (ca : Nat), AcOK A ∧ e = .returned (.agg #[.int .i64 A.kind, .int .i64 A.n, .bool A.priv, .slice aa A.args.length ca, .string A.text]) ∧ FreshIn intE 3 1 w.heap.size w'.heap.size (.slice aa A.args.length ca) A.args w'
theorem acX : AcOK ⟨1, 120, false, [], e0⟩ := .inr ⟨rfl, rfl, .inr ⟨rfl, .inl ⟨rfl, by unfold rnOK; simp only; omega⟩⟩⟩
theorem Mid.thenB {lo hi : Nat} {w w2 wz : World} (h : Mid lo hi w w2) (hb : Below w.heap.size w2 wz) : Mid lo hi w wz := ⟨hb.os.trans h.os, hb.tape.trans h.tape, hb.output.trans h.output, Nat.le_trans h.size hb.size, fun k hk ho => (hb.block k hk).trans (h.block k hk ho)⟩
set_option maxRecDepth 100000 in
set_option maxHeartbeats 8000000 in
theorem action_c (b : Nat) (a : Option Addr) (c : Nat) (xs : List UInt8) (w : World) (h : SrcAt b a c xs 0 w) :
    Calls Tryd.prog 51 #[.pointer (some ⟨b, 0, none⟩)] w fun e w' => ActR w e w' ∧ Mid b (b + 1) w w' := by
  have HO := fun w1 (h1 : SrcAt b a c xs 0 w1) => srcOutput_c b a c xs 0 w1 h1 (by omega)
  have HRUN : ∀ (w1 : World) (ap : Option Addr) (cp : Nat) (s : ByteArray), s.size ≤ 200 → Calls Tryd.prog 41 #[.agg #[.int .i64 0, .slice ap 0 cp, .bool false, .string ⟨#[]⟩, .string ⟨#[]⟩], .string s] w1 (OutP (prun pz s.data.toList) w1) := fun w1 ap cp s hs => run_r ap cp pz s w1 (.inl rfl) (by omega) PvOK.z
  have hb0 : b < w.heap.size := h.lt
  have HS := Lib.hid h
  clear h
  go_enter Tryd.func51, Tryd.ntmps51
  go_wp2_with fail
  refine (HO _ ((HS.out.alloc _).alloc _)).mono ?_
  rintro e w1 ⟨s, ⟨hs1, hs2⟩, rfl, hsrc, hm1⟩
  have HS1 := Lib.hid hsrc
  have HM1 := Lib.hid hm1
  have hz1 := hm1.size
  clear hsrc hm1 HO
  go_wp2_with fail
  refine (HRUN w1 _ _ s hs2).mono ?_
  rintro e w2 ⟨ap2, cp2, al2, cl2, L, rfl, hf, hro, hd, hL, hb2⟩
  have HRO := Lib.hid hro
  have HS2 := Lib.hid (HS1.out.below hb2)
  have HB2 := Lib.hid hb2
  have hz2 := hb2.size
  have HOK : Hid (∀ r ∈ L, AcOK r.A) := Lib.hid (fun r hr => prun_ac s.data.toList PvOK.z r.A (by rw [← hL]; exact List.mem_map_of_mem hr))
  have HLN : Hid (L.length ≤ 200) := Lib.hid (by
    have h1 := prun_len0 s.data.toList
    have h2 : s.data.toList.length = s.size := by rw [Array.length_toList]; rfl
    have h3 := congrArg List.length hL
    rw [List.length_map] at h3
    omega)
  clear hf hro hd hL hb2 HRUN
  have u0 : w2.cell? ⟨w.heap.size, 0, none⟩ = some (.int .i64 0) := (HB2.out.cell (p := ⟨w.heap.size, 0, none⟩) (by show w.heap.size < _; simp at hz1; omega)).trans ((HM1.out.cell (p := ⟨w.heap.size, 0, none⟩) (by show w.heap.size < _; simp; omega) (.inr (by show b + 1 ≤ w.heap.size; omega))).trans (by simp [go_sem]))
  have u1 : w2.cell? ⟨w.heap.size, 1, none⟩ = some (.int .i64 0) := (HB2.out.cell (p := ⟨w.heap.size, 1, none⟩) (by show w.heap.size < _; simp at hz1; omega)).trans ((HM1.out.cell (p := ⟨w.heap.size, 1, none⟩) (by show w.heap.size < _; simp; omega) (.inr (by show b + 1 ≤ w.heap.size; omega))).trans (by simp [go_sem]))
  have u2 : w2.cell? ⟨w.heap.size, 2, none⟩ = some (.bool false) := (HB2.out.cell (p := ⟨w.heap.size, 2, none⟩) (by show w.heap.size < _; simp at hz1; omega)).trans ((HM1.out.cell (p := ⟨w.heap.size, 2, none⟩) (by show w.heap.size < _; simp; omega) (.inr (by show b + 1 ≤ w.heap.size; omega))).trans (by simp [go_sem]))
  have u3 : w2.cell? ⟨w.heap.size, 3, none⟩ = some (.slice none 0 0) := (HB2.out.cell (p := ⟨w.heap.size, 3, none⟩) (by show w.heap.size < _; simp at hz1; omega)).trans ((HM1.out.cell (p := ⟨w.heap.size, 3, none⟩) (by show w.heap.size < _; simp; omega) (.inr (by show b + 1 ≤ w.heap.size; omega))).trans (by simp [go_sem]))
  have u4 : w2.cell? ⟨w.heap.size, 4, none⟩ = some (.string ⟨#[]⟩) := (HB2.out.cell (p := ⟨w.heap.size, 4, none⟩) (by show w.heap.size < _; simp at hz1; omega)).trans ((HM1.out.cell (p := ⟨w.heap.size, 4, none⟩) (by show w.heap.size < _; simp; omega) (.inr (by show b + 1 ≤ w.heap.size; omega))).trans (by simp [go_sem]))
  have uf : ∀ o, w2.frozen? ⟨w.heap.size, o, none⟩ = false := fun o => (HB2.out.frozen (p := ⟨w.heap.size, o, none⟩) (by show w.heap.size < _; simp at hz1; omega)).trans ((HM1.out.frozen (p := ⟨w.heap.size, o, none⟩) (by show w.heap.size < _; simp; omega) (.inr (by show b + 1 ≤ w.heap.size; omega))).trans (by simp [go_sem]))
  have ul : w.heap.size < w2.heap.size := by simp at hz1; omega
  obtain ⟨R, hR⟩ : ∃ R, (prun pz s.data.toList).1 = R := ⟨_, rfl⟩
  rw [hR]
  clear hR
  have HMID : Hid (Mid b (b + 1) w w2) := Lib.hid ((((Mid.of_below b (b + 1) ((Below.refl w.heap.size w).alloc (Nat.le_refl _) _)).alloc _).trans HM1.out).trans (Mid.of_below b (b + 1) HB2.out))
  clear HM1 HB2 HS1
  by_cases h0 : L.length = 0
  · have g0 : ((L.length : Int) == 0) = true := beq_iff_eq.2 (by omega)
    go_wp2_with fail
    refine bodyPost_ret (v := .agg #[.int .i64 1, .int .i64 120, .bool false, .slice (some ⟨w2.heap.size + 1, 0, none⟩) 0 0, .string ⟨#[]⟩]) (by simp [results, Tryd.results51, go_sem, u0, u1, u2, u3, u4, ul]) rfl ?_
    refine ⟨⟨⟨1, 120, false, [], e0⟩, some ⟨w2.heap.size + 1, 0, none⟩, 0, acX, rfl, fresh_zero w.heap.size _ (w2.heap.size + 1) (by simp) (by simp; omega)⟩, HMID.out.thenB (Ch.below (M := fun k => k = w.heap.size) ?_ (by omega) (fun k h => by omega))⟩
    repeat (first | (with_reducible exact Ch.refl) | (with_reducible refine Ch.alloc ?_ _) | (with_reducible refine Ch.setB ?_ _ _))
  · have g0 : ((L.length : Int) == 0) = false := beq_eq_false_iff_ne.2 (by omega)
    have HN := Lib.hid (srcNext_c b a c xs 9 L.length (w2.alloc (.cells #[.int .i64 R.state, .slice ap2 R.args.length cp2, .bool R.priv, .string R.text, .string R.utf] 25)) (HS2.out.alloc _) (by omega) (by omega) (by have := HLN.out; omega))
    go_wp2_with fail
    refine HN.out.mono ?_
    rintro e w3 ⟨n, hn, rfl, hs3, hm3⟩
    have hz3 := hm3.size
    simp only [World.size_alloc] at hz3
    have hz0 : w.heap.size + 1 < w1.heap.size := by simp at hz1; omega
    have HA : Hid (Sl actE 5 w2 al2 L) := Lib.hid (HRO.out.row.sl (fun _ => rfl))
    obtain ⟨b1, o1, rfl, hb1, hc1⟩ := HA.out.at hn
    have hb1' := (FreshIn.blks HRO.out.row b1 (by simp [blkOf])).1
    obtain ⟨r, hr⟩ : ∃ r, L[n] = r := ⟨_, rfl⟩
    have hrm : r ∈ L := hr ▸ List.getElem_mem hn
    have HAC := Lib.hid (HOK.out r hrm)
    have v0 : w3.cell? ⟨w.heap.size, 0, none⟩ = some (.int .i64 0) := (hm3.cell (p := ⟨w.heap.size, 0, none⟩) (by show w.heap.size < _; simp; omega) (.inr (by show b + 1 ≤ w.heap.size; omega))).trans ((World.cell?_alloc_lt _ _ _ ul).trans u0)
    have v1 : w3.cell? ⟨w.heap.size, 1, none⟩ = some (.int .i64 0) := (hm3.cell (p := ⟨w.heap.size, 1, none⟩) (by show w.heap.size < _; simp; omega) (.inr (by show b + 1 ≤ w.heap.size; omega))).trans ((World.cell?_alloc_lt _ _ _ ul).trans u1)
    have v2 : w3.cell? ⟨w.heap.size, 2, none⟩ = some (.bool false) := (hm3.cell (p := ⟨w.heap.size, 2, none⟩) (by show w.heap.size < _; simp; omega) (.inr (by show b + 1 ≤ w.heap.size; omega))).trans ((World.cell?_alloc_lt _ _ _ ul).trans u2)
    have v3 : w3.cell? ⟨w.heap.size, 3, none⟩ = some (.slice none 0 0) := (hm3.cell (p := ⟨w.heap.size, 3, none⟩) (by show w.heap.size < _; simp; omega) (.inr (by show b + 1 ≤ w.heap.size; omega))).trans ((World.cell?_alloc_lt _ _ _ ul).trans u3)
    have v4 : w3.cell? ⟨w.heap.size, 4, none⟩ = some (.string ⟨#[]⟩) := (hm3.cell (p := ⟨w.heap.size, 4, none⟩) (by show w.heap.size < _; simp; omega) (.inr (by show b + 1 ≤ w.heap.size; omega))).trans ((World.cell?_alloc_lt _ _ _ ul).trans u4)
    have vf : ∀ o, w3.frozen? ⟨w.heap.size, o, none⟩ = false := fun o => (hm3.frozen (p := ⟨w.heap.size, o, none⟩) (by show w.heap.size < _; simp; omega) (.inr (by show b + 1 ≤ w.heap.size; omega))).trans ((((Below.refl w2.heap.size w2).alloc (Nat.le_refl _) _).frozen (p := ⟨w.heap.size, o, none⟩) ul).trans (uf o))
    have vl : w.heap.size < w3.heap.size := by omega
    have d0 : w3.cell? ⟨b1, o1 + n * 5, none⟩ = some (.int .i64 r.A.kind) := (hm3.cell (p := ⟨b1, o1 + n * 5, none⟩) (by show b1 < _; simp; omega) (.inr (by show b + 1 ≤ b1; omega))).trans ((World.cell?_alloc_lt _ _ _ hb1).trans (by have := hc1 n hn 0 (by omega); rw [hr] at this; simpa [actE] using this))
    have d1 : w3.cell? ⟨b1, o1 + n * 5 + 1, none⟩ = some (.int .i64 r.A.n) := (hm3.cell (p := ⟨b1, o1 + n * 5 + 1, none⟩) (by show b1 < _; simp; omega) (.inr (by show b + 1 ≤ b1; omega))).trans ((World.cell?_alloc_lt _ _ _ hb1).trans (by have := hc1 n hn 1 (by omega); rw [hr] at this; simpa [actE] using this))
    have d2 : w3.cell? ⟨b1, o1 + n * 5 + 2, none⟩ = some (.bool r.A.priv) := (hm3.cell (p := ⟨b1, o1 + n * 5 + 2, none⟩) (by show b1 < _; simp; omega) (.inr (by show b + 1 ≤ b1; omega))).trans ((World.cell?_alloc_lt _ _ _ hb1).trans (by have := hc1 n hn 2 (by omega); rw [hr] at this; simpa [actE] using this))
    have d3 : w3.cell? ⟨b1, o1 + n * 5 + 3, none⟩ = some (.slice r.aa r.A.args.length r.ca) := (hm3.cell (p := ⟨b1, o1 + n * 5 + 3, none⟩) (by show b1 < _; simp; omega) (.inr (by show b + 1 ≤ b1; omega))).trans ((World.cell?_alloc_lt _ _ _ hb1).trans (by have := hc1 n hn 3 (by omega); rw [hr] at this; simpa [actE] using this))
    have d4 : w3.cell? ⟨b1, o1 + n * 5 + 4, none⟩ = some (.string r.A.text) := (hm3.cell (p := ⟨b1, o1 + n * 5 + 4, none⟩) (by show b1 < _; simp; omega) (.inr (by show b + 1 ≤ b1; omega))).trans ((World.cell?_alloc_lt _ _ _ hb1).trans (by have := hc1 n hn 4 (by omega); rw [hr] at this; simpa [actE] using this))
    have hbl := FreshIn.blks (HRO.out.ow r hrm)
    have HF : Hid (FreshIn intE 3 1 w1.heap.size w3.heap.size (.slice r.aa r.A.args.length r.ca) r.A.args w3) := Lib.hid (FreshIn.ch ((HRO.out.ow r hrm).mono (Nat.le_refl _) (by omega)) ((Ch.refl (M := fun k => k = b)).alloc (.cells #[.int .i64 R.state, .slice ap2 R.args.length cp2, .bool R.priv, .string R.text, .string R.utf] 25) |>.trans (Ch.of_mid (M := fun k => k = b) hm3 (fun k h1 h2 _ => by omega)) (fun i h => .inl h)) (fun k hk h => by have := (hbl k hk).1; omega))
    have HMID3 : Hid (Mid b (b + 1) w w3) := Lib.hid ((HMID.out.alloc _).trans hm3)
    clear hc1 hs3 hm3 u0 u1 u2 u3 u4 uf HN HOK HA HRO HS2 HMID
    have hni : (n : Int) < (L.length : Int) := by omega
    go_wp2_with fail
    refine bodyPost_ret (v := .agg #[.int .i64 r.A.kind, .int .i64 r.A.n, .bool r.A.priv, .slice r.aa r.A.args.length r.ca, .string r.A.text]) (by simp [results, Tryd.results51, go_sem, v0, v1, v2, v3, v4, vl]) rfl ?_
    have hfin : ∀ wz, Ch (fun k => k = w.heap.size) w3 wz → ActR w (.returned (.agg #[.int .i64 r.A.kind, .int .i64 r.A.n, .bool r.A.priv, .slice r.aa r.A.args.length r.ca, .string r.A.text])) wz ∧ Mid b (b + 1) w wz := fun wz hc => by
      refine ⟨⟨r.A, r.aa, r.ca, HAC.out, rfl, ?_⟩, HMID3.out.thenB (hc.below (by omega) (fun k h => by omega))⟩
      have hfb := FreshIn.blks HF.out
      exact (HF.out.ch hc (fun k hk h => by have := (hfb k hk).1; omega)).mono (by omega) (Nat.le_refl _)
    refine hfin _ ?_
    repeat (first | (with_reducible exact Ch.refl) | (with_reducible refine Ch.alloc ?_ _) | (with_reducible refine Ch.setB ?_ _ _))
end
section
open Go.RowKit
set_option maxRecDepth 100000 in
set_option maxHeartbeats 8000000 in
theorem actionOf_c (a : Option Addr) (c : Nat) (xs : List UInt8) (w : World) (ha : Sl byteE 1 w a xs) (hl : xs.length ≤ 1048576) :
    Calls Tryd.prog 26 #[.slice a xs.length c] w fun e w' => ActR w e w' ∧ Below w.heap.size w w' := by
  have HS := Lib.hid (l00Source_c a c xs (w.alloc (.cells #[.int .i64 0, .int .i64 0, .bool false, .slice none 0 0, .string ⟨#[]⟩] 46)) (ha.alloc _) hl)
  clear ha
  go_enter Tryd.func26, Tryd.ntmps26
  go_wp2_with fail
  refine HS.out.mono ?_
  rintro e w1 ⟨rfl, hs1, hb1⟩
  have HB1 := Lib.hid hb1
  have hz1 := hb1.size
  simp only [World.size_alloc] at hz1 hs1
  have hlt1 := hs1.lt
  have HP := Lib.hid (action_c (w.heap.size + 1) a c xs w1 hs1)
  have r1_0 : w1.cell? ⟨w.heap.size, 0, none⟩ = some (.int .i64 0) := (hb1.cell (p := ⟨w.heap.size, 0, none⟩) (by show w.heap.size < _; simp)).trans (by simp [go_sem])
  have r1_1 : w1.cell? ⟨w.heap.size, 1, none⟩ = some (.int .i64 0) := (hb1.cell (p := ⟨w.heap.size, 1, none⟩) (by show w.heap.size < _; simp)).trans (by simp [go_sem])
  have r1_2 : w1.cell? ⟨w.heap.size, 2, none⟩ = some (.bool false) := (hb1.cell (p := ⟨w.heap.size, 2, none⟩) (by show w.heap.size < _; simp)).trans (by simp [go_sem])
  have r1_3 : w1.cell? ⟨w.heap.size, 3, none⟩ = some (.slice none 0 0) := (hb1.cell (p := ⟨w.heap.size, 3, none⟩) (by show w.heap.size < _; simp)).trans (by simp [go_sem])
  have r1_4 : w1.cell? ⟨w.heap.size, 4, none⟩ = some (.string ⟨#[]⟩) := (hb1.cell (p := ⟨w.heap.size, 4, none⟩) (by show w.heap.size < _; simp)).trans (by simp [go_sem])
  have rf1 : ∀ o, w1.frozen? ⟨w.heap.size, o, none⟩ = false := fun o => (hb1.frozen (p := ⟨w.heap.size, o, none⟩) (by show w.heap.size < _; simp)).trans (by simp [go_sem])
  clear hs1 hb1
  go_wp2_with fail
  refine HP.out.mono ?_
  rintro e w2 ⟨⟨A, aa, ca, hok, rfl, hf⟩, hm⟩
  have HOK := Lib.hid hok
  have HF := Lib.hid hf
  have HM := Lib.hid hm
  have hz2 := hm.size
  have ul : w.heap.size < w2.heap.size := by omega
  have u0 : w2.cell? ⟨w.heap.size, 0, none⟩ = some (.int .i64 0) := (hm.cell (p := ⟨w.heap.size, 0, none⟩) (by show w.heap.size < _; omega) (.inl (by show w.heap.size < _; omega))).trans r1_0
  have u1 : w2.cell? ⟨w.heap.size, 1, none⟩ = some (.int .i64 0) := (hm.cell (p := ⟨w.heap.size, 1, none⟩) (by show w.heap.size < _; omega) (.inl (by show w.heap.size < _; omega))).trans r1_1
  have u2 : w2.cell? ⟨w.heap.size, 2, none⟩ = some (.bool false) := (hm.cell (p := ⟨w.heap.size, 2, none⟩) (by show w.heap.size < _; omega) (.inl (by show w.heap.size < _; omega))).trans r1_2
  have u3 : w2.cell? ⟨w.heap.size, 3, none⟩ = some (.slice none 0 0) := (hm.cell (p := ⟨w.heap.size, 3, none⟩) (by show w.heap.size < _; omega) (.inl (by show w.heap.size < _; omega))).trans r1_3
  have u4 : w2.cell? ⟨w.heap.size, 4, none⟩ = some (.string ⟨#[]⟩) := (hm.cell (p := ⟨w.heap.size, 4, none⟩) (by show w.heap.size < _; omega) (.inl (by show w.heap.size < _; omega))).trans r1_4
  have uf : ∀ o, w2.frozen? ⟨w.heap.size, o, none⟩ = false := fun o => (hm.frozen (p := ⟨w.heap.size, o, none⟩) (by show w.heap.size < _; omega) (.inl (by show w.heap.size < _; omega))).trans (rf1 o)
  clear hok hf hm
  go_wp2_with fail
  refine bodyPost_ret (v := .agg #[.int .i64 A.kind, .int .i64 A.n, .bool A.priv, .slice aa A.args.length ca, .string A.text]) (by simp [results, Tryd.results26, go_sem, u0, u1, u2, u3, u4, ul]) rfl ?_
  have hfin : ∀ wz, Ch (fun k => k = w.heap.size) w2 wz → ActR w (.returned (.agg #[.int .i64 A.kind, .int .i64 A.n, .bool A.priv, .slice aa A.args.length ca, .string A.text])) wz ∧ Below w.heap.size w wz := fun wz hc => by
    refine ⟨⟨A, aa, ca, HOK.out, rfl, ?_⟩, ?_⟩
    · have hfb := FreshIn.blks HF.out
      exact (HF.out.ch hc (fun k hk h => by have := (hfb k hk).1; omega)).mono (by omega) (Nat.le_refl _)
    · exact (((Below.refl w.heap.size w).alloc (Nat.le_refl _) _).trans (HB1.out.mono (by simp)) |>.trans (HM.out.below (by omega) (by omega))).trans (hc.below (by omega) (fun k h => by omega))
  refine hfin _ ?_
  repeat (first | (with_reducible exact Ch.refl) | (with_reducible refine Ch.alloc ?_ _) | (with_reducible refine Ch.setB ?_ _ _))
end
end Go.Proofs.YtlhhlmalihajcaaDoor
