/- Marks on rows: markMessageS, heldMessageS of the laws. No conditions but sizes. -/
import Derived.Test.YtcakldgbhjkkfaaRw
import Derived.Test.YtcakldgbhjkkfaaClu
namespace Go.Proofs.Ytcakldgbhjkkfaa
set_option linter.unusedVariables false
set_option linter.unusedSimpArgs false
open Go.RowKit
def messageBlk (r : MsgA) : List Nat := blkOf r.ae
def messageOwn (B : Nat) (w : World) (r : MsgA) : Prop := FreshIn entE 48 2 B w.heap.size (.slice r.ae r.M.ents.length r.ce) r.M.ents w
def messageCnt (r : MsgA) : Nat := 8 + 2 * r.M.ents.length
def messageNum (K : Nat) : List MsgA → Nat
  | [] => K
  | r :: rs => messageNum (K + messageCnt r) rs
def messageMk (r : MsgA) (K : Nat) : MsgA := ⟨⟨((K : Nat) : Int), ((K + 1 : Nat) : Int), ((K + 2 : Nat) : Int), ((K + 3 : Nat) : Int), ((K + 4 : Nat) : Int), ((K + 5 : Nat) : Int), ((K + 6 : Nat) : Int), (((K + 7 : Nat) : Int) % 3 == 0), (List.range r.M.ents.length).map (markE (K + 8))⟩, r.ae, r.ce⟩
def messageF (rs : List MsgA) (K j : Nat) : MsgA := messageMk (rs.getD j msgZ) (messageNum K (rs.take j))
theorem messageNum_step (K : Nat) (rs : List MsgA) (q : Nat) (hq : q < rs.length) : messageNum K (rs.take (q + 1)) = messageNum K (rs.take q) + messageCnt rs[q] := by
  induction rs generalizing K q with
  | nil => simp at hq
  | cons r rs ih =>
    cases q with
    | zero => simp [messageNum]
    | succ q => simp only [List.take_succ_cons, messageNum, List.getElem_cons_succ]; exact ih _ q (by simpa using hq)
theorem messageNum_mono (K : Nat) (rs : List MsgA) : K ≤ messageNum K rs := by
  induction rs generalizing K with
  | nil => exact Nat.le_refl _
  | cons r rs ih => exact Nat.le_trans (Nat.le_add_right _ _) (ih _)
theorem messageNum_le (K : Nat) (rs : List MsgA) (q : Nat) (hq : q < rs.length) : messageNum K (rs.take q) + messageCnt rs[q] ≤ messageNum K rs := by
  rw [← messageNum_step K rs q hq]
  conv => rhs; rw [← List.take_append_drop (q + 1) rs]
  generalize rs.take (q + 1) = a
  generalize rs.drop (q + 1) = b
  clear hq
  induction a generalizing K with
  | nil => exact messageNum_mono _ _
  | cons r a ih => exact ih _
theorem messageNum_len (K : Nat) (rs : List MsgA) : K + rs.length ≤ messageNum K rs := by
  induction rs generalizing K with
  | nil => exact Nat.le_refl _
  | cons r rs ih =>
    have := ih (K + messageCnt r)
    have h1 : 1 ≤ messageCnt r := by unfold messageCnt; omega
    simp only [List.length_cons, messageNum]
    omega
theorem messageF_at (rs : List MsgA) (K q : Nat) (hq : q < rs.length) : messageF rs K q = messageMk rs[q] (messageNum K (rs.take q)) := by
  unfold messageF
  rw [List.getD_eq_getElem?_getD, List.getElem?_eq_getElem hq]
  rfl
theorem messageOwn.upd {B g lo hi : Nat} {S : Nat → Prop} {w w' : World} {r : MsgA} (h : messageOwn B w r) (hu : Upd g lo hi S w w') (hd : ∀ k ∈ messageBlk r, k ≠ g ∧ ¬ S k) : messageOwn B w' r :=
  FreshIn.upd h hu (fun k hk => hd k (by simpa [messageBlk] using hk))
set_option maxRecDepth 100000 in
set_option maxHeartbeats 8000000 in
theorem markMessageS_c (g ca B : Nat) (rs : List MsgA) (K : Nat) (w : World) (h : RowsR msgE 9 messageOwn messageBlk B w g rs) (hK : messageNum K rs ≤ 17592186044416) :
    Calls Try.prog 11 #[.slice (some ⟨g, 0, none⟩) rs.length ca, .int .i64 K] w fun e w' => e = .returned (.int .i64 ((messageNum K rs : Nat))) ∧ RowsR msgE 9 messageOwn messageBlk B w' g ((List.range rs.length).map (messageF rs K)) ∧ Upd g 0 (rs.length * 9) (allBlk messageBlk rs) w w' := by
  have hlen : rs.length ≤ 17592186044416 := by have := messageNum_len K rs; omega
  have HK := Lib.hid hK
  clear hK
  go_enter Try.func11, Try.ntmps11
  go_wp2_with fail
  go_loopw [1, 5] (fun m i wr => ∃ q : Nat, q ≤ rs.length ∧ i = .int .i64 q ∧ m = .int .i64 ((messageNum K (rs.take q) : Nat)) ∧ RowsR msgE 9 messageOwn messageBlk B wr g (over (messageF rs K) rs q) ∧ Upd g 0 (rs.length * 9) (allBlk messageBlk rs) w wr) (fun _ i _ => rs.length - (intOf i).toNat)
  case atStart => exact ⟨0, Nat.zero_le _, rfl, rfl, by rw [over_zero]; exact h, Upd.refl⟩
  case round =>
    obtain ⟨q, hq, rfl, rfl, hr, hw⟩ := hrel
    have HR := Lib.hid hr
    have HW := Lib.hid hw
    clear hw
    have hlt0 := hr.lt
    by_cases hlt : q < rs.length
    · have hol : q < (over (messageF rs K) rs q).length := by rw [over_length _ _ _ hq]; exact hlt
      have hoa := over_at (f := messageF rs K) hlt hol
      obtain ⟨b1, o1, he1, hb1, hc1⟩ := hr.sl.at hol
      simp only [Option.some.injEq, Addr.mk.injEq] at he1
      obtain ⟨rfl, rfl, _⟩ := he1
      have c0_0 := hc1 q hol 0 (by omega)
      have c0_1 := hc1 q hol 1 (by omega)
      have c0_2 := hc1 q hol 2 (by omega)
      have c0_3 := hc1 q hol 3 (by omega)
      have c0_4 := hc1 q hol 4 (by omega)
      have c0_5 := hc1 q hol 5 (by omega)
      have c0_6 := hc1 q hol 6 (by omega)
      have c0_7 := hc1 q hol 7 (by omega)
      have c0_8 := hc1 q hol 8 (by omega)
      rw [hoa] at c0_0 c0_1 c0_2 c0_3 c0_4 c0_5 c0_6 c0_7 c0_8
      simp only [msgE, Nat.zero_add, Nat.add_zero, List.getElem?_cons_zero, List.getElem?_cons_succ] at c0_0 c0_1 c0_2 c0_3 c0_4 c0_5 c0_6 c0_7 c0_8
      clear hc1
      have f0 := hr.fz
      have hin := hr.in hol
      have hok := hr.ok q hol
      have HF := Lib.hid (messageF_at rs K q hlt)
      have HNS := Lib.hid (messageNum_step K rs q hlt)
      have HKM : Hid (messageNum K (rs.take q) + messageCnt rs[q] ≤ 17592186044416) := Lib.hid (Nat.le_trans (messageNum_le K rs q hlt) HK.out)
      have HALL : Hid (∀ k ∈ messageBlk rs[q], allBlk messageBlk rs k) := Lib.hid (fun k hk => ⟨_, List.getElem_mem hlt, hk⟩)
      have HOS : Hid ((over (messageF rs K) rs q).set q (messageF rs K q) = over (messageF rs K) rs (q + 1)) := over_step _ rs q hlt
      have hbq : messageBlk (over (messageF rs K) rs q)[q] = messageBlk rs[q] := by rw [hoa]
      rw [hoa] at hin hok
      have HBQ := Lib.hid hbq
      clear hr hoa hbq
      generalize rs[q] = r at *
      generalize messageNum K (rs.take q) = K0 at *
      have HIN := Lib.hid hin
      clear hin
      have sg_0 : Hid (∀ k ∈ blkOf r.ae, k ≠ g) := fun k hk e => HIN.out.1 (by subst e; simp [messageBlk, hk])
      unfold messageOwn at hok
      have HG0_0 := Lib.hid (hok)
      have HU0 : Hid (Upd g (q * 9) (q * 9 + 9) (· ∈ messageBlk r) wr wr) := Lib.hid Upd.refl
      have hKM := HKM.out
      unfold messageCnt at hKM
      have HKM2 := Lib.hid hKM
      have hbK0 : K0 ≤ 17592186044416 := by omega
      clear hok hKM
      have hsz1 : g < wr.heap.size := by omega
      go_wp2_with fail
      have hbd1 : K0 + 8 + 2 * r.M.ents.length ≤ 17592186044416 := (by have h1 := HKM2.out; skip; omega)
      have HC1 := Lib.hid (flat_upd (lo := q * 9) (hi := q * 9 + 9) (fun b W h2 h3 => markEntrySB_c r.ae r.ce r.M.ents (K0 + 8) b (b + 1) W h2 h3 (by omega)) HG0_0.out sg_0.out (show g < wr.heap.size by omega))
      clear hbd1
      refine (HC1.out _ (by (repeat (first | (with_reducible exact Upd.refl) | (refine Upd.setCell ?_ _ (by omega) (by omega) _))))).mono ?_
      clear HC1
      rintro e w1 ⟨rfl, hf1, hu1', hcg1⟩
      have hz1 := hu1'.size
      try simp at hz1
      have hu1 : Upd g (q * 9) (q * 9 + 9) (· ∈ blkOf r.ae) wr w1 := Upd.trans (by (repeat (first | (with_reducible exact Upd.refl) | (refine Upd.setCell ?_ _ (by omega) (by omega) _)))) hu1'
      have c1_0 : w1.cell? ⟨g, q * 9, none⟩ = some (.int .i64 ((K0 : Int))) := (hcg1 _).trans (by simp [go_sem, c0_0] <;> (first | omega | (congr 2 <;> omega)))
      have c1_1 : w1.cell? ⟨g, q * 9 + 1, none⟩ = some (.int .i64 ((K0 : Int) + 1)) := (hcg1 _).trans (by simp [go_sem, c0_1] <;> (first | omega | (congr 2 <;> omega)))
      have c1_2 : w1.cell? ⟨g, q * 9 + 2, none⟩ = some (.int .i64 ((K0 : Int) + 2)) := (hcg1 _).trans (by simp [go_sem, c0_2] <;> (first | omega | (congr 2 <;> omega)))
      have c1_3 : w1.cell? ⟨g, q * 9 + 3, none⟩ = some (.int .i64 ((K0 : Int) + 3)) := (hcg1 _).trans (by simp [go_sem, c0_3] <;> (first | omega | (congr 2 <;> omega)))
      have c1_4 : w1.cell? ⟨g, q * 9 + 4, none⟩ = some (.int .i64 ((K0 : Int) + 4)) := (hcg1 _).trans (by simp [go_sem, c0_4] <;> (first | omega | (congr 2 <;> omega)))
      have c1_5 : w1.cell? ⟨g, q * 9 + 5, none⟩ = some (.int .i64 ((K0 : Int) + 5)) := (hcg1 _).trans (by simp [go_sem, c0_5] <;> (first | omega | (congr 2 <;> omega)))
      have c1_6 : w1.cell? ⟨g, q * 9 + 6, none⟩ = some (.int .i64 ((K0 : Int) + 6)) := (hcg1 _).trans (by simp [go_sem, c0_6] <;> (first | omega | (congr 2 <;> omega)))
      have c1_7 : w1.cell? ⟨g, q * 9 + 7, none⟩ = some (.bool (((K0 : Int) + 7) % 3 == 0)) := (hcg1 _).trans (by simp [go_sem, c0_7] <;> (first | omega | (congr 2 <;> omega)))
      have c1_8 : w1.cell? ⟨g, q * 9 + 8, none⟩ = some (.slice r.ae r.M.ents.length r.ce) := (hcg1 _).trans (by simp [go_sem, c0_8] <;> (first | omega | (congr 2 <;> omega)))
      have f1 : ∀ o, w1.frozen? ⟨g, o, none⟩ = false := fun o => (hu1.fz o).trans (f0 o)
      have HG1_0 := Lib.hid hf1
      clear hf1
      have HU1 : Hid (Upd g (q * 9) (q * 9 + 9) (· ∈ messageBlk r) wr w1) := Lib.hid (HU0.out.trans (hu1.mono (Nat.le_refl _) (Nat.le_refl _) (fun k hk => by simp [messageBlk, hk])))
      clear c0_0 c0_1 c0_2 c0_3 c0_4 c0_5 c0_6 c0_7 c0_8 f0 HG0_0 HU0
      clear hu1 hu1' hcg1
      obtain ⟨K1, hk1⟩ : ∃ k, K0 + 8 + 2 * r.M.ents.length = k := ⟨_, rfl⟩
      have HE1 := Lib.hid hk1
      rw [hk1]
      clear hk1
      have hbK1 : K1 ≤ 17592186044416 := (by have h1 := HKM2.out; skip; have eHE1 := HE1.out; omega)
      have hszz : g < w1.heap.size := by omega
      go_wp2_with fail
      go_roundw
      case rel =>
        have hq2 : q * 9 + 9 ≤ rs.length * 9 := by have := Nat.mul_le_mul_right 9 (show q + 1 ≤ rs.length by omega); omega
        refine ⟨q + 1, by omega, by go_num, ?_, ?_, ?_⟩
        · rw [HNS.out]
          show Value.int .i64 _ = Value.int .i64 _
          congr 1 <;> (unfold messageCnt; have eHE1 := HE1.out; omega)
        · rw [← HOS.out, HF.out]
          refine RowsR.step HR.out hol (x := messageMk r K0) ?_ ?_ ?_ ?_ ?_
          · rw [HBQ.out]; rfl
          · rw [HBQ.out]; (repeat (first | (with_reducible exact HU1.out) | (refine Upd.setCell ?_ _ (by omega) (by omega) _)))
          · intro j hj
            match j, hj with
            | 0, _ => simp [go_sem, c1_0, messageMk, msgE] <;> (have eHE1 := HE1.out; first | omega | (congr 2 <;> omega) | (subst_vars; rfl))
            | 1, _ => simp [go_sem, c1_1, messageMk, msgE] <;> (have eHE1 := HE1.out; first | omega | (congr 2 <;> omega) | (subst_vars; rfl))
            | 2, _ => simp [go_sem, c1_2, messageMk, msgE] <;> (have eHE1 := HE1.out; first | omega | (congr 2 <;> omega) | (subst_vars; rfl))
            | 3, _ => simp [go_sem, c1_3, messageMk, msgE] <;> (have eHE1 := HE1.out; first | omega | (congr 2 <;> omega) | (subst_vars; rfl))
            | 4, _ => simp [go_sem, c1_4, messageMk, msgE] <;> (have eHE1 := HE1.out; first | omega | (congr 2 <;> omega) | (subst_vars; rfl))
            | 5, _ => simp [go_sem, c1_5, messageMk, msgE] <;> (have eHE1 := HE1.out; first | omega | (congr 2 <;> omega) | (subst_vars; rfl))
            | 6, _ => simp [go_sem, c1_6, messageMk, msgE] <;> (have eHE1 := HE1.out; first | omega | (congr 2 <;> omega) | (subst_vars; rfl))
            | 7, _ => simp [go_sem, c1_7, messageMk, msgE] <;> (have eHE1 := HE1.out; first | omega | (congr 2 <;> omega) | (subst_vars; rfl))
            | 8, _ => simp [go_sem, c1_8, messageMk, msgE] <;> (have eHE1 := HE1.out; first | omega | (congr 2 <;> omega) | (subst_vars; rfl))
          · unfold messageOwn messageMk
            exact by
              have hh := HG1_0.out.upd (by (repeat (first | (with_reducible exact Upd.refl) | (refine Upd.setCell ?_ _ (by omega) (by omega) _))) : Upd g (q * 9) (q * 9 + 9) (fun _ => False) w1 _) (fun k hk => ⟨sg_0.out k hk, fun e => e⟩)
              rw [show K0 + 8 = K0 + 8 from by have eHE1 := HE1.out; omega] at hh
              simpa using hh
          · intro r' h1 h2
            refine h1.upd (S := (· ∈ messageBlk r)) (g := g) (lo := q * 9) (hi := q * 9 + 9) (w := wr) (by (repeat (first | (with_reducible exact HU1.out) | (refine Upd.setCell ?_ _ (by omega) (by omega) _)))) (fun k hk => ⟨(h2 k hk).1, by have := (h2 k hk).2; rwa [HBQ.out] at this⟩)
        · refine HW.out.trans (Upd.mono (lo := q * 9) (hi := q * 9 + 9) (S := (· ∈ messageBlk r)) (by (repeat (first | (with_reducible exact HU1.out) | (refine Upd.setCell ?_ _ (by omega) (by omega) _)))) (Nat.zero_le _) hq2 (fun k hk => HALL.out k hk))
      case measure => simp [intOf]; omega
    · obtain rfl : q = rs.length := by omega
      go_wp2_with fail
      go_ret
      have h1 := HR.out
      rw [over_all] at h1
      refine ⟨by rw [List.take_length]; rfl, h1, HW.out⟩
set_option maxRecDepth 100000 in
set_option maxHeartbeats 8000000 in
theorem heldMessageS_c (g ca B : Nat) (rs : List MsgA) (K : Nat) (w : World) (h : RowsR msgE 9 messageOwn messageBlk B w g ((List.range rs.length).map (messageF rs K))) (hK : messageNum K rs ≤ 17592186044416) :
    Calls Try.prog 13 #[.slice (some ⟨g, 0, none⟩) rs.length ca, .int .i64 K] w fun e w' => e = .returned (.int .i64 ((messageNum K rs : Nat))) ∧ Below w.heap.size w w' := by
  have hlen : rs.length ≤ 17592186044416 := by have := messageNum_len K rs; omega
  have HK := Lib.hid hK
  have H0 := Lib.hid h
  clear hK h
  go_enter Try.func13, Try.ntmps13
  go_wp2_with fail
  go_loopw [1, 5] (fun m i wr => ∃ q : Nat, q ≤ rs.length ∧ i = .int .i64 q ∧ m = .int .i64 ((messageNum K (rs.take q) : Nat)) ∧ Below w.heap.size w wr) (fun _ i _ => rs.length - (intOf i).toNat)
  case atStart => exact ⟨0, Nat.zero_le _, rfl, rfl, Below.refl _ _⟩
  case round =>
    obtain ⟨q, hq, rfl, rfl, hw⟩ := hrel
    have HW := Lib.hid hw
    have hwz := hw.size
    have hlt0 : g < wr.heap.size := by have := H0.out.lt; omega
    by_cases hlt : q < rs.length
    · have hol : q < ((List.range rs.length).map (messageF rs K)).length := by simpa using hlt
      obtain ⟨b1, o1, he1, hb1, hc1⟩ := (H0.out.sl.keep hw).at hol
      simp only [Option.some.injEq, Addr.mk.injEq] at he1
      obtain ⟨rfl, rfl, _⟩ := he1
      have hF : ((List.range rs.length).map (messageF rs K))[q] = messageMk rs[q] (messageNum K (rs.take q)) := by simpa using messageF_at rs K q hlt
      have HO := Lib.hid (H0.out.ok q hol)
      have HNS := Lib.hid (messageNum_step K rs q hlt)
      have HKM : Hid (messageNum K (rs.take q) + messageCnt rs[q] ≤ 17592186044416) := Lib.hid (Nat.le_trans (messageNum_le K rs q hlt) HK.out)
      rw [hF] at HO
      have e0_0 := hc1 q hol 0 (by omega)
      have e0_1 := hc1 q hol 1 (by omega)
      have e0_2 := hc1 q hol 2 (by omega)
      have e0_3 := hc1 q hol 3 (by omega)
      have e0_4 := hc1 q hol 4 (by omega)
      have e0_5 := hc1 q hol 5 (by omega)
      have e0_6 := hc1 q hol 6 (by omega)
      have e0_7 := hc1 q hol 7 (by omega)
      have e0_8 := hc1 q hol 8 (by omega)
      rw [hF] at e0_0 e0_1 e0_2 e0_3 e0_4 e0_5 e0_6 e0_7 e0_8
      clear hF hc1
      generalize rs[q] = r at *
      generalize messageNum K (rs.take q) = K0 at *
      simp only [msgE, messageMk, Nat.zero_add, Nat.add_zero, List.length_map, List.length_range, List.getElem?_cons_zero, List.getElem?_cons_succ] at e0_0 e0_1 e0_2 e0_3 e0_4 e0_5 e0_6 e0_7 e0_8
      have E0_0 := Lib.hid e0_0
      have E0_1 := Lib.hid e0_1
      have E0_2 := Lib.hid e0_2
      have E0_3 := Lib.hid e0_3
      have E0_4 := Lib.hid e0_4
      have E0_5 := Lib.hid e0_5
      have E0_6 := Lib.hid e0_6
      have E0_7 := Lib.hid e0_7
      have E0_8 := Lib.hid e0_8
      clear e0_0 e0_1 e0_2 e0_3 e0_4 e0_5 e0_6 e0_7 e0_8
      have ho := HO.out
      unfold messageOwn messageMk at ho
      clear HO
      have HS_0 : Hid (Sl entE 2 w r.ae ((List.range r.M.ents.length).map (markE (K0 + 8)))) := Lib.hid (FreshIn.slr2 (fun _ => rfl) (show FreshIn entE 48 2 B w.heap.size (.slice r.ae r.M.ents.length r.ce) _ w from (by simpa using ho)))
      clear ho
      have hKM := HKM.out
      unfold messageCnt at hKM
      have HKM2 := Lib.hid hKM
      have hbK0 : K0 ≤ 17592186044416 := by omega
      clear hKM
      have c0_0 : wr.cell? ⟨g, q * 9, none⟩ = some (.int .i64 ((K0 : Int))) := E0_0.out.trans (by first | rfl | (congr 2; omega) | (simp; omega) | (simp) | (congr 2 <;> congr 1 <;> omega))
      have c0_1 : wr.cell? ⟨g, q * 9 + 1, none⟩ = some (.int .i64 ((K0 : Int) + 1)) := E0_1.out.trans (by first | rfl | (congr 2; omega) | (simp; omega) | (simp) | (congr 2 <;> congr 1 <;> omega))
      have c0_2 : wr.cell? ⟨g, q * 9 + 2, none⟩ = some (.int .i64 ((K0 : Int) + 1 + 1)) := E0_2.out.trans (by first | rfl | (congr 2; omega) | (simp; omega) | (simp) | (congr 2 <;> congr 1 <;> omega))
      have c0_3 : wr.cell? ⟨g, q * 9 + 3, none⟩ = some (.int .i64 ((K0 : Int) + 1 + 1 + 1)) := E0_3.out.trans (by first | rfl | (congr 2; omega) | (simp; omega) | (simp) | (congr 2 <;> congr 1 <;> omega))
      have c0_4 : wr.cell? ⟨g, q * 9 + 4, none⟩ = some (.int .i64 ((K0 : Int) + 1 + 1 + 1 + 1)) := E0_4.out.trans (by first | rfl | (congr 2; omega) | (simp; omega) | (simp) | (congr 2 <;> congr 1 <;> omega))
      have c0_5 : wr.cell? ⟨g, q * 9 + 5, none⟩ = some (.int .i64 ((K0 : Int) + 1 + 1 + 1 + 1 + 1)) := E0_5.out.trans (by first | rfl | (congr 2; omega) | (simp; omega) | (simp) | (congr 2 <;> congr 1 <;> omega))
      have c0_6 : wr.cell? ⟨g, q * 9 + 6, none⟩ = some (.int .i64 ((K0 : Int) + 1 + 1 + 1 + 1 + 1 + 1)) := E0_6.out.trans (by first | rfl | (congr 2; omega) | (simp; omega) | (simp) | (congr 2 <;> congr 1 <;> omega))
      obtain ⟨v_7, hv_7⟩ : ∃ v, (((K0 : Int) + 1 + 1 + 1 + 1 + 1 + 1 + 1) % 3 == 0) = v := ⟨_, rfl⟩
      have hw_7 : (((K0 : Int) + 7) % 3 == 0) = v_7 := by rw [← hv_7]; congr 2 <;> omega
      have c0_7 : wr.cell? ⟨g, q * 9 + 7, none⟩ = some (.bool v_7) := E0_7.out.trans (by rw [← hv_7]; first | rfl | (congr 2; omega) | (congr 3 <;> omega) | (simp; omega) | simp)
      have c0_8 : wr.cell? ⟨g, q * 9 + 8, none⟩ = some (.slice r.ae r.M.ents.length r.ce) := E0_8.out.trans (by first | rfl | (congr 2; omega) | (simp; omega) | (simp) | (congr 2 <;> congr 1 <;> omega))
      go_wp2_with fail
      have hS := HS_0.out.keep HW.out
      rw [show K0 + 8 = K0 + 8 from (by have h1 := HKM2.out; skip; omega)] at hS
      refine (heldEntrySB_c r.ae r.ce r.M.ents.length (K0 + 8) _ hS (by have h1 := HKM2.out; skip; omega)).mono ?_
      rintro e w1 ⟨rfl, hbq⟩
      clear hS
      have hzq1 := hbq.size
      have HW1 : Hid (Below w.heap.size w w1) := Lib.hid (HW.out.trans (hbq.mono (by omega)))
      have hlq1 : g < w1.heap.size := by omega
      clear hbq
      skip
      obtain ⟨K1, hk1⟩ : ∃ k, K0 + 8 + 2 * r.M.ents.length = k := ⟨_, rfl⟩
      have HE1 := Lib.hid hk1
      rw [hk1]
      clear hk1
      have hbK1 : K1 ≤ 17592186044416 := (by have h1 := HKM2.out; skip; have eHE1 := HE1.out; omega)
      have hnK1 : decide ((K1 : Int) < 0) = false := decide_eq_false (by omega)
      go_wp2_with fail
      go_roundw
      case rel =>
        refine ⟨q + 1, by omega, by go_num, ?_, HW1.out⟩
        rw [HNS.out]
        show Value.int .i64 _ = Value.int .i64 _
        congr 1 <;> (unfold messageCnt; have eHE1 := HE1.out; omega)
      case measure => simp [intOf]; omega
    · obtain rfl : q = rs.length := by omega
      go_wp2_with fail
      go_ret
      exact ⟨by rw [List.take_length]; rfl, HW.out⟩
end Go.Proofs.Ytcakldgbhjkkfaa
