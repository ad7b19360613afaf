/- impl.recovered. No conditions but sizes. -/
import Derived.Test.YtmdjcoeijlnloaaRcv
import Derived.Deep.RegionHeld3
namespace Go.Proofs.Ytmdjcoeijlnloaa
set_option linter.unusedVariables false
set_option linter.unusedSimpArgs false
open Go.RowKit
set_option maxRecDepth 100000 in
set_option maxHeartbeats 16000000 in
theorem implRecovered_c (d : ByteArray) (s : Int) (w : World) (hd : d.size ≤ 60000) :
    Calls Try.prog 81 #[.agg #[.string d, .int .i64 s]] w (RvR (rvAll d) w) := by
  obtain ⟨i0, hi, hz0, hz1, hz2⟩ := info_parts Try.infoEntry
  unfold rvAll
  have HFR : Hid (∀ w, Calls Try.prog 137 #[.string d] w (FrsR (frs d.data.toList) w)) := Lib.hid (fun w => readFrames_c d.data.toList w (by show d.size ≤ _; omega))
  obtain ⟨hfs, hfn, hfl⟩ := frF_facts d.data.toList.length d.data.toList
  obtain ⟨⟨F, n, cd⟩, hx⟩ : ∃ x, x = frs d.data.toList := ⟨_, rfl⟩
  rw [show frF d.data.toList.length d.data.toList = frs d.data.toList from rfl, ← hx] at hfs hfn hfl
  rw [← hx] at HFR ⊢
  have hn : n ≤ d.size := hfn
  have hFl : F.length ≤ 60000 := Nat.le_trans hfl hd
  have HFS := Lib.hid hfs
  clear hfs hfn hx hfl
  dsimp only at HFS HFR
  obtain ⟨Y, hY⟩ : ∃ Y, Y = rvX d (F, n, cd) := ⟨_, rfl⟩
  rw [← hY]
  have HY := Lib.hid hY
  clear hY
  go_enter Try.func81, Try.ntmps81
  go_wp2_with fail
  refine (HFR.out _).mono ?_
  rintro e w1 ⟨aF, cF, rfl, hfF, hb1⟩
  have hfF0 : FreshIn strE 9 1 (w.heap.size + 3) w1.heap.size (.slice aF F.length cF) F w1 := by simpa using hfF.here
  have hz1 := hb1.size
  simp only [World.size_alloc] at hz1
  have HB1 : Hid (Below w.heap.size w w1) := (by repeat (first | exact Below.refl _ _ | (refine Below.alloc ?_ (by (try simp) <;> (try omega)) _) | (refine Below.setCell ?_ (by (try simp) <;> (try omega)) _) | (refine Below.drew ?_) | (refine Below.trans ?_ (Below.mono (by assumption) (by (try simp) <;> (try omega))))))
  have HF1 := Lib.hid hfF0
  clear hfF hfF0
  dsimp only
  have q1_0_0 : w1.cell? ⟨w.heap.size, 0, none⟩ = some (.string d) := by
    rw [hb1.cell (p := ⟨w.heap.size, 0, none⟩) (show w.heap.size < _ by (try simp) <;> (try omega))]
    first | assumption | (simp [go_sem])
  have q1_0_1 : w1.cell? ⟨w.heap.size, 1, none⟩ = some (.int .i64 s) := by
    rw [hb1.cell (p := ⟨w.heap.size, 1, none⟩) (show w.heap.size < _ by (try simp) <;> (try omega))]
    first | assumption | (simp [go_sem])
  have q1_1_0 : w1.cell? ⟨w.heap.size + 1, 0, none⟩ = some (.int .i64 0) := by
    rw [hb1.cell (p := ⟨w.heap.size + 1, 0, none⟩) (show w.heap.size + 1 < _ by (try simp) <;> (try omega))]
    first | assumption | (simp [go_sem])
  have q1_1_1 : w1.cell? ⟨w.heap.size + 1, 1, none⟩ = some (.int .i64 0) := by
    rw [hb1.cell (p := ⟨w.heap.size + 1, 1, none⟩) (show w.heap.size + 1 < _ by (try simp) <;> (try omega))]
    first | assumption | (simp [go_sem])
  have q1_1_2 : w1.cell? ⟨w.heap.size + 1, 2, none⟩ = some (.slice none 0 0) := by
    rw [hb1.cell (p := ⟨w.heap.size + 1, 2, none⟩) (show w.heap.size + 1 < _ by (try simp) <;> (try omega))]
    first | assumption | (simp [go_sem])
  have q1_2_0 : w1.cell? ⟨w.heap.size + 1 + 1, 0, none⟩ = some (.string ⟨#[]⟩) := by
    rw [hb1.cell (p := ⟨w.heap.size + 1 + 1, 0, none⟩) (show w.heap.size + 1 + 1 < _ by (try simp) <;> (try omega))]
    first | assumption | (simp [go_sem])
  have q1_2_1 : w1.cell? ⟨w.heap.size + 1 + 1, 1, none⟩ = some (.int .i64 0) := by
    rw [hb1.cell (p := ⟨w.heap.size + 1 + 1, 1, none⟩) (show w.heap.size + 1 + 1 < _ by (try simp) <;> (try omega))]
    first | assumption | (simp [go_sem])
  have f1_1 : ∀ o, w1.frozen? ⟨w.heap.size + 1, o, none⟩ = false := fun o => by
    rw [hb1.frozen (p := ⟨w.heap.size + 1, o, none⟩) (show w.heap.size + 1 < _ by (try simp) <;> (try omega))]
    simp [go_sem]
  have f1_2 : ∀ o, w1.frozen? ⟨w.heap.size + 1 + 1, o, none⟩ = false := fun o => by
    rw [hb1.frozen (p := ⟨w.heap.size + 1 + 1, o, none⟩) (show w.heap.size + 1 + 1 < _ by (try simp) <;> (try omega))]
    simp [go_sem]
  clear hb1
  by_cases h8 : cd = 8
  · have hy8 := Lib.hid (HY.out.trans (rvX_sum d h8))
    subst h8
    go_wp2_with fail
    refine bodyPost_ret (v := .tuple #[.agg #[.int .i64 0, .int .i64 0, .slice none 0 0], .agg #[.string ⟨#[]⟩, .int .i64 0], .int .i64 8]) (by simp [results, Try.results81, go_sem, q1_1_0, q1_1_1, q1_1_2, q1_2_0, q1_2_1, f1_1, f1_2]) rfl ?_
    rw [hy8.out]
    refine ⟨none, 0, rfl, (FreshIn.nil _ _ _ _ 0 _).1, ?_⟩
    repeat (first | (with_reducible exact HB1.out) | (with_reducible refine Below.setCell ?_ ?_ _; rotate_left; ((try simp) <;> (try omega))) | (with_reducible refine Below.alloc ?_ ?_ _; rotate_left; ((try simp) <;> (try omega))) | (with_reducible refine Below.drew ?_) | (with_reducible refine Below.trans ?_ (below_drewN _ _ _)))
  have H8 := Lib.hid h8
  have h8b : decide (cd = 8) = false := by simpa using h8
  have h8c : (cd == 8) = false := by simpa using h8
  go_wp2_with fail
  go_loopw [27] (fun i wr => ∃ (k : Nat) (t1 v1 : Int) (a1 : Option Addr) (c1 : Nat) (L1 : List Ent), k ≤ F.length ∧ i = .int .i64 k ∧ Hid (rcL (t1, v1, L1) (F.drop k) = rcL (0, -1, []) F) ∧ L1.length ≤ 60 ∧ Hid (∀ e ∈ L1, e.2.size ≤ 65536) ∧ wr.cell? ⟨w1.heap.size, 0, none⟩ = some (.int .i64 t1) ∧ wr.cell? ⟨w1.heap.size, 1, none⟩ = some (.int .i64 v1) ∧ wr.cell? ⟨w1.heap.size, 2, none⟩ = some (.slice a1 L1.length c1) ∧ (∀ o, wr.frozen? ⟨w1.heap.size, o, none⟩ = false) ∧ wr.cell? ⟨w.heap.size, 0, none⟩ = some (.string d) ∧ wr.cell? ⟨w.heap.size, 1, none⟩ = some (.int .i64 s) ∧ wr.cell? ⟨w.heap.size + 1, 0, none⟩ = some (.int .i64 0) ∧ wr.cell? ⟨w.heap.size + 1, 1, none⟩ = some (.int .i64 0) ∧ wr.cell? ⟨w.heap.size + 1, 2, none⟩ = some (.slice none 0 0) ∧ wr.cell? ⟨w.heap.size + 1 + 1, 0, none⟩ = some (.string ⟨#[]⟩) ∧ wr.cell? ⟨w.heap.size + 1 + 1, 1, none⟩ = some (.int .i64 0) ∧ (∀ o, wr.frozen? ⟨w.heap.size + 1, o, none⟩ = false) ∧ (∀ o, wr.frozen? ⟨w.heap.size + 1 + 1, o, none⟩ = false) ∧ Fresh entE 109 2 (w.heap.size + 3) (.slice a1 L1.length c1) L1 wr ∧ (Value.slice a1 L1.length c1).ownBlock ≠ some w1.heap.size ∧ FreshIn strE 9 1 (w.heap.size + 3) w1.heap.size (.slice aF F.length cF) F wr ∧ Below w.heap.size w wr ∧ w1.heap.size < wr.heap.size) (fun i _ => F.length - (intOf i).toNat)
  case atStart =>
    refine ⟨0, 0, -1, none, 0, [], Nat.zero_le _, rfl, (by show _ = _; rw [List.drop_zero]), by simp, (fun e he => by cases he), by simp [go_sem], by simp [go_sem], by simp [go_sem], fun o => by simp [go_sem], (by rw [World.cell?_alloc_lt _ _ _ (by show w.heap.size < _; (try simp) <;> (try omega))]; exact q1_0_0), (by rw [World.cell?_alloc_lt _ _ _ (by show w.heap.size < _; (try simp) <;> (try omega))]; exact q1_0_1), (by rw [World.cell?_alloc_lt _ _ _ (by show w.heap.size + 1 < _; (try simp) <;> (try omega))]; exact q1_1_0), (by rw [World.cell?_alloc_lt _ _ _ (by show w.heap.size + 1 < _; (try simp) <;> (try omega))]; exact q1_1_1), (by rw [World.cell?_alloc_lt _ _ _ (by show w.heap.size + 1 < _; (try simp) <;> (try omega))]; exact q1_1_2), (by rw [World.cell?_alloc_lt _ _ _ (by show w.heap.size + 1 + 1 < _; (try simp) <;> (try omega))]; exact q1_2_0), (by rw [World.cell?_alloc_lt _ _ _ (by show w.heap.size + 1 + 1 < _; (try simp) <;> (try omega))]; exact q1_2_1), (fun o => by rw [((Below.refl _ _).alloc (Nat.le_refl _) _ : Below _ _ _).frozen (p := ⟨w.heap.size + 1, o, none⟩) (by show w.heap.size + 1 < _; (try simp) <;> (try omega))]; exact f1_1 o), (fun o => by rw [((Below.refl _ _).alloc (Nat.le_refl _) _ : Below _ _ _).frozen (p := ⟨w.heap.size + 1 + 1, o, none⟩) (by show w.heap.size + 1 + 1 < _; (try simp) <;> (try omega))]; exact f1_2 o), (FreshIn.nil _ _ _ _ 0 _).1, (by simp [Value.ownBlock]), HF1.out.alloc _, ?_, by simp⟩
    repeat (first | (with_reducible exact HB1.out) | (with_reducible refine Below.setCell ?_ ?_ _; rotate_left; ((try simp) <;> (try omega))) | (with_reducible refine Below.alloc ?_ ?_ _; rotate_left; ((try simp) <;> (try omega))) | (with_reducible refine Below.drew ?_) | (with_reducible refine Below.trans ?_ (below_drewN _ _ _)))
  case round =>
    obtain ⟨k, t1, v1, a1, c1, L1, hk, rfl, hT, hL60, hLs, s_0, s_1, s_2, sf, q_0_0, q_0_1, q_1_0, q_1_1, q_1_2, q_2_0, q_2_1, f_1, f_2, hf, hne, hFF, hbel, hBw⟩ := hrel
    have HL := Lib.hid hf
    have HFF := Lib.hid hFF
    have HBW := Lib.hid hbel
    have HNE := Lib.hid hne
    have hz := hbel.size
    have hzw1 : w.heap.size + 3 ≤ w1.heap.size := by omega
    clear hf hFF hbel hne
    have hne1 : ¬ w1.heap.size = w.heap.size := by omega
    have hne2 : ¬ w1.heap.size = w.heap.size + 1 := by omega
    have hne3 : ¬ w1.heap.size = w.heap.size + 1 + 1 := by omega
    have hne4 : ¬ w.heap.size = w1.heap.size := by omega
    have hne5 : ¬ w.heap.size + 1 = w1.heap.size := by omega
    have hne6 : ¬ w.heap.size + 1 + 1 = w1.heap.size := by omega
    by_cases hlt : k < F.length
    · obtain ⟨bF, oF, rfl, hbF, hcF⟩ := (HFF.out.sl (enc := strE) (sz := 1) (fun _ => rfl)).at hlt
      have hbF1 := HFF.out.2 bF rfl
      have c1' := hcF k hlt 0 (by omega)
      simp only [strE, Nat.mul_one, Nat.add_zero, List.getElem?_cons_zero] at c1'
      have hrs := HFS.out F[k] (List.getElem_mem hlt)
      have HDR := Lib.hid (List.drop_eq_getElem_cons hlt)
      have hi0 : (0 : Int) ≤ (k : Int) := by omega
      have hi1 : (k : Int) < (F.length : Int) := by omega
      clear hcF
      generalize F[k] = r at *
      have HSL := Lib.hid (HL.out.sl (enc := entE) (fun _ => rfl))
      have HAP : Hid (∀ w', Below wr.heap.size wr w' → Calls Try.prog 71 #[.agg #[.int .i64 t1, .int .i64 v1, .slice a1 L1.length c1], .string r] w' (AppR (apV t1 v1 L1 (rdAll r.data.toList)) w')) := Lib.hid (fun w' h => implApplied_c a1 c1 L1 t1 v1 r.data.toList w' (HSL.out.keep h) hL60 hLs.out (by show r.size ≤ _; exact hrs))
      cases hap : apV t1 v1 L1 (rdAll r.data.toList)
      case none =>
        have HAPE := Lib.hid hap
        clear hap
        go_wp2_with fail
        refine (HAP.out _ (Below.refl _ _)).mono ?_
        rw [HAPE.out]
        rintro e w2 ⟨t2, v2, a2, c2, L2, rfl, hx2, hb2⟩
        clear hx2
        have hz2 := hb2.size
        try simp only [World.size_drew] at hz2
        have HB2 : Hid (Below w.heap.size w w2) := HBW.out.trans (hb2.mono (by (try simp) <;> (try omega)))
        have nq_0_0 : w2.cell? ⟨w.heap.size, 0, none⟩ = some (.string d) := by
          rw [hb2.cell (p := ⟨w.heap.size, 0, none⟩) (show w.heap.size < _ by (try simp) <;> (try omega))]
          first | exact q_0_0 | (simp [go_sem, q_0_0])
        have nq_0_1 : w2.cell? ⟨w.heap.size, 1, none⟩ = some (.int .i64 s) := by
          rw [hb2.cell (p := ⟨w.heap.size, 1, none⟩) (show w.heap.size < _ by (try simp) <;> (try omega))]
          first | exact q_0_1 | (simp [go_sem, q_0_1])
        have nq_1_0 : w2.cell? ⟨w.heap.size + 1, 0, none⟩ = some (.int .i64 0) := by
          rw [hb2.cell (p := ⟨w.heap.size + 1, 0, none⟩) (show w.heap.size + 1 < _ by (try simp) <;> (try omega))]
          first | exact q_1_0 | (simp [go_sem, q_1_0])
        have nq_1_1 : w2.cell? ⟨w.heap.size + 1, 1, none⟩ = some (.int .i64 0) := by
          rw [hb2.cell (p := ⟨w.heap.size + 1, 1, none⟩) (show w.heap.size + 1 < _ by (try simp) <;> (try omega))]
          first | exact q_1_1 | (simp [go_sem, q_1_1])
        have nq_1_2 : w2.cell? ⟨w.heap.size + 1, 2, none⟩ = some (.slice none 0 0) := by
          rw [hb2.cell (p := ⟨w.heap.size + 1, 2, none⟩) (show w.heap.size + 1 < _ by (try simp) <;> (try omega))]
          first | exact q_1_2 | (simp [go_sem, q_1_2])
        have nq_2_0 : w2.cell? ⟨w.heap.size + 1 + 1, 0, none⟩ = some (.string ⟨#[]⟩) := by
          rw [hb2.cell (p := ⟨w.heap.size + 1 + 1, 0, none⟩) (show w.heap.size + 1 + 1 < _ by (try simp) <;> (try omega))]
          first | exact q_2_0 | (simp [go_sem, q_2_0])
        have nq_2_1 : w2.cell? ⟨w.heap.size + 1 + 1, 1, none⟩ = some (.int .i64 0) := by
          rw [hb2.cell (p := ⟨w.heap.size + 1 + 1, 1, none⟩) (show w.heap.size + 1 + 1 < _ by (try simp) <;> (try omega))]
          first | exact q_2_1 | (simp [go_sem, q_2_1])
        have ns_0 : w2.cell? ⟨w1.heap.size, 0, none⟩ = some (.int .i64 t1) := by
          rw [hb2.cell (p := ⟨w1.heap.size, 0, none⟩) (show w1.heap.size < _ by (try simp) <;> (try omega))]
          first | exact s_0 | (simp [go_sem, s_0])
        have ns_1 : w2.cell? ⟨w1.heap.size, 1, none⟩ = some (.int .i64 v1) := by
          rw [hb2.cell (p := ⟨w1.heap.size, 1, none⟩) (show w1.heap.size < _ by (try simp) <;> (try omega))]
          first | exact s_1 | (simp [go_sem, s_1])
        have ns_2 : w2.cell? ⟨w1.heap.size, 2, none⟩ = some (.slice a1 L1.length c1) := by
          rw [hb2.cell (p := ⟨w1.heap.size, 2, none⟩) (show w1.heap.size < _ by (try simp) <;> (try omega))]
          first | exact s_2 | (simp [go_sem, s_2])
        have nf_1 : ∀ o, w2.frozen? ⟨w.heap.size + 1, o, none⟩ = false := fun o => by
          rw [hb2.frozen (p := ⟨w.heap.size + 1, o, none⟩) (show w.heap.size + 1 < _ by (try simp) <;> (try omega))]
          first | exact f_1 o | (simp [go_sem, f_1])
        have nf_2 : ∀ o, w2.frozen? ⟨w.heap.size + 1 + 1, o, none⟩ = false := fun o => by
          rw [hb2.frozen (p := ⟨w.heap.size + 1 + 1, o, none⟩) (show w.heap.size + 1 + 1 < _ by (try simp) <;> (try omega))]
          first | exact f_2 o | (simp [go_sem, f_2])
        have nsf : ∀ o, w2.frozen? ⟨w1.heap.size, o, none⟩ = false := fun o => by
          rw [hb2.frozen (p := ⟨w1.heap.size, o, none⟩) (show w1.heap.size < _ by (try simp) <;> (try omega))]
          first | exact sf o | (simp [go_sem, sf])
        have hw2s : w.heap.size + 1 + 1 < w2.heap.size := by omega
        have hw2b : w1.heap.size < w2.heap.size := by omega
        have hw2c : w.heap.size + 1 < w2.heap.size := by omega
        have hw2d : w.heap.size < w2.heap.size := by omega
        have hw2F : bF < w2.heap.size := by omega
        have mq_0_0 : ∀ x, (w2.alloc x).cell? ⟨w.heap.size, 0, none⟩ = some (.string d) := fun x => by
          rw [World.cell?_alloc_lt _ _ _ (by show w.heap.size < _; omega)]
          exact nq_0_0
        have mq_0_1 : ∀ x, (w2.alloc x).cell? ⟨w.heap.size, 1, none⟩ = some (.int .i64 s) := fun x => by
          rw [World.cell?_alloc_lt _ _ _ (by show w.heap.size < _; omega)]
          exact nq_0_1
        have mq_1_0 : ∀ x, (w2.alloc x).cell? ⟨w.heap.size + 1, 0, none⟩ = some (.int .i64 0) := fun x => by
          rw [World.cell?_alloc_lt _ _ _ (by show w.heap.size + 1 < _; omega)]
          exact nq_1_0
        have mq_1_1 : ∀ x, (w2.alloc x).cell? ⟨w.heap.size + 1, 1, none⟩ = some (.int .i64 0) := fun x => by
          rw [World.cell?_alloc_lt _ _ _ (by show w.heap.size + 1 < _; omega)]
          exact nq_1_1
        have mq_1_2 : ∀ x, (w2.alloc x).cell? ⟨w.heap.size + 1, 2, none⟩ = some (.slice none 0 0) := fun x => by
          rw [World.cell?_alloc_lt _ _ _ (by show w.heap.size + 1 < _; omega)]
          exact nq_1_2
        have mq_2_0 : ∀ x, (w2.alloc x).cell? ⟨w.heap.size + 1 + 1, 0, none⟩ = some (.string ⟨#[]⟩) := fun x => by
          rw [World.cell?_alloc_lt _ _ _ (by show w.heap.size + 1 + 1 < _; omega)]
          exact nq_2_0
        have mq_2_1 : ∀ x, (w2.alloc x).cell? ⟨w.heap.size + 1 + 1, 1, none⟩ = some (.int .i64 0) := fun x => by
          rw [World.cell?_alloc_lt _ _ _ (by show w.heap.size + 1 + 1 < _; omega)]
          exact nq_2_1
        have ms_0 : ∀ x, (w2.alloc x).cell? ⟨w1.heap.size, 0, none⟩ = some (.int .i64 t1) := fun x => by
          rw [World.cell?_alloc_lt _ _ _ (by show w1.heap.size < _; omega)]
          exact ns_0
        have ms_1 : ∀ x, (w2.alloc x).cell? ⟨w1.heap.size, 1, none⟩ = some (.int .i64 v1) := fun x => by
          rw [World.cell?_alloc_lt _ _ _ (by show w1.heap.size < _; omega)]
          exact ns_1
        have ms_2 : ∀ x, (w2.alloc x).cell? ⟨w1.heap.size, 2, none⟩ = some (.slice a1 L1.length c1) := fun x => by
          rw [World.cell?_alloc_lt _ _ _ (by show w1.heap.size < _; omega)]
          exact ns_2
        have mf_1 : ∀ x o, (w2.alloc x).frozen? ⟨w.heap.size + 1, o, none⟩ = false := fun x o => by
          rw [((Below.refl _ _).alloc (Nat.le_refl _) _ : Below _ _ _).frozen (p := ⟨w.heap.size + 1, o, none⟩) (by show w.heap.size + 1 < _; omega)]
          exact nf_1 o
        have mf_2 : ∀ x o, (w2.alloc x).frozen? ⟨w.heap.size + 1 + 1, o, none⟩ = false := fun x o => by
          rw [((Below.refl _ _).alloc (Nat.le_refl _) _ : Below _ _ _).frozen (p := ⟨w.heap.size + 1 + 1, o, none⟩) (by show w.heap.size + 1 + 1 < _; omega)]
          exact nf_2 o
        have msf : ∀ x o, (w2.alloc x).frozen? ⟨w1.heap.size, o, none⟩ = false := fun x o => by
          rw [((Below.refl _ _).alloc (Nat.le_refl _) _ : Below _ _ _).frozen (p := ⟨w1.heap.size, o, none⟩) (by show w1.heap.size < _; omega)]
          exact nsf o
        clear hb2
        have hy3 := Lib.hid (HY.out.trans (rvX_bad d H8.out (by rw [← hT.out, HDR.out, rcL_none HAPE.out])))
        go_wp2_with fail
        refine bodyPost_ret (v := .tuple #[.agg #[.int .i64 0, .int .i64 0, .slice none 0 0], .agg #[.string ⟨#[]⟩, .int .i64 0], .int .i64 3]) (by simp [results, Try.results81, go_sem, mq_1_0, mq_1_1, mq_1_2, mq_2_0, mq_2_1, mf_1, mf_2, nq_1_0, nq_1_1, nq_1_2, nq_2_0, nq_2_1, nf_1, nf_2, hw2s, hw2c]) rfl ?_
        rw [hy3.out]
        refine ⟨none, 0, rfl, (FreshIn.nil _ _ _ _ 0 _).1, ?_⟩
        repeat (first | (with_reducible exact HB2.out) | (with_reducible refine Below.setCell ?_ ?_ _; rotate_left; ((try simp) <;> (try omega))) | (with_reducible refine Below.alloc ?_ ?_ _; rotate_left; ((try simp) <;> (try omega))) | (with_reducible refine Below.drew ?_) | (with_reducible refine Below.trans ?_ (below_drewN _ _ _)))
      case some x =>
        obtain ⟨t9, v9, L9⟩ := x
        have hok := stOK_facts (apV_ok hap)
        have hl9 : L9.length ≤ 60 := hok.2.2.2.2.1
        have HS9 : Hid (∀ e ∈ L9, e.2.size ≤ 65536) := Lib.hid fun e he => by have := hok.2.2.2.2.2 e he; omega
        clear hok
        have HAPE := Lib.hid hap
        clear hap
        go_wp2_with fail
        refine (HAP.out _ (Below.refl _ _)).mono ?_
        rw [HAPE.out]
        rintro e w2 ⟨t2, v2, a2, c2, L2, rfl, hx2, hb2⟩
        obtain ⟨hx3, hf2⟩ := hx2 _ rfl
        cases hx3
        clear hx2
        have hz2 := hb2.size
        try simp only [World.size_drew] at hz2
        have HB2 : Hid (Below w.heap.size w w2) := HBW.out.trans (hb2.mono (by (try simp) <;> (try omega)))
        have nq_0_0 : w2.cell? ⟨w.heap.size, 0, none⟩ = some (.string d) := by
          rw [hb2.cell (p := ⟨w.heap.size, 0, none⟩) (show w.heap.size < _ by (try simp) <;> (try omega))]
          first | exact q_0_0 | (simp [go_sem, q_0_0])
        have nq_0_1 : w2.cell? ⟨w.heap.size, 1, none⟩ = some (.int .i64 s) := by
          rw [hb2.cell (p := ⟨w.heap.size, 1, none⟩) (show w.heap.size < _ by (try simp) <;> (try omega))]
          first | exact q_0_1 | (simp [go_sem, q_0_1])
        have nq_1_0 : w2.cell? ⟨w.heap.size + 1, 0, none⟩ = some (.int .i64 0) := by
          rw [hb2.cell (p := ⟨w.heap.size + 1, 0, none⟩) (show w.heap.size + 1 < _ by (try simp) <;> (try omega))]
          first | exact q_1_0 | (simp [go_sem, q_1_0])
        have nq_1_1 : w2.cell? ⟨w.heap.size + 1, 1, none⟩ = some (.int .i64 0) := by
          rw [hb2.cell (p := ⟨w.heap.size + 1, 1, none⟩) (show w.heap.size + 1 < _ by (try simp) <;> (try omega))]
          first | exact q_1_1 | (simp [go_sem, q_1_1])
        have nq_1_2 : w2.cell? ⟨w.heap.size + 1, 2, none⟩ = some (.slice none 0 0) := by
          rw [hb2.cell (p := ⟨w.heap.size + 1, 2, none⟩) (show w.heap.size + 1 < _ by (try simp) <;> (try omega))]
          first | exact q_1_2 | (simp [go_sem, q_1_2])
        have nq_2_0 : w2.cell? ⟨w.heap.size + 1 + 1, 0, none⟩ = some (.string ⟨#[]⟩) := by
          rw [hb2.cell (p := ⟨w.heap.size + 1 + 1, 0, none⟩) (show w.heap.size + 1 + 1 < _ by (try simp) <;> (try omega))]
          first | exact q_2_0 | (simp [go_sem, q_2_0])
        have nq_2_1 : w2.cell? ⟨w.heap.size + 1 + 1, 1, none⟩ = some (.int .i64 0) := by
          rw [hb2.cell (p := ⟨w.heap.size + 1 + 1, 1, none⟩) (show w.heap.size + 1 + 1 < _ by (try simp) <;> (try omega))]
          first | exact q_2_1 | (simp [go_sem, q_2_1])
        have ns_0 : w2.cell? ⟨w1.heap.size, 0, none⟩ = some (.int .i64 t1) := by
          rw [hb2.cell (p := ⟨w1.heap.size, 0, none⟩) (show w1.heap.size < _ by (try simp) <;> (try omega))]
          first | exact s_0 | (simp [go_sem, s_0])
        have ns_1 : w2.cell? ⟨w1.heap.size, 1, none⟩ = some (.int .i64 v1) := by
          rw [hb2.cell (p := ⟨w1.heap.size, 1, none⟩) (show w1.heap.size < _ by (try simp) <;> (try omega))]
          first | exact s_1 | (simp [go_sem, s_1])
        have ns_2 : w2.cell? ⟨w1.heap.size, 2, none⟩ = some (.slice a1 L1.length c1) := by
          rw [hb2.cell (p := ⟨w1.heap.size, 2, none⟩) (show w1.heap.size < _ by (try simp) <;> (try omega))]
          first | exact s_2 | (simp [go_sem, s_2])
        have nf_1 : ∀ o, w2.frozen? ⟨w.heap.size + 1, o, none⟩ = false := fun o => by
          rw [hb2.frozen (p := ⟨w.heap.size + 1, o, none⟩) (show w.heap.size + 1 < _ by (try simp) <;> (try omega))]
          first | exact f_1 o | (simp [go_sem, f_1])
        have nf_2 : ∀ o, w2.frozen? ⟨w.heap.size + 1 + 1, o, none⟩ = false := fun o => by
          rw [hb2.frozen (p := ⟨w.heap.size + 1 + 1, o, none⟩) (show w.heap.size + 1 + 1 < _ by (try simp) <;> (try omega))]
          first | exact f_2 o | (simp [go_sem, f_2])
        have nsf : ∀ o, w2.frozen? ⟨w1.heap.size, o, none⟩ = false := fun o => by
          rw [hb2.frozen (p := ⟨w1.heap.size, o, none⟩) (show w1.heap.size < _ by (try simp) <;> (try omega))]
          first | exact sf o | (simp [go_sem, sf])
        have hw2s : w.heap.size + 1 + 1 < w2.heap.size := by omega
        have hw2b : w1.heap.size < w2.heap.size := by omega
        have hw2c : w.heap.size + 1 < w2.heap.size := by omega
        have hw2d : w.heap.size < w2.heap.size := by omega
        have hw2F : bF < w2.heap.size := by omega
        have mq_0_0 : ∀ x, (w2.alloc x).cell? ⟨w.heap.size, 0, none⟩ = some (.string d) := fun x => by
          rw [World.cell?_alloc_lt _ _ _ (by show w.heap.size < _; omega)]
          exact nq_0_0
        have mq_0_1 : ∀ x, (w2.alloc x).cell? ⟨w.heap.size, 1, none⟩ = some (.int .i64 s) := fun x => by
          rw [World.cell?_alloc_lt _ _ _ (by show w.heap.size < _; omega)]
          exact nq_0_1
        have mq_1_0 : ∀ x, (w2.alloc x).cell? ⟨w.heap.size + 1, 0, none⟩ = some (.int .i64 0) := fun x => by
          rw [World.cell?_alloc_lt _ _ _ (by show w.heap.size + 1 < _; omega)]
          exact nq_1_0
        have mq_1_1 : ∀ x, (w2.alloc x).cell? ⟨w.heap.size + 1, 1, none⟩ = some (.int .i64 0) := fun x => by
          rw [World.cell?_alloc_lt _ _ _ (by show w.heap.size + 1 < _; omega)]
          exact nq_1_1
        have mq_1_2 : ∀ x, (w2.alloc x).cell? ⟨w.heap.size + 1, 2, none⟩ = some (.slice none 0 0) := fun x => by
          rw [World.cell?_alloc_lt _ _ _ (by show w.heap.size + 1 < _; omega)]
          exact nq_1_2
        have mq_2_0 : ∀ x, (w2.alloc x).cell? ⟨w.heap.size + 1 + 1, 0, none⟩ = some (.string ⟨#[]⟩) := fun x => by
          rw [World.cell?_alloc_lt _ _ _ (by show w.heap.size + 1 + 1 < _; omega)]
          exact nq_2_0
        have mq_2_1 : ∀ x, (w2.alloc x).cell? ⟨w.heap.size + 1 + 1, 1, none⟩ = some (.int .i64 0) := fun x => by
          rw [World.cell?_alloc_lt _ _ _ (by show w.heap.size + 1 + 1 < _; omega)]
          exact nq_2_1
        have ms_0 : ∀ x, (w2.alloc x).cell? ⟨w1.heap.size, 0, none⟩ = some (.int .i64 t1) := fun x => by
          rw [World.cell?_alloc_lt _ _ _ (by show w1.heap.size < _; omega)]
          exact ns_0
        have ms_1 : ∀ x, (w2.alloc x).cell? ⟨w1.heap.size, 1, none⟩ = some (.int .i64 v1) := fun x => by
          rw [World.cell?_alloc_lt _ _ _ (by show w1.heap.size < _; omega)]
          exact ns_1
        have ms_2 : ∀ x, (w2.alloc x).cell? ⟨w1.heap.size, 2, none⟩ = some (.slice a1 L1.length c1) := fun x => by
          rw [World.cell?_alloc_lt _ _ _ (by show w1.heap.size < _; omega)]
          exact ns_2
        have mf_1 : ∀ x o, (w2.alloc x).frozen? ⟨w.heap.size + 1, o, none⟩ = false := fun x o => by
          rw [((Below.refl _ _).alloc (Nat.le_refl _) _ : Below _ _ _).frozen (p := ⟨w.heap.size + 1, o, none⟩) (by show w.heap.size + 1 < _; omega)]
          exact nf_1 o
        have mf_2 : ∀ x o, (w2.alloc x).frozen? ⟨w.heap.size + 1 + 1, o, none⟩ = false := fun x o => by
          rw [((Below.refl _ _).alloc (Nat.le_refl _) _ : Below _ _ _).frozen (p := ⟨w.heap.size + 1 + 1, o, none⟩) (by show w.heap.size + 1 + 1 < _; omega)]
          exact nf_2 o
        have msf : ∀ x o, (w2.alloc x).frozen? ⟨w1.heap.size, o, none⟩ = false := fun x o => by
          rw [((Below.refl _ _).alloc (Nat.le_refl _) _ : Below _ _ _).frozen (p := ⟨w1.heap.size, o, none⟩) (by show w1.heap.size < _; omega)]
          exact nsf o
        have HF2 := Lib.hid (HFF.out.below hb2)
        have HL2 : Hid (Fresh entE 109 2 wr.heap.size (.slice a2 L9.length c2) L9 w2) := Lib.hid (by simpa using hf2)
        clear hb2 hf2
        have hT9 : Hid (rcL (t9, v9, L9) (F.drop (k + 1)) = rcL (0, -1, []) F) := by
          show _ = _
          rw [← hT.out, HDR.out, rcL_some HAPE.out]
        all_goals
          go_wp2_with fail
          go_roundw
          case rel =>
            have hN9 : (Value.slice a2 L9.length c2).ownBlock ≠ some w1.heap.size := fun h => by
              have := (HL2.out.lt h).1
              omega
            refine ⟨k + 1, t9, v9, a2, c2, L9, by omega, by go_num, hT9, hl9, HS9, ?_, ?_, ?_, ?_, ?_, ?_, ?_, ?_, ?_, ?_, ?_, ?_, ?_, ?_, hN9, ?_, ?_, ?_⟩
            · simp [go_sem, mq_0_0, mq_0_1, mq_1_0, mq_1_1, mq_1_2, mq_2_0, mq_2_1, ms_0, ms_1, ms_2, mf_1, mf_2, msf, nq_0_0, nq_0_1, nq_1_0, nq_1_1, nq_1_2, nq_2_0, nq_2_1, ns_0, ns_1, ns_2, nf_1, nf_2, nsf, hw2b, hw2s, hw2c, hw2d, hne1, hne2, hne3, hne4, hne5, hne6]
            · simp [go_sem, mq_0_0, mq_0_1, mq_1_0, mq_1_1, mq_1_2, mq_2_0, mq_2_1, ms_0, ms_1, ms_2, mf_1, mf_2, msf, nq_0_0, nq_0_1, nq_1_0, nq_1_1, nq_1_2, nq_2_0, nq_2_1, ns_0, ns_1, ns_2, nf_1, nf_2, nsf, hw2b, hw2s, hw2c, hw2d, hne1, hne2, hne3, hne4, hne5, hne6]
            · simp [go_sem, mq_0_0, mq_0_1, mq_1_0, mq_1_1, mq_1_2, mq_2_0, mq_2_1, ms_0, ms_1, ms_2, mf_1, mf_2, msf, nq_0_0, nq_0_1, nq_1_0, nq_1_1, nq_1_2, nq_2_0, nq_2_1, ns_0, ns_1, ns_2, nf_1, nf_2, nsf, hw2b, hw2s, hw2c, hw2d, hne1, hne2, hne3, hne4, hne5, hne6]
            · intro o
              simp [go_sem, mq_0_0, mq_0_1, mq_1_0, mq_1_1, mq_1_2, mq_2_0, mq_2_1, ms_0, ms_1, ms_2, mf_1, mf_2, msf, nq_0_0, nq_0_1, nq_1_0, nq_1_1, nq_1_2, nq_2_0, nq_2_1, ns_0, ns_1, ns_2, nf_1, nf_2, nsf, hw2b, hw2s, hw2c, hw2d, hne1, hne2, hne3, hne4, hne5, hne6]
            · simp [go_sem, mq_0_0, mq_0_1, mq_1_0, mq_1_1, mq_1_2, mq_2_0, mq_2_1, ms_0, ms_1, ms_2, mf_1, mf_2, msf, nq_0_0, nq_0_1, nq_1_0, nq_1_1, nq_1_2, nq_2_0, nq_2_1, ns_0, ns_1, ns_2, nf_1, nf_2, nsf, hw2b, hw2s, hw2c, hw2d, hne1, hne2, hne3, hne4, hne5, hne6]
            · simp [go_sem, mq_0_0, mq_0_1, mq_1_0, mq_1_1, mq_1_2, mq_2_0, mq_2_1, ms_0, ms_1, ms_2, mf_1, mf_2, msf, nq_0_0, nq_0_1, nq_1_0, nq_1_1, nq_1_2, nq_2_0, nq_2_1, ns_0, ns_1, ns_2, nf_1, nf_2, nsf, hw2b, hw2s, hw2c, hw2d, hne1, hne2, hne3, hne4, hne5, hne6]
            · simp [go_sem, mq_0_0, mq_0_1, mq_1_0, mq_1_1, mq_1_2, mq_2_0, mq_2_1, ms_0, ms_1, ms_2, mf_1, mf_2, msf, nq_0_0, nq_0_1, nq_1_0, nq_1_1, nq_1_2, nq_2_0, nq_2_1, ns_0, ns_1, ns_2, nf_1, nf_2, nsf, hw2b, hw2s, hw2c, hw2d, hne1, hne2, hne3, hne4, hne5, hne6]
            · simp [go_sem, mq_0_0, mq_0_1, mq_1_0, mq_1_1, mq_1_2, mq_2_0, mq_2_1, ms_0, ms_1, ms_2, mf_1, mf_2, msf, nq_0_0, nq_0_1, nq_1_0, nq_1_1, nq_1_2, nq_2_0, nq_2_1, ns_0, ns_1, ns_2, nf_1, nf_2, nsf, hw2b, hw2s, hw2c, hw2d, hne1, hne2, hne3, hne4, hne5, hne6]
            · simp [go_sem, mq_0_0, mq_0_1, mq_1_0, mq_1_1, mq_1_2, mq_2_0, mq_2_1, ms_0, ms_1, ms_2, mf_1, mf_2, msf, nq_0_0, nq_0_1, nq_1_0, nq_1_1, nq_1_2, nq_2_0, nq_2_1, ns_0, ns_1, ns_2, nf_1, nf_2, nsf, hw2b, hw2s, hw2c, hw2d, hne1, hne2, hne3, hne4, hne5, hne6]
            · simp [go_sem, mq_0_0, mq_0_1, mq_1_0, mq_1_1, mq_1_2, mq_2_0, mq_2_1, ms_0, ms_1, ms_2, mf_1, mf_2, msf, nq_0_0, nq_0_1, nq_1_0, nq_1_1, nq_1_2, nq_2_0, nq_2_1, ns_0, ns_1, ns_2, nf_1, nf_2, nsf, hw2b, hw2s, hw2c, hw2d, hne1, hne2, hne3, hne4, hne5, hne6]
            · simp [go_sem, mq_0_0, mq_0_1, mq_1_0, mq_1_1, mq_1_2, mq_2_0, mq_2_1, ms_0, ms_1, ms_2, mf_1, mf_2, msf, nq_0_0, nq_0_1, nq_1_0, nq_1_1, nq_1_2, nq_2_0, nq_2_1, ns_0, ns_1, ns_2, nf_1, nf_2, nsf, hw2b, hw2s, hw2c, hw2d, hne1, hne2, hne3, hne4, hne5, hne6]
            · intro o
              simp [go_sem, mq_0_0, mq_0_1, mq_1_0, mq_1_1, mq_1_2, mq_2_0, mq_2_1, ms_0, ms_1, ms_2, mf_1, mf_2, msf, nq_0_0, nq_0_1, nq_1_0, nq_1_1, nq_1_2, nq_2_0, nq_2_1, ns_0, ns_1, ns_2, nf_1, nf_2, nsf, hw2b, hw2s, hw2c, hw2d, hne1, hne2, hne3, hne4, hne5, hne6]
            · intro o
              simp [go_sem, mq_0_0, mq_0_1, mq_1_0, mq_1_1, mq_1_2, mq_2_0, mq_2_1, ms_0, ms_1, ms_2, mf_1, mf_2, msf, nq_0_0, nq_0_1, nq_1_0, nq_1_1, nq_1_2, nq_2_0, nq_2_1, ns_0, ns_1, ns_2, nf_1, nf_2, nsf, hw2b, hw2s, hw2c, hw2d, hne1, hne2, hne3, hne4, hne5, hne6]
            · refine Fresh.mono (B := wr.heap.size) ?_ (by omega)
              repeat (first | (with_reducible exact HL2.out) | (with_reducible refine Fresh.setNe ?_ hN9 _ _) | (with_reducible refine Fresh.alloc ?_ _))
            · repeat (first | (with_reducible exact HF2.out) | (with_reducible refine FreshIn.setHi ?_ ?_ _; rotate_left; ((try simp) <;> (try omega))) | (with_reducible refine FreshIn.alloc ?_ _))
            · repeat (first | (with_reducible exact HB2.out) | (with_reducible refine Below.setCell ?_ ?_ _; rotate_left; ((try simp) <;> (try omega))) | (with_reducible refine Below.alloc ?_ ?_ _; rotate_left; ((try simp) <;> (try omega))) | (with_reducible refine Below.drew ?_) | (with_reducible refine Below.trans ?_ (below_drewN _ _ _)))
            · simp; omega
          case measure => simp [intOf]; omega
    · obtain rfl : k = F.length := by omega
      have hy0 := Lib.hid (HY.out.trans (rvX_ok d H8.out (st := (t1, v1, L1)) (by rw [← hT.out, List.drop_length, rcL_nil])))
      have hns : (n : Int) ≤ (d.size : Int) := by omega
      have hn0 : (0 : Int) ≤ (n : Int) := by omega
      go_wp2_with fail
      go_region_held3 (fun w' => w'.cell? ⟨w1.heap.size, 0, none⟩ = some (.int .i64 t1) ∧ w'.cell? ⟨w1.heap.size, 1, none⟩ = some (.int .i64 v1) ∧ w'.cell? ⟨w1.heap.size, 2, none⟩ = some (.slice a1 L1.length c1) ∧ w'.cell? ⟨w.heap.size, 0, none⟩ = some (.string d))
        (first | ((repeat' apply And.intro) <;> (first | (simp [go_sem, s_0, s_1, s_2, q_0_0, hne1, hne2, hne3, hne4, hne5, hne6]; done))) | go_keep)
        (fail)
      all_goals
        go_wp2_with fail
        refine bodyPost_ret (v := .tuple #[.agg #[.int .i64 t1, .int .i64 v1, .slice a1 L1.length c1], .agg #[.string (d.extract 0 n), .int .i64 n], .int .i64 0]) (by simp [results, Try.results81, go_sem, q_1_0, q_1_1, q_1_2, q_2_0, q_2_1, f_1, f_2]) rfl ?_
        rw [hy0.out]
        refine ⟨a1, c1, rfl, ?_, ?_⟩
        · refine Fresh.mono (B := w.heap.size + 3) ?_ (by omega)
          repeat (first | (with_reducible exact HL.out) | (with_reducible refine Fresh.setCell ?_ ?_ _; rotate_left; ((try simp) <;> (try omega))) | (with_reducible refine Fresh.drew ?_))
        · repeat (first | (with_reducible exact HBW.out) | (with_reducible refine Below.setCell ?_ ?_ _; rotate_left; ((try simp) <;> (try omega))) | (with_reducible refine Below.alloc ?_ ?_ _; rotate_left; ((try simp) <;> (try omega))) | (with_reducible refine Below.drew ?_) | (with_reducible refine Below.trans ?_ (below_drewN _ _ _)))
end Go.Proofs.Ytmdjcoeijlnloaa
