/- Committed: both return the data of the committed entries. No conditions but sizes. -/
import Derived.Test.YtmkgmecpjppgcaaNodeOK4
import Derived.Test.YtmkgmecpjppgcaaNodeOK5
import Derived.Test.YtmkgmecpjppgcaaOwn
import Derived.Test.YtmkgmecpjppgcaaCut
namespace Go.Proofs.Ytmkgmecpjppgcaa
set_option linter.unusedVariables false
set_option linter.unusedSimpArgs false
open Go.RowKit
def datas (xs : List Ent) (c : Nat) : List ByteArray := (xs.take c).map (·.2)
theorem datas_snoc (xs : List Ent) (k : Nat) (hk : k < xs.length) : datas xs (k + 1) = datas xs k ++ [xs[k].2] := by
  unfold datas
  rw [List.take_succ_eq_append_getElem hk, List.map_append]
  rfl
theorem datas_le (xs : List Ent) (c : Nat) : (datas xs c).length ≤ c := by simp [datas]; omega
def ListR (L : List ByteArray) (w : World) (e : Ending) (w' : World) : Prop :=
  ∃ a c, e = .returned (.slice a L.length c) ∧ Fresh strE 9 1 w.heap.size (.slice a L.length c) L w' ∧ Below w.heap.size w w'
set_option maxRecDepth 100000 in
set_option maxHeartbeats 4000000 in
theorem implCommitted0_c (al : Option Addr) (cl : Nat) (av : Option Addr) (cv : Nat) (an : Option Addr) (cn : Nat) (am : Option Addr) (cm : Nat) (N : NodeV) (c : Nat) (w : World) (hN : NodeSl w al av an am N) (hZ : NodeSz N 1048576) (hcl : N.log.length ≤ cl) (hc : N.commit = c) (hcN : c ≤ N.log.length) :
    Calls Try.prog 96 #[.agg #[.int .i64 N.id, .int .i64 N.nodes, .int .i64 N.term, .int .i64 N.vote, .int .i64 N.role, .bool N.up, .slice al N.log.length cl, .int .i64 N.commit, .int .i64 N.elapsed, .int .i64 N.wait, .slice av N.votes.length cv, .slice an N.next.length cn, .slice am N.mtch.length cm]] w (ListR (datas N.log c) w) := by
  obtain ⟨i0, hi, hz0, hz1, hz2⟩ := info_parts Try.infoString
  have hlog := hN.log
  have hzl := hZ.log
  have HC := Lib.hid hc
  have hc1 : (0 : Int) ≤ N.commit := by omega
  have hc2 : N.commit ≤ (cl : Int) := by omega
  have hc3 : N.commit.toNat = c := by omega
  have HC3 := Lib.hid hc3
  clear hN hZ hc
  go_enter Try.func96, Try.ntmps96
  go_wp2_with fail
  clear hc3
  go_loopw [3, 12] (fun v i wr => ∃ (k : Nat) (av' : Option Addr) (cv' : Nat) (L : List ByteArray), k ≤ c ∧ L.length ≤ k ∧ i = .int .i64 k ∧ v = .slice av' L.length cv' ∧ Hid (L = datas N.log k) ∧ Fresh strE 9 1 w.heap.size (.slice av' L.length cv') L wr ∧ Below w.heap.size w wr) (fun _ i _ => c - (intOf i).toNat)
  case atStart => exact ⟨0, none, 0, [], Nat.zero_le _, by simp, rfl, rfl, rfl, (FreshIn.nil _ _ _ _ 0 _).1, (by repeat (first | exact Below.refl _ _ | (refine Below.alloc ?_ (by (try simp) <;> (try omega)) _) | (refine Below.setCell ?_ (by (try simp) <;> (try omega)) _) | (refine Below.drew ?_) | (refine Below.trans ?_ (Below.mono (by assumption) (by (try simp) <;> (try omega))))))⟩
  case round =>
    obtain ⟨k, av', cv', L, hk, hLk, rfl, rfl, hL, hf, hbel⟩ := hrel
    have HF := Lib.hid hf.here
    have hz := hbel.size
    clear hf
    by_cases hlt : k < c
    · have hltN : k < N.log.length := by omega
      obtain ⟨b1, o1, rfl, hb1, hc1'⟩ := (hlog.keep hbel).at hltN
      have e1 := hc1' k hltN 0 (by omega)
      have e2 := hc1' k hltN 1 (by omega)
      simp only [entE, Nat.add_zero, List.getElem?_cons_zero, List.getElem?_cons_succ] at e1 e2
      have HS := Lib.hid (datas_snoc N.log k hltN)
      clear hc1'
      generalize N.log[k].2 = G at *
      go_wp2_with (first
        | (skip
           at_builtin
           go_must (refine wpList_append_fresh rfl (.tmp 16) (.tmp 19) 34 34 rfl (w.heap.size) (wr.heap.size) 9 i0 (.string ⟨#[]⟩) 1 16 Try.underlying34 hi hz0 hz1 hz2 rfl (by decide) (.slice av' L.length cv') (L) rfl ((HF.out.alloc _).alloc _) _ ([G]) rfl (Src.ofBox (enc := strE) (w := wr.alloc (.cells #[.int .i64 N.log[k].1, .string G] 87)) Try.underlying34 (fun _ => rfl) strOne G #[.string G] 9 rfl (wr.heap.size + 1) (by simp)) (by (try simp) <;> (try omega)) (by (try simp) <;> (try omega)) ?_)
           intro a2 c2 w2 L2 hL2 hf2 hm2
           skip))
      go_roundw
      case rel =>
        refine ⟨k + 1, a2, c2, L2, by omega, by rw [hL2.out]; simp; omega, by go_num, rfl, ?_, hf2.1, ?_⟩
        · show _ = _
          rw [hL2.out, hL.out, HS.out]
        · exact ((hbel.alloc hz _).alloc (by simp; omega) _).trans (hm2.below (Nat.le_refl _) (by simp; omega))
      case measure => simp [intOf]; omega
    · obtain rfl : k = c := by omega
      go_wp2_with fail
      go_ret
      rw [← hL.out]
      exact ⟨_, _, rfl, HF.out.1, hbel⟩
set_option maxRecDepth 100000 in
set_option maxHeartbeats 4000000 in
theorem l08Committed_c (al : Option Addr) (cl : Nat) (av : Option Addr) (cv : Nat) (an : Option Addr) (cn : Nat) (am : Option Addr) (cm : Nat) (N : NodeV) (c : Nat) (w : World) (hN : NodeSl w al av an am N) (hZ : NodeSz N 1048576) (hc : N.commit = c) (hcN : c ≤ N.log.length) :
    Calls Try.prog 95 #[.agg #[.int .i64 N.id, .int .i64 N.nodes, .int .i64 N.term, .int .i64 N.vote, .int .i64 N.role, .bool N.up, .slice al N.log.length cl, .int .i64 N.commit, .int .i64 N.elapsed, .int .i64 N.wait, .slice av N.votes.length cv, .slice an N.next.length cn, .slice am N.mtch.length cm]] w (ListR (datas N.log c) w) := by
  obtain ⟨i0, hi, hz0, hz1, hz2⟩ := info_parts Try.infoString
  have hlog := hN.log
  have hzl := hZ.log
  have HC := Lib.hid hc
  have hc1 : (0 : Int) ≤ N.commit := by omega
  clear hN hZ hc
  go_enter Try.func95, Try.ntmps95
  go_wp2_with fail
  go_loopw [3, 4] (fun v i wr => ∃ (k : Nat) (av' : Option Addr) (cv' : Nat) (L : List ByteArray), k ≤ c ∧ L.length ≤ k ∧ i = .int .i64 k ∧ v = .slice av' L.length cv' ∧ Hid (L = datas N.log k) ∧ Fresh strE 9 1 (w.heap.size + 1) (.slice av' L.length cv') L wr ∧ Hid (Below (w.heap.size + 1) (w.alloc (.cells #[.int .i64 N.id, .int .i64 N.nodes, .int .i64 N.term, .int .i64 N.vote, .int .i64 N.role, .bool N.up, .slice al N.log.length cl, .int .i64 N.commit, .int .i64 N.elapsed, .int .i64 N.wait, .slice av N.votes.length cv, .slice an N.next.length cn, .slice am N.mtch.length cm] 70)) wr)) (fun _ i _ => c - (intOf i).toNat)
  case atStart => exact ⟨0, _, _, [], Nat.zero_le _, by simp, rfl, rfl, rfl, Fresh.of_own (by have h := World.ownsRow_made (base := w.heap.size + 1) (e := 9) (size := 1) (w.alloc (.cells #[.int .i64 N.id, .int .i64 N.nodes, .int .i64 N.term, .int .i64 N.vote, .int .i64 N.role, .bool N.up, .slice al N.log.length cl, .int .i64 N.commit, .int .i64 N.elapsed, .int .i64 N.wait, .slice av N.votes.length cv, .slice an N.next.length cn, .slice am N.mtch.length cm] 70)) #[] 0 (by simp) (by decide) rfl; rw [World.size_alloc] at h; exact h) rfl rfl, ((Below.refl _ _).alloc (by simp) _)⟩
  case round =>
    obtain ⟨k, av', cv', L, hk, hLk, rfl, rfl, hL, hf, hbx⟩ := hrel
    have HF := Lib.hid hf.here
    have hz := hbx.out.size
    simp only [World.size_alloc] at hz
    have q6 : wr.cell? ⟨w.heap.size, 6, none⟩ = some (.slice al N.log.length cl) := by
      rw [hbx.out.cell (p := ⟨w.heap.size, 6, none⟩) (by simp)]
      simp [go_sem]
    have q7 : wr.cell? ⟨w.heap.size, 7, none⟩ = some (.int .i64 N.commit) := by
      rw [hbx.out.cell (p := ⟨w.heap.size, 7, none⟩) (by simp)]
      simp [go_sem]
    have HBW : Hid (Below w.heap.size w wr) := ((Below.refl _ _).alloc (Nat.le_refl _) _).trans (hbx.out.mono (by omega))
    clear hf
    by_cases hlt : k < c
    · have hltN : k < N.log.length := by omega
      have g1 : (k : Int) < N.commit := by have := HC.out; omega
      obtain ⟨b1, o1, rfl, hb1, hc1'⟩ := (hlog.keep HBW.out).at hltN
      have e2 := hc1' k hltN 1 (by omega)
      simp only [entE, Nat.add_zero, List.getElem?_cons_zero, List.getElem?_cons_succ] at e2
      have HS := Lib.hid (datas_snoc N.log k hltN)
      clear hc1'
      generalize N.log[k].2 = G at *
      go_wp2_with (first
        | (skip
           at_builtin
           go_must (refine wpList_append_fresh rfl (.tmp 12) (.tmp 19) 34 34 rfl (w.heap.size + 1) (wr.heap.size) 9 i0 (.string ⟨#[]⟩) 1 16 Try.underlying34 hi hz0 hz1 hz2 rfl (by decide) (.slice av' L.length cv') (L) rfl ((HF.out.alloc _)) _ ([G]) rfl (Src.ofBox (enc := strE) (w := wr) Try.underlying34 (fun _ => rfl) strOne G #[.string G] 9 rfl wr.heap.size rfl) (by (try simp) <;> (try omega)) (by (try simp) <;> (try omega)) ?_)
           intro a2 c2 w2 L2 hL2 hf2 hm2
           skip))
      go_roundw
      case rel =>
        refine ⟨k + 1, a2, c2, L2, by omega, by rw [hL2.out]; simp; omega, by go_num, rfl, ?_, hf2.1, ?_⟩
        · show _ = _
          rw [hL2.out, hL.out, HS.out]
        · exact (hbx.out.alloc hz _).trans (hm2.below (Nat.le_refl _) (by simp; omega))
      case measure => simp [intOf]; omega
    · obtain rfl : k = c := by omega
      have g1 : N.commit ≤ (k : Int) := by have := HC.out; omega
      go_wp2_with fail
      go_ret
      rw [← hL.out]
      exact ⟨_, _, rfl, HF.out.1.mono (by omega), HBW.out⟩
noncomputable def commL (N : NodeV) : List ByteArray := if nodeOK N = true then datas N.log N.commit.toNat else []
noncomputable def commC (N : NodeV) : Int := if nodeOK N = true then 0 else 1
theorem nodeOK_commit {N : NodeV} (h : nodeOK N = true) : ∃ c : Nat, N.commit = c ∧ c ≤ N.log.length := by
  have h1 : NOK N := by simpa [nodeOK] using h
  have h2 := h1.commit
  simp [inB] at h2
  exact ⟨N.commit.toNat, by omega, by omega⟩
set_option maxRecDepth 100000 in
set_option maxHeartbeats 4000000 in
theorem specComm_c (al : Option Addr) (cl : Nat) (av : Option Addr) (cv : Nat) (an : Option Addr) (cn : Nat) (am : Option Addr) (cm : Nat) (N : NodeV) (w : World) (hN : NodeSl w al av an am N) (hZ : NodeSz N 1048576) :
    Calls Try.prog 56 #[.agg #[.int .i64 N.id, .int .i64 N.nodes, .int .i64 N.term, .int .i64 N.vote, .int .i64 N.role, .bool N.up, .slice al N.log.length cl, .int .i64 N.commit, .int .i64 N.elapsed, .int .i64 N.wait, .slice av N.votes.length cv, .slice an N.next.length cn, .slice am N.mtch.length cm]] w (TupR (commL N) (commC N) w) := by
  cases q : nodeOK N
  · have e1 : commL N = [] := by simp [commL, q]
    have e2 : commC N = 1 := by simp [commC, q]
    have HQ := Lib.hid q
    rw [e1, e2]
    clear e1 e2 q
    go_enter Try.func56, Try.ntmps56
    go_wp2_with fail
    refine (specNodeOK_c al cl av cv an cn am cm N _ (hN.alloc _) hZ).mono ?_
    rw [HQ.out]
    rintro e w1 ⟨rfl, hb1⟩
    have hN1 := (hN.alloc _).keep hb1
    have hz1 := hb1.size
    try simp at hz1
    have q1_0_0 : w1.cell? ⟨w.heap.size, 0, none⟩ = some (.int .i64 N.id) := by
      rw [hb1.cell (p := ⟨w.heap.size, 0, none⟩) (show w.heap.size < _ by (try simp) <;> (try omega))]
      first | assumption | (simp [go_sem, *])
    have q1_0_1 : w1.cell? ⟨w.heap.size, 1, none⟩ = some (.int .i64 N.nodes) := by
      rw [hb1.cell (p := ⟨w.heap.size, 1, none⟩) (show w.heap.size < _ by (try simp) <;> (try omega))]
      first | assumption | (simp [go_sem, *])
    have q1_0_2 : w1.cell? ⟨w.heap.size, 2, none⟩ = some (.int .i64 N.term) := by
      rw [hb1.cell (p := ⟨w.heap.size, 2, none⟩) (show w.heap.size < _ by (try simp) <;> (try omega))]
      first | assumption | (simp [go_sem, *])
    have q1_0_3 : w1.cell? ⟨w.heap.size, 3, none⟩ = some (.int .i64 N.vote) := by
      rw [hb1.cell (p := ⟨w.heap.size, 3, none⟩) (show w.heap.size < _ by (try simp) <;> (try omega))]
      first | assumption | (simp [go_sem, *])
    have q1_0_4 : w1.cell? ⟨w.heap.size, 4, none⟩ = some (.int .i64 N.role) := by
      rw [hb1.cell (p := ⟨w.heap.size, 4, none⟩) (show w.heap.size < _ by (try simp) <;> (try omega))]
      first | assumption | (simp [go_sem, *])
    have q1_0_5 : w1.cell? ⟨w.heap.size, 5, none⟩ = some (.bool N.up) := by
      rw [hb1.cell (p := ⟨w.heap.size, 5, none⟩) (show w.heap.size < _ by (try simp) <;> (try omega))]
      first | assumption | (simp [go_sem, *])
    have q1_0_6 : w1.cell? ⟨w.heap.size, 6, none⟩ = some (.slice al N.log.length cl) := by
      rw [hb1.cell (p := ⟨w.heap.size, 6, none⟩) (show w.heap.size < _ by (try simp) <;> (try omega))]
      first | assumption | (simp [go_sem, *])
    have q1_0_7 : w1.cell? ⟨w.heap.size, 7, none⟩ = some (.int .i64 N.commit) := by
      rw [hb1.cell (p := ⟨w.heap.size, 7, none⟩) (show w.heap.size < _ by (try simp) <;> (try omega))]
      first | assumption | (simp [go_sem, *])
    have q1_0_8 : w1.cell? ⟨w.heap.size, 8, none⟩ = some (.int .i64 N.elapsed) := by
      rw [hb1.cell (p := ⟨w.heap.size, 8, none⟩) (show w.heap.size < _ by (try simp) <;> (try omega))]
      first | assumption | (simp [go_sem, *])
    have q1_0_9 : w1.cell? ⟨w.heap.size, 9, none⟩ = some (.int .i64 N.wait) := by
      rw [hb1.cell (p := ⟨w.heap.size, 9, none⟩) (show w.heap.size < _ by (try simp) <;> (try omega))]
      first | assumption | (simp [go_sem, *])
    have q1_0_10 : w1.cell? ⟨w.heap.size, 10, none⟩ = some (.slice av N.votes.length cv) := by
      rw [hb1.cell (p := ⟨w.heap.size, 10, none⟩) (show w.heap.size < _ by (try simp) <;> (try omega))]
      first | assumption | (simp [go_sem, *])
    have q1_0_11 : w1.cell? ⟨w.heap.size, 11, none⟩ = some (.slice an N.next.length cn) := by
      rw [hb1.cell (p := ⟨w.heap.size, 11, none⟩) (show w.heap.size < _ by (try simp) <;> (try omega))]
      first | assumption | (simp [go_sem, *])
    have q1_0_12 : w1.cell? ⟨w.heap.size, 12, none⟩ = some (.slice am N.mtch.length cm) := by
      rw [hb1.cell (p := ⟨w.heap.size, 12, none⟩) (show w.heap.size < _ by (try simp) <;> (try omega))]
      first | assumption | (simp [go_sem, *])
    have hl1_0 : w.heap.size < w1.heap.size := by omega
    go_wp2_with fail
    go_ret2
    exact ⟨_, _, rfl, Fresh.of_own (World.ownsRow_made _ #[] 0 (by omega) (by decide) rfl) rfl rfl, (by repeat (first | exact Below.refl _ _ | (refine Below.alloc ?_ (by (try simp) <;> (try omega)) _) | (refine Below.setCell ?_ (by (try simp) <;> (try omega)) _) | (refine Below.drew ?_) | (refine Below.trans ?_ (Below.mono (by assumption) (by (try simp) <;> (try omega))))))⟩
  · obtain ⟨c, hc, hcN⟩ := nodeOK_commit q
    have e1 : commL N = datas N.log c := by simp [commL, q, hc]
    have e2 : commC N = 0 := by simp [commC, q]
    have HC := Lib.hid hc
    have HQ := Lib.hid q
    rw [e1, e2]
    clear e1 e2 hc q
    go_enter Try.func56, Try.ntmps56
    go_wp2_with fail
    refine (specNodeOK_c al cl av cv an cn am cm N _ (hN.alloc _) hZ).mono ?_
    rw [HQ.out]
    rintro e w1 ⟨rfl, hb1⟩
    have hN1 := (hN.alloc _).keep hb1
    have hz1 := hb1.size
    try simp at hz1
    have q1_0_0 : w1.cell? ⟨w.heap.size, 0, none⟩ = some (.int .i64 N.id) := by
      rw [hb1.cell (p := ⟨w.heap.size, 0, none⟩) (show w.heap.size < _ by (try simp) <;> (try omega))]
      first | assumption | (simp [go_sem, *])
    have q1_0_1 : w1.cell? ⟨w.heap.size, 1, none⟩ = some (.int .i64 N.nodes) := by
      rw [hb1.cell (p := ⟨w.heap.size, 1, none⟩) (show w.heap.size < _ by (try simp) <;> (try omega))]
      first | assumption | (simp [go_sem, *])
    have q1_0_2 : w1.cell? ⟨w.heap.size, 2, none⟩ = some (.int .i64 N.term) := by
      rw [hb1.cell (p := ⟨w.heap.size, 2, none⟩) (show w.heap.size < _ by (try simp) <;> (try omega))]
      first | assumption | (simp [go_sem, *])
    have q1_0_3 : w1.cell? ⟨w.heap.size, 3, none⟩ = some (.int .i64 N.vote) := by
      rw [hb1.cell (p := ⟨w.heap.size, 3, none⟩) (show w.heap.size < _ by (try simp) <;> (try omega))]
      first | assumption | (simp [go_sem, *])
    have q1_0_4 : w1.cell? ⟨w.heap.size, 4, none⟩ = some (.int .i64 N.role) := by
      rw [hb1.cell (p := ⟨w.heap.size, 4, none⟩) (show w.heap.size < _ by (try simp) <;> (try omega))]
      first | assumption | (simp [go_sem, *])
    have q1_0_5 : w1.cell? ⟨w.heap.size, 5, none⟩ = some (.bool N.up) := by
      rw [hb1.cell (p := ⟨w.heap.size, 5, none⟩) (show w.heap.size < _ by (try simp) <;> (try omega))]
      first | assumption | (simp [go_sem, *])
    have q1_0_6 : w1.cell? ⟨w.heap.size, 6, none⟩ = some (.slice al N.log.length cl) := by
      rw [hb1.cell (p := ⟨w.heap.size, 6, none⟩) (show w.heap.size < _ by (try simp) <;> (try omega))]
      first | assumption | (simp [go_sem, *])
    have q1_0_7 : w1.cell? ⟨w.heap.size, 7, none⟩ = some (.int .i64 N.commit) := by
      rw [hb1.cell (p := ⟨w.heap.size, 7, none⟩) (show w.heap.size < _ by (try simp) <;> (try omega))]
      first | assumption | (simp [go_sem, *])
    have q1_0_8 : w1.cell? ⟨w.heap.size, 8, none⟩ = some (.int .i64 N.elapsed) := by
      rw [hb1.cell (p := ⟨w.heap.size, 8, none⟩) (show w.heap.size < _ by (try simp) <;> (try omega))]
      first | assumption | (simp [go_sem, *])
    have q1_0_9 : w1.cell? ⟨w.heap.size, 9, none⟩ = some (.int .i64 N.wait) := by
      rw [hb1.cell (p := ⟨w.heap.size, 9, none⟩) (show w.heap.size < _ by (try simp) <;> (try omega))]
      first | assumption | (simp [go_sem, *])
    have q1_0_10 : w1.cell? ⟨w.heap.size, 10, none⟩ = some (.slice av N.votes.length cv) := by
      rw [hb1.cell (p := ⟨w.heap.size, 10, none⟩) (show w.heap.size < _ by (try simp) <;> (try omega))]
      first | assumption | (simp [go_sem, *])
    have q1_0_11 : w1.cell? ⟨w.heap.size, 11, none⟩ = some (.slice an N.next.length cn) := by
      rw [hb1.cell (p := ⟨w.heap.size, 11, none⟩) (show w.heap.size < _ by (try simp) <;> (try omega))]
      first | assumption | (simp [go_sem, *])
    have q1_0_12 : w1.cell? ⟨w.heap.size, 12, none⟩ = some (.slice am N.mtch.length cm) := by
      rw [hb1.cell (p := ⟨w.heap.size, 12, none⟩) (show w.heap.size < _ by (try simp) <;> (try omega))]
      first | assumption | (simp [go_sem, *])
    have hl1_0 : w.heap.size < w1.heap.size := by omega
    go_wp2_with fail
    refine (l08Committed_c al cl av cv an cn am cm N c _ hN1 hZ HC.out hcN).mono ?_
    rintro e w2 ⟨a2, c2, rfl, hf2, hb2⟩
    generalize datas N.log c = L at *
    go_wp2_with fail
    go_ret2
    exact ⟨_, _, rfl, hf2.mono (by omega), (by repeat (first | exact Below.refl _ _ | (refine Below.alloc ?_ (by (try simp) <;> (try omega)) _) | (refine Below.setCell ?_ (by (try simp) <;> (try omega)) _) | (refine Below.drew ?_) | (refine Below.trans ?_ (Below.mono (by assumption) (by (try simp) <;> (try omega))))))⟩
set_option maxRecDepth 100000 in
set_option maxHeartbeats 4000000 in
theorem implComm_c (al : Option Addr) (cl : Nat) (av : Option Addr) (cv : Nat) (an : Option Addr) (cn : Nat) (am : Option Addr) (cm : Nat) (N : NodeV) (w : World) (hN : NodeSl w al av an am N) (hZ : NodeSz N 1048576) (hcl : N.log.length ≤ cl) :
    Calls Try.prog 57 #[.agg #[.int .i64 N.id, .int .i64 N.nodes, .int .i64 N.term, .int .i64 N.vote, .int .i64 N.role, .bool N.up, .slice al N.log.length cl, .int .i64 N.commit, .int .i64 N.elapsed, .int .i64 N.wait, .slice av N.votes.length cv, .slice an N.next.length cn, .slice am N.mtch.length cm]] w (TupR (commL N) (commC N) w) := by
  cases q : nodeOK N
  · have e1 : commL N = [] := by simp [commL, q]
    have e2 : commC N = 1 := by simp [commC, q]
    have HQ := Lib.hid q
    rw [e1, e2]
    clear e1 e2 q
    go_enter Try.func57, Try.ntmps57
    go_wp2_with fail
    refine (isNode_c al cl av cv an cn am cm N _ (hN.alloc _) hZ).mono ?_
    rw [HQ.out]
    rintro e w1 ⟨rfl, hb1⟩
    have hN1 := (hN.alloc _).keep hb1
    have hz1 := hb1.size
    try simp at hz1
    have q1_0_0 : w1.cell? ⟨w.heap.size, 0, none⟩ = some (.int .i64 N.id) := by
      rw [hb1.cell (p := ⟨w.heap.size, 0, none⟩) (show w.heap.size < _ by (try simp) <;> (try omega))]
      first | assumption | (simp [go_sem, *])
    have q1_0_1 : w1.cell? ⟨w.heap.size, 1, none⟩ = some (.int .i64 N.nodes) := by
      rw [hb1.cell (p := ⟨w.heap.size, 1, none⟩) (show w.heap.size < _ by (try simp) <;> (try omega))]
      first | assumption | (simp [go_sem, *])
    have q1_0_2 : w1.cell? ⟨w.heap.size, 2, none⟩ = some (.int .i64 N.term) := by
      rw [hb1.cell (p := ⟨w.heap.size, 2, none⟩) (show w.heap.size < _ by (try simp) <;> (try omega))]
      first | assumption | (simp [go_sem, *])
    have q1_0_3 : w1.cell? ⟨w.heap.size, 3, none⟩ = some (.int .i64 N.vote) := by
      rw [hb1.cell (p := ⟨w.heap.size, 3, none⟩) (show w.heap.size < _ by (try simp) <;> (try omega))]
      first | assumption | (simp [go_sem, *])
    have q1_0_4 : w1.cell? ⟨w.heap.size, 4, none⟩ = some (.int .i64 N.role) := by
      rw [hb1.cell (p := ⟨w.heap.size, 4, none⟩) (show w.heap.size < _ by (try simp) <;> (try omega))]
      first | assumption | (simp [go_sem, *])
    have q1_0_5 : w1.cell? ⟨w.heap.size, 5, none⟩ = some (.bool N.up) := by
      rw [hb1.cell (p := ⟨w.heap.size, 5, none⟩) (show w.heap.size < _ by (try simp) <;> (try omega))]
      first | assumption | (simp [go_sem, *])
    have q1_0_6 : w1.cell? ⟨w.heap.size, 6, none⟩ = some (.slice al N.log.length cl) := by
      rw [hb1.cell (p := ⟨w.heap.size, 6, none⟩) (show w.heap.size < _ by (try simp) <;> (try omega))]
      first | assumption | (simp [go_sem, *])
    have q1_0_7 : w1.cell? ⟨w.heap.size, 7, none⟩ = some (.int .i64 N.commit) := by
      rw [hb1.cell (p := ⟨w.heap.size, 7, none⟩) (show w.heap.size < _ by (try simp) <;> (try omega))]
      first | assumption | (simp [go_sem, *])
    have q1_0_8 : w1.cell? ⟨w.heap.size, 8, none⟩ = some (.int .i64 N.elapsed) := by
      rw [hb1.cell (p := ⟨w.heap.size, 8, none⟩) (show w.heap.size < _ by (try simp) <;> (try omega))]
      first | assumption | (simp [go_sem, *])
    have q1_0_9 : w1.cell? ⟨w.heap.size, 9, none⟩ = some (.int .i64 N.wait) := by
      rw [hb1.cell (p := ⟨w.heap.size, 9, none⟩) (show w.heap.size < _ by (try simp) <;> (try omega))]
      first | assumption | (simp [go_sem, *])
    have q1_0_10 : w1.cell? ⟨w.heap.size, 10, none⟩ = some (.slice av N.votes.length cv) := by
      rw [hb1.cell (p := ⟨w.heap.size, 10, none⟩) (show w.heap.size < _ by (try simp) <;> (try omega))]
      first | assumption | (simp [go_sem, *])
    have q1_0_11 : w1.cell? ⟨w.heap.size, 11, none⟩ = some (.slice an N.next.length cn) := by
      rw [hb1.cell (p := ⟨w.heap.size, 11, none⟩) (show w.heap.size < _ by (try simp) <;> (try omega))]
      first | assumption | (simp [go_sem, *])
    have q1_0_12 : w1.cell? ⟨w.heap.size, 12, none⟩ = some (.slice am N.mtch.length cm) := by
      rw [hb1.cell (p := ⟨w.heap.size, 12, none⟩) (show w.heap.size < _ by (try simp) <;> (try omega))]
      first | assumption | (simp [go_sem, *])
    have hl1_0 : w.heap.size < w1.heap.size := by omega
    go_wp2_with fail
    go_ret2
    exact ⟨none, 0, rfl, (FreshIn.nil _ _ _ _ 0 _).1, (by repeat (first | exact Below.refl _ _ | (refine Below.alloc ?_ (by (try simp) <;> (try omega)) _) | (refine Below.setCell ?_ (by (try simp) <;> (try omega)) _) | (refine Below.drew ?_) | (refine Below.trans ?_ (Below.mono (by assumption) (by (try simp) <;> (try omega))))))⟩
  · obtain ⟨c, hc, hcN⟩ := nodeOK_commit q
    have e1 : commL N = datas N.log c := by simp [commL, q, hc]
    have e2 : commC N = 0 := by simp [commC, q]
    have HC := Lib.hid hc
    have HQ := Lib.hid q
    rw [e1, e2]
    clear e1 e2 hc q
    go_enter Try.func57, Try.ntmps57
    go_wp2_with fail
    refine (isNode_c al cl av cv an cn am cm N _ (hN.alloc _) hZ).mono ?_
    rw [HQ.out]
    rintro e w1 ⟨rfl, hb1⟩
    have hN1 := (hN.alloc _).keep hb1
    have hz1 := hb1.size
    try simp at hz1
    have q1_0_0 : w1.cell? ⟨w.heap.size, 0, none⟩ = some (.int .i64 N.id) := by
      rw [hb1.cell (p := ⟨w.heap.size, 0, none⟩) (show w.heap.size < _ by (try simp) <;> (try omega))]
      first | assumption | (simp [go_sem, *])
    have q1_0_1 : w1.cell? ⟨w.heap.size, 1, none⟩ = some (.int .i64 N.nodes) := by
      rw [hb1.cell (p := ⟨w.heap.size, 1, none⟩) (show w.heap.size < _ by (try simp) <;> (try omega))]
      first | assumption | (simp [go_sem, *])
    have q1_0_2 : w1.cell? ⟨w.heap.size, 2, none⟩ = some (.int .i64 N.term) := by
      rw [hb1.cell (p := ⟨w.heap.size, 2, none⟩) (show w.heap.size < _ by (try simp) <;> (try omega))]
      first | assumption | (simp [go_sem, *])
    have q1_0_3 : w1.cell? ⟨w.heap.size, 3, none⟩ = some (.int .i64 N.vote) := by
      rw [hb1.cell (p := ⟨w.heap.size, 3, none⟩) (show w.heap.size < _ by (try simp) <;> (try omega))]
      first | assumption | (simp [go_sem, *])
    have q1_0_4 : w1.cell? ⟨w.heap.size, 4, none⟩ = some (.int .i64 N.role) := by
      rw [hb1.cell (p := ⟨w.heap.size, 4, none⟩) (show w.heap.size < _ by (try simp) <;> (try omega))]
      first | assumption | (simp [go_sem, *])
    have q1_0_5 : w1.cell? ⟨w.heap.size, 5, none⟩ = some (.bool N.up) := by
      rw [hb1.cell (p := ⟨w.heap.size, 5, none⟩) (show w.heap.size < _ by (try simp) <;> (try omega))]
      first | assumption | (simp [go_sem, *])
    have q1_0_6 : w1.cell? ⟨w.heap.size, 6, none⟩ = some (.slice al N.log.length cl) := by
      rw [hb1.cell (p := ⟨w.heap.size, 6, none⟩) (show w.heap.size < _ by (try simp) <;> (try omega))]
      first | assumption | (simp [go_sem, *])
    have q1_0_7 : w1.cell? ⟨w.heap.size, 7, none⟩ = some (.int .i64 N.commit) := by
      rw [hb1.cell (p := ⟨w.heap.size, 7, none⟩) (show w.heap.size < _ by (try simp) <;> (try omega))]
      first | assumption | (simp [go_sem, *])
    have q1_0_8 : w1.cell? ⟨w.heap.size, 8, none⟩ = some (.int .i64 N.elapsed) := by
      rw [hb1.cell (p := ⟨w.heap.size, 8, none⟩) (show w.heap.size < _ by (try simp) <;> (try omega))]
      first | assumption | (simp [go_sem, *])
    have q1_0_9 : w1.cell? ⟨w.heap.size, 9, none⟩ = some (.int .i64 N.wait) := by
      rw [hb1.cell (p := ⟨w.heap.size, 9, none⟩) (show w.heap.size < _ by (try simp) <;> (try omega))]
      first | assumption | (simp [go_sem, *])
    have q1_0_10 : w1.cell? ⟨w.heap.size, 10, none⟩ = some (.slice av N.votes.length cv) := by
      rw [hb1.cell (p := ⟨w.heap.size, 10, none⟩) (show w.heap.size < _ by (try simp) <;> (try omega))]
      first | assumption | (simp [go_sem, *])
    have q1_0_11 : w1.cell? ⟨w.heap.size, 11, none⟩ = some (.slice an N.next.length cn) := by
      rw [hb1.cell (p := ⟨w.heap.size, 11, none⟩) (show w.heap.size < _ by (try simp) <;> (try omega))]
      first | assumption | (simp [go_sem, *])
    have q1_0_12 : w1.cell? ⟨w.heap.size, 12, none⟩ = some (.slice am N.mtch.length cm) := by
      rw [hb1.cell (p := ⟨w.heap.size, 12, none⟩) (show w.heap.size < _ by (try simp) <;> (try omega))]
      first | assumption | (simp [go_sem, *])
    have hl1_0 : w.heap.size < w1.heap.size := by omega
    go_wp2_with fail
    refine (implCommitted0_c al cl av cv an cn am cm N c _ hN1 hZ hcl HC.out hcN).mono ?_
    rintro e w2 ⟨a2, c2, rfl, hf2, hb2⟩
    generalize datas N.log c = L at *
    go_wp2_with fail
    go_ret2
    exact ⟨_, _, rfl, hf2.mono (by omega), (by repeat (first | exact Below.refl _ _ | (refine Below.alloc ?_ (by (try simp) <;> (try omega)) _) | (refine Below.setCell ?_ (by (try simp) <;> (try omega)) _) | (refine Below.drew ?_) | (refine Below.trans ?_ (Below.mono (by assumption) (by (try simp) <;> (try omega))))))⟩
theorem commL_length (N : NodeV) (h : N.log.length ≤ 1048576) : (commL N).length ≤ 1048576 := by
  unfold commL
  split
  · simp [datas]; omega
  · simp
end Go.Proofs.Ytmkgmecpjppgcaa
