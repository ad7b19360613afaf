/- Committed: both return the data of the committed entries. No conditions but sizes. -/
import Derived.Test.YtckaccadgbcohaaNodeOK4
import Derived.Test.YtckaccadgbcohaaNodeOK5
import Derived.Test.YtckaccadgbcohaaOwn
import Derived.Test.YtckaccadgbcohaaCut
namespace Go.Proofs.Ytckaccadgbcohaa
set_option linter.unusedVariables false
set_option linter.unusedSimpArgs false
open Go.RowKit
def datas (xs : List Ent) (c : Nat) : List ByteArray := (xs.take c).map (·.2)
theorem datas_snoc (xs : List Ent) (k : Nat) (hk : k < xs.length) : datas xs (k + 1) = datas xs k ++ [xs[k].2] := by
  unfold datas
  rw [List.take_succ_eq_append_getElem hk, List.map_append]
  rfl
theorem datas_le (xs : List Ent) (c : Nat) : (datas xs c).length ≤ c := by simp [datas]; omega
def ListR (L : List ByteArray) (w : World) (e : Ending) (w' : World) : Prop :=
  ∃ a c, e = .returned (.slice a L.length c) ∧ Fresh strE 9 1 w.heap.size (.slice a L.length c) L w' ∧ Below w.heap.size w w'
set_option maxRecDepth 100000 in
set_option maxHeartbeats 4000000 in
theorem implCommitted0_c (al : Option Addr) (cl : Nat) (av : Option Addr) (cv : Nat) (an : Option Addr) (cn : Nat) (am : Option Addr) (cm : Nat) (N : NodeV) (c : Nat) (w : World) (hN : NodeSl w al av an am N) (hZ : NodeSz N 1048576) (hcl : N.log.length ≤ cl) (hc : N.commit = c) (hcN : c ≤ N.log.length) :
    Calls Try.prog 46 #[.agg #[.int .i64 N.id, .int .i64 N.nodes, .int .i64 N.term, .int .i64 N.vote, .int .i64 N.role, .bool N.up, .slice al N.log.length cl, .int .i64 N.commit, .int .i64 N.elapsed, .int .i64 N.wait, .slice av N.votes.length cv, .slice an N.next.length cn, .slice am N.mtch.length cm]] w (ListR (datas N.log c) w) := by
  obtain ⟨i0, hi, hz0, hz1, hz2⟩ := info_parts Try.infoString
  have hlog := hN.log
  have hzl := hZ.log
  have HC := Lib.hid hc
  have hc1 : (0 : Int) ≤ N.commit := by omega
  have hc2 : N.commit ≤ (cl : Int) := by omega
  have hc3 : N.commit.toNat = c := by omega
  have HC3 := Lib.hid hc3
  clear hN hZ hc
  go_enter Try.func46, Try.ntmps46
  go_wp2_with fail
  clear hc3
  go_loopw [3, 12] (fun v i wr => ∃ (k : Nat) (av' : Option Addr) (cv' : Nat) (L : List ByteArray), k ≤ c ∧ L.length ≤ k ∧ i = .int .i64 k ∧ v = .slice av' L.length cv' ∧ Hid (L = datas N.log k) ∧ Fresh strE 9 1 w.heap.size (.slice av' L.length cv') L wr ∧ Below w.heap.size w wr) (fun _ i _ => c - (intOf i).toNat)
  case atStart => exact ⟨0, none, 0, [], Nat.zero_le _, by simp, rfl, rfl, rfl, (FreshIn.nil _ _ _ _ 0 _).1, (by repeat (first | exact Below.refl _ _ | (refine Below.alloc ?_ (by (try simp) <;> (try omega)) _) | (refine Below.setCell ?_ (by (try simp) <;> (try omega)) _) | (refine Below.drew ?_) | (refine Below.trans ?_ (Below.mono (by assumption) (by (try simp) <;> (try omega))))))⟩
  case round =>
    obtain ⟨k, av', cv', L, hk, hLk, rfl, rfl, hL, hf, hbel⟩ := hrel
    have HF := Lib.hid hf.here
    have hz := hbel.size
    clear hf
    by_cases hlt : k < c
    · have hltN : k < N.log.length := by omega
      obtain ⟨b1, o1, rfl, hb1, hc1'⟩ := (hlog.keep hbel).at hltN
      have e1 := hc1' k hltN 0 (by omega)
      have e2 := hc1' k hltN 1 (by omega)
      simp only [entE, Nat.add_zero, List.getElem?_cons_zero, List.getElem?_cons_succ] at e1 e2
      have HS := Lib.hid (datas_snoc N.log k hltN)
      clear hc1'
      generalize N.log[k].2 = G at *
      go_wp2_with (first
        | (skip
           at_builtin
           refine wpList_append_fresh rfl (.tmp 16) (.tmp 19) 25 25 rfl (w.heap.size) (wr.heap.size) 9 i0 (.string ⟨#[]⟩) 1 16 Try.underlying25 hi hz0 hz1 hz2 rfl (by decide) (.slice av' L.length cv') (L) rfl ((HF.out.alloc _).alloc _) _ ([G]) rfl (Src.ofBox (enc := strE) (w := wr.alloc (.cells #[.int .i64 N.log[k].1, .string G] 76)) Try.underlying25 (fun _ => rfl) strOne G #[.string G] 9 rfl (wr.heap.size + 1) (by simp)) (by (try simp) <;> (try omega)) (by (try simp) <;> (try omega)) ?_
           intro a2 c2 w2 L2 hL2 hf2 hm2
           skip))
      go_roundw
      case rel =>
        refine ⟨k + 1, a2, c2, L2, by omega, by rw [hL2.out]; simp; omega, by go_num, rfl, ?_, hf2.1, ?_⟩
        · show _ = _
          rw [hL2.out, hL.out, HS.out]
        · exact ((hbel.alloc hz _).alloc (by simp; omega) _).trans (hm2.below (Nat.le_refl _) (by simp; omega))
      case measure => simp [intOf]; omega
    · obtain rfl : k = c := by omega
      go_wp2_with fail
      go_ret
      rw [← hL.out]
      exact ⟨_, _, rfl, HF.out.1, hbel⟩
noncomputable def commL (N : NodeV) : List ByteArray := if nodeOK N = true then datas N.log N.commit.toNat else []
noncomputable def commC (N : NodeV) : Int := if nodeOK N = true then 0 else 1
theorem nodeOK_commit {N : NodeV} (h : nodeOK N = true) : ∃ c : Nat, N.commit = c ∧ c ≤ N.log.length := by
  have h1 : NOK N := by simpa [nodeOK] using h
  have h2 := h1.commit
  simp [inB] at h2
  exact ⟨N.commit.toNat, by omega, by omega⟩
theorem commL_length (N : NodeV) (h : N.log.length ≤ 1048576) : (commL N).length ≤ 1048576 := by
  unfold commL
  split
  · simp [datas]; omega
  · simp
end Go.Proofs.Ytckaccadgbcohaa
