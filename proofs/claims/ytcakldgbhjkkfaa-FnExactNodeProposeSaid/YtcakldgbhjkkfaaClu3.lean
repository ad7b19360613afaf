/- Rows of clusters: comparisons; clusters: sizes, copies, comparison. -/
import Derived.Test.YtcakldgbhjkkfaaClu2
import Derived.Test.YtcakldgbhjkkfaaApplied
namespace Go.Proofs.Ytcakldgbhjkkfaa
set_option linter.unusedVariables false
set_option linter.unusedSimpArgs false
open Go.RowKit
/-- The copy of a cluster. -/
def ToCluR (C : CluA) (w : World) (e : Ending) (w' : World) : Prop := ∃ D : CluA, e = .returned (.agg #[.slice D.an D.nodes.length D.cn, .slice D.ast D.stores.length D.cst, .slice D.aw D.wire.length D.cw, .slice D.ad D.done.length D.cd]) ∧ CluSame D C ∧ CluOK w' D ∧ Below w.heap.size w w'
set_option maxRecDepth 100000 in
set_option maxHeartbeats 4000000 in
theorem eqMessage_same (r t : MsgA) (w : World) (h1 : r.okM w) (h2 : Sl entE 2 w t.ae r.M.ents) (hZ : MsgSz r.M 1048576) :
    Calls Try.prog 30 #[.agg #[.int .i64 r.M.kind, .int .i64 r.M.src, .int .i64 r.M.dst, .int .i64 r.M.term, .int .i64 r.M.index, .int .i64 r.M.lterm, .int .i64 r.M.commit, .bool r.M.ok, .slice r.ae r.M.ents.length r.ce], .agg #[.int .i64 r.M.kind, .int .i64 r.M.src, .int .i64 r.M.dst, .int .i64 r.M.term, .int .i64 r.M.index, .int .i64 r.M.lterm, .int .i64 r.M.commit, .bool r.M.ok, .slice t.ae r.M.ents.length t.ce]] w fun e w' => e = .returned (.bool true) ∧ Below w.heap.size w w' := by
  have HZ := Lib.hid hZ
  unfold MsgA.okM at h1
  clear hZ
  go_enter Try.func30, Try.ntmps30
  go_wp2_with (first
    | (go_at_call 28
       refine (eqEntryS_c r.ae t.ae r.ce t.ce r.M.ents r.M.ents _ ((h1.alloc _).alloc _) ((h2.alloc _).alloc _) HZ.out.ents HZ.out.ents).mono ?_
       rintro e w1 ⟨rfl, hb1⟩
       simp only [decide_true]
       have HB1 : Hid (Below w.heap.size w w1) := ((((Below.refl _ _).alloc (Nat.le_refl _) _).alloc (by simp) _).trans (hb1.mono (by simp; try omega)))))
  go_ret
  exact ⟨rfl, HB1.out⟩
set_option maxRecDepth 100000 in
set_option maxHeartbeats 4000000 in
theorem eqMessageS_same (a b : Option Addr) (ca cb : Nat) (rs ts : List MsgA) (w : World) (ha : MsgS w a rs) (hb : MsgS w b ts) (he : ts.map (·.M) = rs.map (·.M)) (hs : ∀ r ∈ rs, MsgSz r.M 1048576) (la : rs.length ≤ 1048576) :
    Calls Try.prog 9 #[.slice a rs.length ca, .slice b ts.length cb] w fun e w' => e = .returned (.bool true) ∧ Below w.heap.size w w' := by
  have hl : ts.length = rs.length := map_len he
  rw [hl]
  have HS := Lib.hid hs
  have HE := Lib.hid he
  have HL := Lib.hid hl
  clear hs he hl
  go_enter Try.func9, Try.ntmps9
  go_wp2_with fail
  go_loopw [5] (fun i wr => ∃ k : Nat, k ≤ rs.length ∧ i = .int .i64 k ∧ Below w.heap.size w wr) (fun i _ => rs.length - (intOf i).toNat)
  case atStart => exact ⟨0, Nat.zero_le _, rfl, Below.refl _ _⟩
  case round =>
    obtain ⟨k, hk, rfl, hbel⟩ := hrel
    by_cases hlt : k < rs.length
    · obtain ⟨b1, o1, rfl, hb1, hc1⟩ := (ha.1.keep hbel).at hlt
      have hlt2 : k < ts.length := by have := HL.out; omega
      obtain ⟨b2, o2, rfl, hb2, hc2⟩ := (hb.1.keep hbel).at hlt2
      have c0 := hc1 k hlt 0 (by omega)
      have c1 := hc1 k hlt 1 (by omega)
      have c2 := hc1 k hlt 2 (by omega)
      have c3 := hc1 k hlt 3 (by omega)
      have c4 := hc1 k hlt 4 (by omega)
      have c5 := hc1 k hlt 5 (by omega)
      have c6 := hc1 k hlt 6 (by omega)
      have c7 := hc1 k hlt 7 (by omega)
      have c8 := hc1 k hlt 8 (by omega)
      simp only [msgE, Nat.add_zero, List.getElem?_cons_zero, List.getElem?_cons_succ] at c0 c1 c2 c3 c4 c5 c6 c7 c8
      have d0 := hc2 k hlt2 0 (by omega)
      have d1 := hc2 k hlt2 1 (by omega)
      have d2 := hc2 k hlt2 2 (by omega)
      have d3 := hc2 k hlt2 3 (by omega)
      have d4 := hc2 k hlt2 4 (by omega)
      have d5 := hc2 k hlt2 5 (by omega)
      have d6 := hc2 k hlt2 6 (by omega)
      have d7 := hc2 k hlt2 7 (by omega)
      have d8 := hc2 k hlt2 8 (by omega)
      simp only [msgE, Nat.add_zero, List.getElem?_cons_zero, List.getElem?_cons_succ] at d0 d1 d2 d3 d4 d5 d6 d7 d8
      clear hc1 hc2
      have hsz := HS.out rs[k] (List.getElem_mem _)
      have ok1 := (ha.2 rs[k] (List.getElem_mem _)).keep hbel
      have ok2 := (hb.2 ts[k] (List.getElem_mem _)).keep hbel
      have hm := map_at HE.out k hlt2 hlt
      generalize rs[k] = r at *
      generalize ts[k] = t at *
      replace hm : t.M = r.M := hm
      rw [hm] at d0 d1 d2 d3 d4 d5 d6 d7 d8
      have hM2 : Sl entE 2 wr t.ae r.M.ents := by have h : Sl entE 2 wr t.ae t.M.ents := ok2; rw [hm] at h; exact h
      clear hm ok2
      go_wp2_with fail
      go_still_tail 8, (by kernel_rfl)
      change wpList _ _ _ _ _ wr.drew
      have hb0 := hbel.drew
      have ok1 := MsgA.okM.keep ok1 ((Below.refl wr.heap.size wr).drew)
      have hM2 := hM2.keep ((Below.refl wr.heap.size wr).drew)
      generalize wr.drew = wd at *
      go_wp2_with fail
      refine (eqMessage_same r t _ ok1 hM2 hsz).mono ?_
      rintro e w1 ⟨rfl, hb1'⟩
      go_wp2_with fail
      go_roundw
      case rel => exact ⟨k + 1, by omega, by go_num, hb0.trans (hb1'.mono hb0.size)⟩
      case measure => simp [intOf]; omega
    · obtain rfl : k = rs.length := by omega
      go_wp2_with fail
      go_ret
      exact ⟨rfl, hbel⟩
end Go.Proofs.Ytcakldgbhjkkfaa
