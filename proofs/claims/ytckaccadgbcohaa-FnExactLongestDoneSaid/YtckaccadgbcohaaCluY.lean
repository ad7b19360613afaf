/- ClusterOK of both. No conditions but sizes. -/
import Derived.Test.YtckaccadgbcohaaCluW
import Derived.Test.YtckaccadgbcohaaRcvAll
import Derived.Test.YtckaccadgbcohaaLong
import Derived.Test.YtckaccadgbcohaaNodeOK4
namespace Go.Proofs.Ytckaccadgbcohaa
set_option linter.unusedVariables false
set_option linter.unusedSimpArgs false
section
open Go.RowKit
/-- What a store recovers to is the node's state. -/
noncomputable def recOK (N : NodeV) (s : Sto) : Bool := ((rvAll s.1).2.2 == 0) && (((rvAll s.1).2.1.2 == s.2) && (((rvAll s.1).1.1 == N.term) && (((rvAll s.1).1.2.1 == N.vote) && decide ((rvAll s.1).1.2.2 = N.log))))
noncomputable def rowOK (n i : Nat) (N : NodeV) (s : Sto) : Bool := nodeOK N && ((N.id == (i : Int)) && ((N.nodes == (n : Int)) && (storeOK s.1 s.2 && ((s.2 == (s.1.size : Int)) && recOK N s))))
def badMsg (n : Int) (M : MsgV) (ok : Bool) : Bool := !ok || (decide (n ≤ M.src) || decide (n ≤ M.dst))
def longD (s : ByteArray) : Bool := decide ((s.size : Int) > 400)
structure CluP (C : CluA) : Prop where
  cnt : inB (C.nodes.length : Int) 1 5 = true
  sl : C.stores.length = C.nodes.length
  wl : C.wire.length ≤ 60
  dl : C.done.length ≤ 60
  rows : ∀ i (h1 : i < C.nodes.length) (h2 : i < C.stores.length), rowOK C.nodes.length i C.nodes[i].N C.stores[i] = true
  wire : C.wire.any (fun r => badMsg C.nodes.length r.M (msgOK r.M)) = false
  done : C.done.any longD = false
open Classical in
noncomputable def cluOK (C : CluA) : Bool := decide (CluP C)
theorem cluOK_true {C : CluA} (h : CluP C) : cluOK C = true := by simp [cluOK, h]
theorem cluOK_false {C : CluA} (h : ¬ CluP C) : cluOK C = false := by simp [cluOK, h]
theorem any_map {α β : Type} {f : α → β} {g : β → Bool} (xs : List α) : xs.any (fun x => g (f x)) = (xs.map f).any g := by
  rw [List.any_map]
  rfl
theorem CluP.same {C D : CluA} (h : CluSame C D) (hp : CluP C) : CluP D := by
  have hl := map_len h.nodes
  refine ⟨hl ▸ hp.cnt, by rw [← h.stores, ← hl]; exact hp.sl, by rw [← map_len h.wire]; exact hp.wl, by rw [← h.done]; exact hp.dl, fun i h1 h2 => ?_, ?_, by rw [← h.done]; exact hp.done⟩
  · have h1' : i < C.nodes.length := by omega
    have h2' : i < C.stores.length := by rw [h.stores]; exact h2
    have e1 := map_at h.nodes i h1' h1
    have e2 : C.stores[i] = D.stores[i] := by simp [h.stores]
    have := hp.rows i h1' h2'
    rw [← hl, ← e2]
    rw [show D.nodes[i].N = C.nodes[i].N from e1.symm]
    exact this
  · have := hp.wire
    rw [any_map (f := fun r : MsgA => r.M) (g := fun M => badMsg C.nodes.length M (msgOK M)), h.wire] at this
    rw [any_map (f := fun r : MsgA => r.M) (g := fun M => badMsg D.nodes.length M (msgOK M)), ← hl]
    exact this
theorem CluSame.symm {C D : CluA} (h : CluSame C D) : CluSame D C := ⟨h.nodes.symm, h.stores.symm, h.wire.symm, h.done.symm⟩
theorem cluOK_same {C D : CluA} (h : CluSame C D) : cluOK C = cluOK D := by
  by_cases hp : CluP C
  · rw [cluOK_true hp, cluOK_true (hp.same h)]
  · rw [cluOK_false hp, cluOK_false (fun hd => hp (hd.same h.symm))]
set_option maxRecDepth 100000 in
set_option maxHeartbeats 4000000 in
theorem l09Same_c (a b : Option Addr) (ca cb : Nat) (xs ys : List Ent) (t v t' v' : Int) (w : World) (ha : Sl entE 2 w a xs) (hb : Sl entE 2 w b ys) (la : xs.length ≤ 1048576) (lb : ys.length ≤ 1048576) :
    Calls Try.prog 34 #[.agg #[.int .i64 t, .int .i64 v, .slice a xs.length ca], .agg #[.int .i64 t', .int .i64 v', .slice b ys.length cb]] w
      fun e w' => e = .returned (.bool (decide (t = t') && (decide (v = v') && decide (xs = ys)))) ∧ Below w.heap.size w w' := by
  have ha2 := (ha.alloc (.cells #[.int .i64 t, .int .i64 v, .slice a xs.length ca] 60)).alloc (.cells #[.int .i64 t', .int .i64 v', .slice b ys.length cb] 60)
  have hbb2 := (hb.alloc (.cells #[.int .i64 t, .int .i64 v, .slice a xs.length ca] 60)).alloc (.cells #[.int .i64 t', .int .i64 v', .slice b ys.length cb] 60)
  generalize hV : (decide (t = t') && (decide (v = v') && decide (xs = ys))) = V
  have HV := Lib.hid hV
  clear hV
  by_cases e1 : t = t'
  · have f1 : (t == t') = true := by simp [e1]
    have E1 := Lib.hid e1
    clear e1
    by_cases e2 : v = v'
    · have f2 : (v == v') = true := by simp [e2]
      have E2 := Lib.hid e2
      clear e2
      by_cases e3 : xs.length = ys.length
      · have f3 : ((xs.length : Int) == (ys.length : Int)) = true := by simp; omega
        by_cases e4 : commonN xs ys = xs.length
        · have f4 : ((commonN xs ys : Int) == (xs.length : Int)) = true := by simp; omega
          have f5 : decide (xs = ys) = true := by simpa using (commonN_all xs ys).1 ⟨e3, e4⟩
          have F5 := Lib.hid f5
          clear e3 e4 f5
          have hval : V = true := by rw [← HV.out]; simp [E1.out, E2.out, F5.out]
          subst hval
          go_enter Try.func34, Try.ntmps34
          go_wp2_with fail
          have xq0 := extW_cell (w := ((w.alloc (.cells #[.int .i64 t, .int .i64 v, .slice a xs.length ca] 60)).alloc (.cells #[.int .i64 t', .int .i64 v', .slice b ys.length cb] 60))) (b := w.heap.size) (by (try simp) <;> (try omega))
          have xq1 := extW_cell (w := ((w.alloc (.cells #[.int .i64 t, .int .i64 v, .slice a xs.length ca] 60)).alloc (.cells #[.int .i64 t', .int .i64 v', .slice b ys.length cb] 60))) (b := w.heap.size + 1) (by (try simp) <;> (try omega))
          refine wp_region_quietx (((w.alloc (.cells #[.int .i64 t, .int .i64 v, .slice a xs.length ca] 60)).alloc (.cells #[.int .i64 t', .int .i64 v', .slice b ys.length cb] 60))) rfl (by kernel_rfl) (by kernel_rfl) ?_
          repeat (go_big_quiet_step ((go_at_call 67; exact Calls.quietx (l07Common_c a b ca cb xs ys _ (ha2.keep (extW_below _ _)) (hbb2.keep (extW_below _ _)) la lb))))
          refine wpQuiet_nil ?_
          intro _ hw'
          obtain ⟨xq, hw''⟩ := hw'
          subst hw''
          have hbq := extW_below (((w.alloc (.cells #[.int .i64 t, .int .i64 v, .slice a xs.length ca] 60)).alloc (.cells #[.int .i64 t', .int .i64 v', .slice b ys.length cb] 60))) xq
          generalize extW (((w.alloc (.cells #[.int .i64 t, .int .i64 v, .slice a xs.length ca] 60)).alloc (.cells #[.int .i64 t', .int .i64 v', .slice b ys.length cb] 60))) xq = wq at hbq ⊢
          clear xq0
          clear xq1
          go_wp2_with fail
          go_ret
          exact ⟨rfl, (by repeat (first | exact Below.refl _ _ | (refine Below.alloc ?_ (by (try simp) <;> (try omega)) _) | (refine Below.setCell ?_ (by (try simp) <;> (try omega)) _) | (refine Below.drew ?_) | (refine Below.trans ?_ (Below.mono (by assumption) (by (try simp) <;> (try omega))))))⟩
        · have f4 : ((commonN xs ys : Int) == (xs.length : Int)) = false := by simp; omega
          have f5 : decide (xs = ys) = false := by simp; intro h; exact e4 ((commonN_all xs ys).2 h).2
          have F5 := Lib.hid f5
          clear e3 f5
          have hval : V = false := by rw [← HV.out]; simp [F5.out]
          subst hval
          go_enter Try.func34, Try.ntmps34
          go_wp2_with fail
          have xq0 := extW_cell (w := ((w.alloc (.cells #[.int .i64 t, .int .i64 v, .slice a xs.length ca] 60)).alloc (.cells #[.int .i64 t', .int .i64 v', .slice b ys.length cb] 60))) (b := w.heap.size) (by (try simp) <;> (try omega))
          have xq1 := extW_cell (w := ((w.alloc (.cells #[.int .i64 t, .int .i64 v, .slice a xs.length ca] 60)).alloc (.cells #[.int .i64 t', .int .i64 v', .slice b ys.length cb] 60))) (b := w.heap.size + 1) (by (try simp) <;> (try omega))
          refine wp_region_quietx (((w.alloc (.cells #[.int .i64 t, .int .i64 v, .slice a xs.length ca] 60)).alloc (.cells #[.int .i64 t', .int .i64 v', .slice b ys.length cb] 60))) rfl (by kernel_rfl) (by kernel_rfl) ?_
          repeat (go_big_quiet_step ((go_at_call 67; exact Calls.quietx (l07Common_c a b ca cb xs ys _ (ha2.keep (extW_below _ _)) (hbb2.keep (extW_below _ _)) la lb))))
          refine wpQuiet_nil ?_
          intro _ hw'
          obtain ⟨xq, hw''⟩ := hw'
          subst hw''
          have hbq := extW_below (((w.alloc (.cells #[.int .i64 t, .int .i64 v, .slice a xs.length ca] 60)).alloc (.cells #[.int .i64 t', .int .i64 v', .slice b ys.length cb] 60))) xq
          generalize extW (((w.alloc (.cells #[.int .i64 t, .int .i64 v, .slice a xs.length ca] 60)).alloc (.cells #[.int .i64 t', .int .i64 v', .slice b ys.length cb] 60))) xq = wq at hbq ⊢
          clear xq0
          clear xq1
          go_wp2_with fail
          go_ret
          exact ⟨rfl, (by repeat (first | exact Below.refl _ _ | (refine Below.alloc ?_ (by (try simp) <;> (try omega)) _) | (refine Below.setCell ?_ (by (try simp) <;> (try omega)) _) | (refine Below.drew ?_) | (refine Below.trans ?_ (Below.mono (by assumption) (by (try simp) <;> (try omega))))))⟩
      · have f3 : ((xs.length : Int) == (ys.length : Int)) = false := by simp; omega
        have f5 : decide (xs = ys) = false := by simp; intro h; exact e3 (by rw [h])
        have F5 := Lib.hid f5
        clear f5
        have hval : V = false := by rw [← HV.out]; simp [F5.out]
        subst hval
        go_enter Try.func34, Try.ntmps34
        go_wp2_with fail
        have xq0 := extW_cell (w := ((w.alloc (.cells #[.int .i64 t, .int .i64 v, .slice a xs.length ca] 60)).alloc (.cells #[.int .i64 t', .int .i64 v', .slice b ys.length cb] 60))) (b := w.heap.size) (by (try simp) <;> (try omega))
        have xq1 := extW_cell (w := ((w.alloc (.cells #[.int .i64 t, .int .i64 v, .slice a xs.length ca] 60)).alloc (.cells #[.int .i64 t', .int .i64 v', .slice b ys.length cb] 60))) (b := w.heap.size + 1) (by (try simp) <;> (try omega))
        refine wp_region_quietx (((w.alloc (.cells #[.int .i64 t, .int .i64 v, .slice a xs.length ca] 60)).alloc (.cells #[.int .i64 t', .int .i64 v', .slice b ys.length cb] 60))) rfl (by kernel_rfl) (by kernel_rfl) ?_
        repeat (go_big_quiet_step ((go_at_call 67; exact Calls.quietx (l07Common_c a b ca cb xs ys _ (ha2.keep (extW_below _ _)) (hbb2.keep (extW_below _ _)) la lb))))
        refine wpQuiet_nil ?_
        intro _ hw'
        obtain ⟨xq, hw''⟩ := hw'
        subst hw''
        have hbq := extW_below (((w.alloc (.cells #[.int .i64 t, .int .i64 v, .slice a xs.length ca] 60)).alloc (.cells #[.int .i64 t', .int .i64 v', .slice b ys.length cb] 60))) xq
        generalize extW (((w.alloc (.cells #[.int .i64 t, .int .i64 v, .slice a xs.length ca] 60)).alloc (.cells #[.int .i64 t', .int .i64 v', .slice b ys.length cb] 60))) xq = wq at hbq ⊢
        clear xq0
        clear xq1
        go_wp2_with fail
        go_ret
        exact ⟨rfl, (by repeat (first | exact Below.refl _ _ | (refine Below.alloc ?_ (by (try simp) <;> (try omega)) _) | (refine Below.setCell ?_ (by (try simp) <;> (try omega)) _) | (refine Below.drew ?_) | (refine Below.trans ?_ (Below.mono (by assumption) (by (try simp) <;> (try omega))))))⟩
    · have f2 : (v == v') = false := by simpa using e2
      have f5 : decide (v = v') = false := by simpa using e2
      have F5 := Lib.hid f5
      clear f5
      have hval : V = false := by rw [← HV.out]; simp [F5.out]
      subst hval
      go_enter Try.func34, Try.ntmps34
      go_wp2_with fail
      have xq0 := extW_cell (w := ((w.alloc (.cells #[.int .i64 t, .int .i64 v, .slice a xs.length ca] 60)).alloc (.cells #[.int .i64 t', .int .i64 v', .slice b ys.length cb] 60))) (b := w.heap.size) (by (try simp) <;> (try omega))
      have xq1 := extW_cell (w := ((w.alloc (.cells #[.int .i64 t, .int .i64 v, .slice a xs.length ca] 60)).alloc (.cells #[.int .i64 t', .int .i64 v', .slice b ys.length cb] 60))) (b := w.heap.size + 1) (by (try simp) <;> (try omega))
      refine wp_region_quietx (((w.alloc (.cells #[.int .i64 t, .int .i64 v, .slice a xs.length ca] 60)).alloc (.cells #[.int .i64 t', .int .i64 v', .slice b ys.length cb] 60))) rfl (by kernel_rfl) (by kernel_rfl) ?_
      repeat (go_big_quiet_step ((go_at_call 67; exact Calls.quietx (l07Common_c a b ca cb xs ys _ (ha2.keep (extW_below _ _)) (hbb2.keep (extW_below _ _)) la lb))))
      refine wpQuiet_nil ?_
      intro _ hw'
      obtain ⟨xq, hw''⟩ := hw'
      subst hw''
      have hbq := extW_below (((w.alloc (.cells #[.int .i64 t, .int .i64 v, .slice a xs.length ca] 60)).alloc (.cells #[.int .i64 t', .int .i64 v', .slice b ys.length cb] 60))) xq
      generalize extW (((w.alloc (.cells #[.int .i64 t, .int .i64 v, .slice a xs.length ca] 60)).alloc (.cells #[.int .i64 t', .int .i64 v', .slice b ys.length cb] 60))) xq = wq at hbq ⊢
      clear xq0
      clear xq1
      go_wp2_with fail
      go_ret
      exact ⟨rfl, (by repeat (first | exact Below.refl _ _ | (refine Below.alloc ?_ (by (try simp) <;> (try omega)) _) | (refine Below.setCell ?_ (by (try simp) <;> (try omega)) _) | (refine Below.drew ?_) | (refine Below.trans ?_ (Below.mono (by assumption) (by (try simp) <;> (try omega))))))⟩
  · have f1 : (t == t') = false := by simpa using e1
    have f5 : decide (t = t') = false := by simpa using e1
    have F5 := Lib.hid f5
    clear f5
    have hval : V = false := by rw [← HV.out]; simp [F5.out]
    subst hval
    go_enter Try.func34, Try.ntmps34
    go_wp2_with fail
    have xq0 := extW_cell (w := ((w.alloc (.cells #[.int .i64 t, .int .i64 v, .slice a xs.length ca] 60)).alloc (.cells #[.int .i64 t', .int .i64 v', .slice b ys.length cb] 60))) (b := w.heap.size) (by (try simp) <;> (try omega))
    have xq1 := extW_cell (w := ((w.alloc (.cells #[.int .i64 t, .int .i64 v, .slice a xs.length ca] 60)).alloc (.cells #[.int .i64 t', .int .i64 v', .slice b ys.length cb] 60))) (b := w.heap.size + 1) (by (try simp) <;> (try omega))
    refine wp_region_quietx (((w.alloc (.cells #[.int .i64 t, .int .i64 v, .slice a xs.length ca] 60)).alloc (.cells #[.int .i64 t', .int .i64 v', .slice b ys.length cb] 60))) rfl (by kernel_rfl) (by kernel_rfl) ?_
    repeat (go_big_quiet_step ((go_at_call 67; exact Calls.quietx (l07Common_c a b ca cb xs ys _ (ha2.keep (extW_below _ _)) (hbb2.keep (extW_below _ _)) la lb))))
    refine wpQuiet_nil ?_
    intro _ hw'
    obtain ⟨xq, hw''⟩ := hw'
    subst hw''
    have hbq := extW_below (((w.alloc (.cells #[.int .i64 t, .int .i64 v, .slice a xs.length ca] 60)).alloc (.cells #[.int .i64 t', .int .i64 v', .slice b ys.length cb] 60))) xq
    generalize extW (((w.alloc (.cells #[.int .i64 t, .int .i64 v, .slice a xs.length ca] 60)).alloc (.cells #[.int .i64 t', .int .i64 v', .slice b ys.length cb] 60))) xq = wq at hbq ⊢
    clear xq0
    clear xq1
    go_wp2_with fail
    go_ret
    exact ⟨rfl, (by repeat (first | exact Below.refl _ _ | (refine Below.alloc ?_ (by (try simp) <;> (try omega)) _) | (refine Below.setCell ?_ (by (try simp) <;> (try omega)) _) | (refine Below.drew ?_) | (refine Below.trans ?_ (Below.mono (by assumption) (by (try simp) <;> (try omega))))))⟩
set_option maxRecDepth 100000 in
set_option maxHeartbeats 4000000 in
theorem f1_c (r : MsgA) (n : Int) (B : Nat) (w : World) (h : r.okM w) (hZ : MsgSz r.M 1048576) (hB : w.cell? ⟨B, 0, none⟩ = some (.int .i64 n)) (hlt : B < w.heap.size) :
    Calls Try.prog 76 #[.agg #[.int .i64 r.M.kind, .int .i64 r.M.src, .int .i64 r.M.dst, .int .i64 r.M.term, .int .i64 r.M.index, .int .i64 r.M.lterm, .int .i64 r.M.commit, .bool r.M.ok, .slice r.ae r.M.ents.length r.ce], .pointer (some ⟨B, 0, none⟩)] w fun e w' => e = .returned (.bool (badMsg n r.M (msgOK r.M))) ∧ Below w.heap.size w w' := by
  have HZ := Lib.hid hZ
  obtain ⟨v, hv⟩ : ∃ v, msgOK r.M = v := ⟨_, rfl⟩
  have HV := Lib.hid hv
  have h1 : MsgA.okM (w.alloc (.cells #[.int .i64 r.M.kind, .int .i64 r.M.src, .int .i64 r.M.dst, .int .i64 r.M.term, .int .i64 r.M.index, .int .i64 r.M.lterm, .int .i64 r.M.commit, .bool r.M.ok, .slice r.ae r.M.ents.length r.ce] 66)) r := MsgA.okM.keep h ((Below.refl _ _).alloc (Nat.le_refl _) _)
  rw [hv]
  clear hZ hv
  go_enter Try.func76, Try.ntmps76
  go_wp2_with fail
  refine (isMessage_c r _ h1 HZ.out).mono ?_
  rintro e w1 ⟨rfl, hb1⟩
  rw [HV.out]
  have m_0 : w1.cell? ⟨w.heap.size, 0, none⟩ = some (.int .i64 r.M.kind) := (hb1.cell (p := ⟨w.heap.size, 0, none⟩) (by show w.heap.size < _; simp)).trans (by simp [go_sem])
  have m_1 : w1.cell? ⟨w.heap.size, 1, none⟩ = some (.int .i64 r.M.src) := (hb1.cell (p := ⟨w.heap.size, 1, none⟩) (by show w.heap.size < _; simp)).trans (by simp [go_sem])
  have m_2 : w1.cell? ⟨w.heap.size, 2, none⟩ = some (.int .i64 r.M.dst) := (hb1.cell (p := ⟨w.heap.size, 2, none⟩) (by show w.heap.size < _; simp)).trans (by simp [go_sem])
  have m_3 : w1.cell? ⟨w.heap.size, 3, none⟩ = some (.int .i64 r.M.term) := (hb1.cell (p := ⟨w.heap.size, 3, none⟩) (by show w.heap.size < _; simp)).trans (by simp [go_sem])
  have m_4 : w1.cell? ⟨w.heap.size, 4, none⟩ = some (.int .i64 r.M.index) := (hb1.cell (p := ⟨w.heap.size, 4, none⟩) (by show w.heap.size < _; simp)).trans (by simp [go_sem])
  have m_5 : w1.cell? ⟨w.heap.size, 5, none⟩ = some (.int .i64 r.M.lterm) := (hb1.cell (p := ⟨w.heap.size, 5, none⟩) (by show w.heap.size < _; simp)).trans (by simp [go_sem])
  have m_6 : w1.cell? ⟨w.heap.size, 6, none⟩ = some (.int .i64 r.M.commit) := (hb1.cell (p := ⟨w.heap.size, 6, none⟩) (by show w.heap.size < _; simp)).trans (by simp [go_sem])
  have m_7 : w1.cell? ⟨w.heap.size, 7, none⟩ = some (.bool r.M.ok) := (hb1.cell (p := ⟨w.heap.size, 7, none⟩) (by show w.heap.size < _; simp)).trans (by simp [go_sem])
  have m_8 : w1.cell? ⟨w.heap.size, 8, none⟩ = some (.slice r.ae r.M.ents.length r.ce) := (hb1.cell (p := ⟨w.heap.size, 8, none⟩) (by show w.heap.size < _; simp)).trans (by simp [go_sem])
  have n_0 : w1.cell? ⟨B, 0, none⟩ = some (.int .i64 n) := (hb1.cell (p := ⟨B, 0, none⟩) (by show B < _; simp; omega)).trans ((World.cell?_alloc_lt _ _ _ hlt).trans hB)
  have HB : Hid (Below w.heap.size w w1) := ((Below.refl _ _).alloc (Nat.le_refl _) _).trans (hb1.mono (by simp))
  clear hb1
  cases v
  case false =>
    go_wp2_with fail
    go_ret
    exact ⟨rfl, HB.out⟩
  case true =>
    by_cases g1 : n ≤ r.M.src
    · have d1 : decide (r.M.src ≥ n) = true := by simpa using g1
      go_wp2_with fail
      go_ret
      exact ⟨by simp [badMsg, g1], HB.out⟩
    · have d1 : decide (r.M.src ≥ n) = false := by simpa using g1
      go_wp2_with fail
      go_ret
      exact ⟨by simp [badMsg]; omega, HB.out⟩
set_option maxRecDepth 100000 in
set_option maxHeartbeats 4000000 in
theorem index1_c (n : Int) (B : Nat) (a : Option Addr) (ca : Nat) (rs : List MsgA) (w : World) (ha : MsgS w a rs) (la : rs.length ≤ 1048576) (hs : ∀ r ∈ rs, MsgSz r.M 1048576) (hB : w.cell? ⟨B, 0, none⟩ = some (.int .i64 n)) (hBl : B < w.heap.size) :
    Calls Try.prog 103 #[.slice a rs.length ca, .func (.func 76) #[] #[.pointer (some ⟨B, 0, none⟩)]] w fun e w' => (∃ i : Int, e = .returned (.int .i64 i) ∧ Hid (decide (0 ≤ i) = rs.any (fun r => badMsg n r.M (msgOK r.M)))) ∧ Below w.heap.size w w' := by
  have HQ := Lib.hid hs
  clear hs
  go_enter Try.func103, Try.ntmps103
  go_wp2_with fail
  go_loopw [5, 8] (fun _ i wr => ∃ k : Nat, k ≤ rs.length ∧ i = .int .i64 k ∧ (∀ j (hj : j < rs.length), j < k → (fun r : MsgA => badMsg n r.M (msgOK r.M)) rs[j] = false) ∧ Below w.heap.size w wr) (fun _ i _ => rs.length - (intOf i).toNat)
  case atStart => exact ⟨0, Nat.zero_le _, rfl, fun j _ h => absurd h (Nat.not_lt_zero _), Below.refl _ _⟩
  case round =>
    obtain ⟨k, hk, rfl, hp, hbel⟩ := hrel
    have HP := Lib.hid hp
    clear hp
    by_cases hlt : k < rs.length
    · obtain ⟨b1, o1, rfl, hb1, hc1⟩ := (ha.1.keep hbel).at hlt
      have c0 := hc1 k hlt 0 (by omega)
      have c1 := hc1 k hlt 1 (by omega)
      have c2 := hc1 k hlt 2 (by omega)
      have c3 := hc1 k hlt 3 (by omega)
      have c4 := hc1 k hlt 4 (by omega)
      have c5 := hc1 k hlt 5 (by omega)
      have c6 := hc1 k hlt 6 (by omega)
      have c7 := hc1 k hlt 7 (by omega)
      have c8 := hc1 k hlt 8 (by omega)
      simp only [msgE, Nat.add_zero, List.getElem?_cons_zero, List.getElem?_cons_succ] at c0 c1 c2 c3 c4 c5 c6 c7 c8
      have hsz := HQ.out rs[k] (List.getElem_mem _)
      have hok := (ha.2 rs[k] (List.getElem_mem _)).keep hbel
      have hBr : wr.cell? ⟨B, 0, none⟩ = some (.int .i64 n) := (hbel.cell (p := ⟨B, 0, none⟩) hBl).trans hB
      have hz := hbel.size
      clear hc1
      obtain ⟨v, hv⟩ : ∃ v, (fun r : MsgA => badMsg n r.M (msgOK r.M)) rs[k] = v := ⟨_, rfl⟩
      have HV := Lib.hid hv
      have hf := f1_c rs[k] n B wr hok hsz hBr (by omega)
      rw [show badMsg n rs[k].M (msgOK rs[k].M) = v from hv] at hf
      have HF := Lib.hid hf
      clear hf hv hok hsz
      generalize rs[k] = r at c0 c1 c2 c3 c4 c5 c6 c7 c8 HF
      cases v
      · go_wp2_with fail
        refine HF.out.mono ?_
        rintro e w' ⟨rfl, hb'⟩
        go_wp2_with fail
        go_roundw
        case rel => exact ⟨k + 1, by omega, by go_num, fun j hj h => by
          rcases Nat.lt_succ_iff_lt_or_eq.1 h with h | rfl
          · exact HP.out j hj h
          · exact HV.out, hbel.trans (hb'.mono hbel.size)⟩
        case measure => simp [intOf]; omega
      · go_wp2_with fail
        refine HF.out.mono ?_
        rintro e w' ⟨rfl, hb'⟩
        go_wp2_with fail
        go_ret
        refine ⟨⟨_, rfl, ?_⟩, hbel.trans (hb'.mono hbel.size)⟩
        rw [any_at (p := fun r : MsgA => badMsg n r.M (msgOK r.M)) hlt HV.out]
        show decide _ = _
        simp
    · obtain rfl : k = rs.length := by omega
      go_wp2_with fail
      go_ret
      refine ⟨⟨_, rfl, ?_⟩, hbel⟩
      rw [take_none HP.out (Nat.le_refl _)]
      rfl
set_option maxRecDepth 100000 in
set_option maxHeartbeats 4000000 in
theorem contains1_c (n : Int) (B : Nat) (a : Option Addr) (ca : Nat) (rs : List MsgA) (w : World) (ha : MsgS w a rs) (la : rs.length ≤ 1048576) (hs : ∀ r ∈ rs, MsgSz r.M 1048576) (hB : w.cell? ⟨B, 0, none⟩ = some (.int .i64 n)) (hBl : B < w.heap.size) :
    Calls Try.prog 75 #[.slice a rs.length ca, .func (.func 76) #[] #[.pointer (some ⟨B, 0, none⟩)]] w fun e w' => e = .returned (.bool (rs.any (fun r => badMsg n r.M (msgOK r.M)))) ∧ Below w.heap.size w w' := by
  have HQ := Lib.hid hs
  clear hs
  go_enter Try.func75, Try.ntmps75
  go_wp2_with fail
  refine (index1_c n B a ca rs _ ha la HQ.out hB hBl).mono ?_
  rintro e w' ⟨⟨i, rfl, hi⟩, hb⟩
  go_wp2_with fail
  go_ret
  exact ⟨by rw [← hi.out]; rfl, hb⟩
def sz_impl_isCluster_2 (s : ByteArray) : Prop := s.size ≤ 1048576
theorem f_impl_isCluster_2 (s : ByteArray) (w : World) (h : sz_impl_isCluster_2 s) : Calls Try.prog 79 #[.string s] w fun e w' => e = .returned (.bool (longD s)) ∧ w = w' := by
  unfold sz_impl_isCluster_2 at h
  go_enter Try.func79, Try.ntmps79
  go_wp2_with fail
  go_ret
  exact ⟨rfl, rfl⟩
set_option maxRecDepth 100000 in
set_option maxHeartbeats 1000000 in
theorem index_impl_isCluster_2 (a : Option Addr) (ca : Nat) (xs : List ByteArray) (w : World) (ha : Sl strE 1 w a xs) (la : xs.length ≤ 1099511627776) (hq : ∀ x ∈ xs, sz_impl_isCluster_2 x) :
    Calls Try.prog 105 #[.slice a xs.length ca, .func (.func 79) #[] #[]] w fun e w' => (∃ i : Int, e = .returned (.int .i64 i) ∧ Hid (decide (0 ≤ i) = xs.any longD)) ∧ w = w' := by
  have HQ := Lib.hid hq
  clear hq
  go_enter Try.func105, Try.ntmps105
  go_wp2_with fail
  go_loop [5, 8] (fun _ i => ∃ k : Nat, k ≤ xs.length ∧ i = .int .i64 k ∧ ∀ j (hj : j < xs.length), j < k → longD xs[j] = false) (fun _ i => xs.length - (intOf i).toNat)
  case atStart => exact ⟨0, Nat.zero_le _, rfl, fun j _ h => absurd h (Nat.not_lt_zero _)⟩
  case round =>
    obtain ⟨k, hk, rfl, hp⟩ := hrel
    have HP := Lib.hid hp
    clear hp
    by_cases hlt : k < xs.length
    · obtain ⟨b1, o1, rfl, hb1, hc1⟩ := ha.at hlt
      have c1 := hc1 k hlt 0 (by omega)
      simp only [strE, Nat.mul_one, Nat.add_zero, List.getElem?_cons_zero] at c1
      have hx := HQ.out xs[k] (List.getElem_mem _)
      clear hc1
      cases hpk : longD xs[k]
      · have HPK := Lib.hid hpk
        clear hpk
        go_wp2_with (go_at_call 79; refine (f_impl_isCluster_2 xs[k] _ hx).mono ?_; rw [HPK.out]; rintro e w' ⟨rfl, rfl⟩)
        go_round
        case rel => exact ⟨k + 1, by omega, by go_num, fun j hj h => by
          rcases Nat.lt_succ_iff_lt_or_eq.1 h with h | rfl
          · exact HP.out j hj h
          · exact HPK.out⟩
        case measure => simp [intOf]; omega
      · have HPK := Lib.hid hpk
        clear hpk
        go_wp2_with (go_at_call 79; refine (f_impl_isCluster_2 xs[k] _ hx).mono ?_; rw [HPK.out]; rintro e w' ⟨rfl, rfl⟩)
        go_ret
        exact ⟨⟨_, rfl, by rw [any_at hlt HPK.out]; show decide _ = _; simp⟩, rfl⟩
    · obtain rfl : k = xs.length := by omega
      go_wp2_with fail
      go_ret
      exact ⟨⟨_, rfl, by rw [take_none HP.out (Nat.le_refl _)]; rfl⟩, rfl⟩
set_option maxHeartbeats 1000000 in
theorem contains_impl_isCluster_2 (a : Option Addr) (ca : Nat) (xs : List ByteArray) (w : World) (ha : Sl strE 1 w a xs) (la : xs.length ≤ 1099511627776) (hq : ∀ x ∈ xs, sz_impl_isCluster_2 x) :
    Calls Try.prog 78 #[.slice a xs.length ca, .func (.func 79) #[] #[]] w fun e w' => e = .returned (.bool (xs.any longD)) ∧ w = w' := by
  have HQ := Lib.hid hq
  clear hq
  go_enter Try.func78, Try.ntmps78
  go_wp2_with fail
  refine (index_impl_isCluster_2 a ca xs _ ha la HQ.out).mono ?_
  rintro e w' ⟨⟨i, rfl, hi⟩, rfl⟩
  go_wp2_with fail
  go_ret
  exact ⟨by rw [← hi.out]; rfl, rfl⟩
end
section
open Go.RowKit
theorem rv_rest {d : ByteArray} (h : (rvAll d).2.2 = 0) : (rvAll d).2.1.1 = d.extract 0 (rvAll d).2.1.2.toNat := by
  unfold rvAll rvX at *
  split at h
  · simp_all
  · rename_i h8
    rw [if_neg h8]
    split at h
    · simp at h
    · simp
theorem rv_same {d : ByteArray} {n : Int} (h : (rvAll d).2.2 = 0) (hn : n = d.size) (h2 : (rvAll d).2.1.2 = n) : (rvAll d).2.1.1 = d := by
  rw [rv_rest h, h2, hn]
  simp

set_option maxRecDepth 100000 in
set_option maxHeartbeats 4000000 in
theorem isCluster_c (ns : List NodeA) (an : Option Addr) (cn : Nat) (ss : List Sto) (ast : Option Addr) (cst : Nat) (ws : List MsgA) (aw : Option Addr) (cw : Nat) (ds : List ByteArray) (ad : Option Addr) (cd : Nat) (w : World) (hC : CluOK w (⟨ns, an, cn, ss, ast, cst, ws, aw, cw, ds, ad, cd⟩ : CluA)) (hZ : CluSz (⟨ns, an, cn, ss, ast, cst, ws, aw, cw, ds, ad, cd⟩ : CluA) 1048576) :
    Calls Try.prog 41 #[.agg #[.slice an ns.length cn, .slice ast ss.length cst, .slice aw ws.length cw, .slice ad ds.length cd]] w fun e w' => e = .returned (.bool (cluOK (⟨ns, an, cn, ss, ast, cst, ws, aw, cw, ds, ad, cd⟩ : CluA))) ∧ Below w.heap.size w w' := by
  have hn1 : NodeS w an ns := hC.nodes
  have hs1 : Sl stoE 2 w ast ss := hC.stores
  have hw1 : MsgS w aw ws := hC.wire
  have hd1 : Sl strE 1 w ad ds := hC.done
  have ZN : Hid (∀ r ∈ ns, NodeSz r.N 1048576) := hZ.nodes
  have ZS : Hid (∀ s ∈ ss, s.1.size ≤ 1048576) := hZ.stores
  have ZW : Hid (∀ r ∈ ws, MsgSz r.M 1048576) := hZ.wire
  have ZD : Hid (∀ s ∈ ds, s.size ≤ 1048576) := hZ.done
  have zn : ns.length ≤ 1048576 := hZ.nl
  have zs : ss.length ≤ 1048576 := hZ.sl
  have zw : ws.length ≤ 1048576 := hZ.wl
  have zd : ds.length ≤ 1048576 := hZ.dl
  clear hC hZ
  generalize hv : cluOK (⟨ns, an, cn, ss, ast, cst, ws, aw, cw, ds, ad, cd⟩ : CluA) = V
  have HV : Hid (cluOK (⟨ns, an, cn, ss, ast, cst, ws, aw, cw, ds, ad, cd⟩ : CluA) = V) := Lib.hid hv
  have HF : Hid (¬ CluP (⟨ns, an, cn, ss, ast, cst, ws, aw, cw, ds, ad, cd⟩ : CluA) → V = false) := Lib.hid (fun h => hv ▸ cluOK_false h)
  have HT : Hid (CluP (⟨ns, an, cn, ss, ast, cst, ws, aw, cw, ds, ad, cd⟩ : CluA) → V = true) := Lib.hid (fun h => hv ▸ cluOK_true h)
  clear hv
  obtain ⟨v1, hv1⟩ : ∃ v, inB (ns.length : Int) 1 5 = v := ⟨_, rfl⟩
  have E1 := Lib.hid hv1
  clear hv1
  cases v1
  case false =>
    have hval : V = false := HF.out (fun hp => by have := hp.cnt; have h2 := E1.out; simp only at this; rw [h2] at this; cases this)
    subst hval
    go_enter Try.func41, Try.ntmps41
    go_wp2_with (go_at_call 55; refine (within_c _ _ _ _).mono ?_; rw [E1.out]; rintro e w' ⟨rfl, rfl⟩)
    go_ret
    exact ⟨rfl, (by repeat (first | exact Below.refl _ _ | (refine Below.alloc ?_ (by (try simp) <;> (try omega)) _) | (refine Below.setCell ?_ (by (try simp) <;> (try omega)) _) | (refine Below.drew ?_) | (refine Below.trans ?_ (Below.mono (by assumption) (by (try simp) <;> (try omega))))))⟩
  case true =>
    have hn5 : 1 ≤ ns.length ∧ ns.length ≤ 5 := by have := E1.out; simp [inB] at this; omega
    by_cases l2 : ss.length = ns.length
    rotate_left
    · have f2 : ((ss.length : Int) != (ns.length : Int)) = true := by simp; omega
      have L2 := Lib.hid l2
      clear l2
      have hval : V = false := HF.out (fun hp => by exact L2.out hp.sl)
      subst hval
      go_enter Try.func41, Try.ntmps41
      go_wp2_with (go_at_call 55; refine (within_c _ _ _ _).mono ?_; rw [E1.out]; rintro e w' ⟨rfl, rfl⟩)
      go_ret
      exact ⟨rfl, (by repeat (first | exact Below.refl _ _ | (refine Below.alloc ?_ (by (try simp) <;> (try omega)) _) | (refine Below.setCell ?_ (by (try simp) <;> (try omega)) _) | (refine Below.drew ?_) | (refine Below.trans ?_ (Below.mono (by assumption) (by (try simp) <;> (try omega))))))⟩
    have f2 : ((ss.length : Int) != (ns.length : Int)) = false := by simp; omega
    have L2 := Lib.hid l2
    clear l2
    by_cases l3 : ws.length ≤ 60
    rotate_left
    · have f3 : decide ((ws.length : Int) > 60) = true := by simp; omega
      have L3 := Lib.hid l3
      clear l3
      have hval : V = false := HF.out (fun hp => by exact L3.out hp.wl)
      subst hval
      go_enter Try.func41, Try.ntmps41
      go_wp2_with (go_at_call 55; refine (within_c _ _ _ _).mono ?_; rw [E1.out]; rintro e w' ⟨rfl, rfl⟩)
      go_ret
      exact ⟨rfl, (by repeat (first | exact Below.refl _ _ | (refine Below.alloc ?_ (by (try simp) <;> (try omega)) _) | (refine Below.setCell ?_ (by (try simp) <;> (try omega)) _) | (refine Below.drew ?_) | (refine Below.trans ?_ (Below.mono (by assumption) (by (try simp) <;> (try omega))))))⟩
    have f3 : decide ((ws.length : Int) > 60) = false := by simp; omega
    by_cases l4 : ds.length ≤ 60
    rotate_left
    · have f4 : decide ((ds.length : Int) > 60) = true := by simp; omega
      have L4 := Lib.hid l4
      clear l4
      have hval : V = false := HF.out (fun hp => by exact L4.out hp.dl)
      subst hval
      go_enter Try.func41, Try.ntmps41
      go_wp2_with (go_at_call 55; refine (within_c _ _ _ _).mono ?_; rw [E1.out]; rintro e w' ⟨rfl, rfl⟩)
      go_ret
      exact ⟨rfl, (by repeat (first | exact Below.refl _ _ | (refine Below.alloc ?_ (by (try simp) <;> (try omega)) _) | (refine Below.setCell ?_ (by (try simp) <;> (try omega)) _) | (refine Below.drew ?_) | (refine Below.trans ?_ (Below.mono (by assumption) (by (try simp) <;> (try omega))))))⟩
    have f4 : decide ((ds.length : Int) > 60) = false := by simp; omega
    go_enter Try.func41, Try.ntmps41
    go_wp2_with (go_at_call 55; refine (within_c _ _ _ _).mono ?_; rw [E1.out]; rintro e w' ⟨rfl, rfl⟩)
    have k_0 : ((w.alloc (.cells #[.slice an ns.length cn, .slice ast ss.length cst, .slice aw ws.length cw, .slice ad ds.length cd] 34)).alloc (.cells #[.int .i64 (ns.length : Int)] 3)).cell? ⟨w.heap.size, 0, none⟩ = some (.slice an ns.length cn) := by simp [go_sem]
    have k_1 : ((w.alloc (.cells #[.slice an ns.length cn, .slice ast ss.length cst, .slice aw ws.length cw, .slice ad ds.length cd] 34)).alloc (.cells #[.int .i64 (ns.length : Int)] 3)).cell? ⟨w.heap.size, 1, none⟩ = some (.slice ast ss.length cst) := by simp [go_sem]
    have k_2 : ((w.alloc (.cells #[.slice an ns.length cn, .slice ast ss.length cst, .slice aw ws.length cw, .slice ad ds.length cd] 34)).alloc (.cells #[.int .i64 (ns.length : Int)] 3)).cell? ⟨w.heap.size, 2, none⟩ = some (.slice aw ws.length cw) := by simp [go_sem]
    have k_3 : ((w.alloc (.cells #[.slice an ns.length cn, .slice ast ss.length cst, .slice aw ws.length cw, .slice ad ds.length cd] 34)).alloc (.cells #[.int .i64 (ns.length : Int)] 3)).cell? ⟨w.heap.size, 3, none⟩ = some (.slice ad ds.length cd) := by simp [go_sem]
    have n_0 : ((w.alloc (.cells #[.slice an ns.length cn, .slice ast ss.length cst, .slice aw ws.length cw, .slice ad ds.length cd] 34)).alloc (.cells #[.int .i64 (ns.length : Int)] 3)).cell? ⟨w.heap.size + 1, 0, none⟩ = some (.int .i64 (ns.length : Int)) := by simp [go_sem]
    have hn2 := (hn1.alloc (.cells #[.slice an ns.length cn, .slice ast ss.length cst, .slice aw ws.length cw, .slice ad ds.length cd] 34)).alloc (.cells #[.int .i64 (ns.length : Int)] 3)
    have hs2 := (hs1.alloc (.cells #[.slice an ns.length cn, .slice ast ss.length cst, .slice aw ws.length cw, .slice ad ds.length cd] 34)).alloc (.cells #[.int .i64 (ns.length : Int)] 3)
    have hw2 := (hw1.alloc (.cells #[.slice an ns.length cn, .slice ast ss.length cst, .slice aw ws.length cw, .slice ad ds.length cd] 34)).alloc (.cells #[.int .i64 (ns.length : Int)] 3)
    have hd2 := (hd1.alloc (.cells #[.slice an ns.length cn, .slice ast ss.length cst, .slice aw ws.length cw, .slice ad ds.length cd] 34)).alloc (.cells #[.int .i64 (ns.length : Int)] 3)
    have HB0 : Hid (Below w.heap.size w ((w.alloc (.cells #[.slice an ns.length cn, .slice ast ss.length cst, .slice aw ws.length cw, .slice ad ds.length cd] 34)).alloc (.cells #[.int .i64 (ns.length : Int)] 3))) := ((Below.refl _ _).alloc (Nat.le_refl _) _).alloc (by simp) _
    have hz0 : w.heap.size + 2 ≤ ((w.alloc (.cells #[.slice an ns.length cn, .slice ast ss.length cst, .slice aw ws.length cw, .slice ad ds.length cd] 34)).alloc (.cells #[.int .i64 (ns.length : Int)] 3)).heap.size := by simp
    generalize ((w.alloc (.cells #[.slice an ns.length cn, .slice ast ss.length cst, .slice aw ws.length cw, .slice ad ds.length cd] 34)).alloc (.cells #[.int .i64 (ns.length : Int)] 3)) = w0 at hn2 hs2 hw2 hd2 HB0 hz0 k_0 k_1 k_2 k_3 n_0 ⊢
    clear hn1 hs1 hw1 hd1
    go_loopw [38] (fun i wr => ∃ k : Nat, k ≤ ns.length ∧ i = .int .i64 k ∧ (∀ j (h1 : j < ns.length) (h2 : j < ss.length), j < k → rowOK ns.length j ns[j].N ss[j] = true) ∧ Below w0.heap.size w0 wr) (fun i _ => ns.length - (intOf i).toNat)
    case atStart => exact ⟨0, Nat.zero_le _, rfl, fun j _ _ h => absurd h (Nat.not_lt_zero _), Below.refl _ _⟩
    case round =>
      obtain ⟨k, hk, rfl, hrows, hbel⟩ := hrel
      have HR := Lib.hid hrows
      have HBL := Lib.hid hbel
      have hzr := hbel.size
      have hlC : w.heap.size < wr.heap.size := by omega
      have hlN : w.heap.size + 1 < wr.heap.size := by omega
      clear hrows
      have kr_0 : wr.cell? ⟨w.heap.size, 0, none⟩ = some (.slice an ns.length cn) := (hbel.cell (p := ⟨w.heap.size, 0, none⟩) (by show w.heap.size < _; omega)).trans k_0
      have kr_1 : wr.cell? ⟨w.heap.size, 1, none⟩ = some (.slice ast ss.length cst) := (hbel.cell (p := ⟨w.heap.size, 1, none⟩) (by show w.heap.size < _; omega)).trans k_1
      have kr_2 : wr.cell? ⟨w.heap.size, 2, none⟩ = some (.slice aw ws.length cw) := (hbel.cell (p := ⟨w.heap.size, 2, none⟩) (by show w.heap.size < _; omega)).trans k_2
      have kr_3 : wr.cell? ⟨w.heap.size, 3, none⟩ = some (.slice ad ds.length cd) := (hbel.cell (p := ⟨w.heap.size, 3, none⟩) (by show w.heap.size < _; omega)).trans k_3
      have nr_0 : wr.cell? ⟨w.heap.size + 1, 0, none⟩ = some (.int .i64 (ns.length : Int)) := (hbel.cell (p := ⟨w.heap.size + 1, 0, none⟩) (by show w.heap.size + 1 < _; omega)).trans n_0
      by_cases hlt : k < ns.length
      · have hlt2 : k < ss.length := by have := L2.out; omega
        obtain ⟨b1, o1, rfl, hb1, hc1⟩ := (hn2.1.keep hbel).at hlt
        obtain ⟨b2, o2, rfl, hb2, hc2⟩ := (hs2.keep hbel).at hlt2
        have c0 := hc1 k hlt 0 (by omega)
        have c1 := hc1 k hlt 1 (by omega)
        have c2 := hc1 k hlt 2 (by omega)
        have c3 := hc1 k hlt 3 (by omega)
        have c4 := hc1 k hlt 4 (by omega)
        have c5 := hc1 k hlt 5 (by omega)
        have c6 := hc1 k hlt 6 (by omega)
        have c7 := hc1 k hlt 7 (by omega)
        have c8 := hc1 k hlt 8 (by omega)
        have c9 := hc1 k hlt 9 (by omega)
        have c10 := hc1 k hlt 10 (by omega)
        have c11 := hc1 k hlt 11 (by omega)
        have c12 := hc1 k hlt 12 (by omega)
        simp only [nodeE, Nat.add_zero, List.getElem?_cons_zero, List.getElem?_cons_succ] at c0 c1 c2 c3 c4 c5 c6 c7 c8 c9 c10 c11 c12
        have d0 := hc2 k hlt2 0 (by omega)
        have d1 := hc2 k hlt2 1 (by omega)
        simp only [stoE, Nat.add_zero, List.getElem?_cons_zero, List.getElem?_cons_succ] at d0 d1
        clear hc1 hc2
        have ok1 := (hn2.2 ns[k] (List.getElem_mem _)).keep hbel
        have zr := ZN.out ns[k] (List.getElem_mem _)
        have HROW : Hid (CluP (⟨ns, some ⟨b1, o1, none⟩, cn, ss, some ⟨b2, o2, none⟩, cst, ws, aw, cw, ds, ad, cd⟩ : CluA) → rowOK ns.length k ns[k].N ss[k] = true) := Lib.hid (fun hp => hp.rows k hlt hlt2)
        have HNEXT : Hid (rowOK ns.length k ns[k].N ss[k] = true → ∀ j (h1 : j < ns.length) (h2 : j < ss.length), j < k + 1 → rowOK ns.length j ns[j].N ss[j] = true) := Lib.hid (fun h j h1 h2 hj => by
          rcases Nat.lt_succ_iff_lt_or_eq.1 hj with hj | rfl
          · exact HR.out j h1 h2 hj
          · exact h)
        generalize ns[k] = r at ok1 zr HROW HNEXT c0 c1 c2 c3 c4 c5 c6 c7 c8 c9 c10 c11 c12
        generalize ss[k] = s at HROW HNEXT d0 d1
        go_wp2_with fail
        refine (isNode_c r.al r.cl r.av r.cv r.an r.cn r.am r.cm r.N _ (((ok1.1.alloc _).alloc _)) zr).mono ?_
        rintro e w1 ⟨rfl, hb1'⟩
        have hz1 := hb1'.size
        simp only [World.size_alloc] at hz1
        have a1_0 : w1.cell? ⟨wr.heap.size, 0, none⟩ = some (.int .i64 r.N.id) := (hb1'.cell (p := ⟨wr.heap.size, 0, none⟩) (by show wr.heap.size < _; simp <;> omega)).trans (by simp [go_sem])
        have a1_1 : w1.cell? ⟨wr.heap.size, 1, none⟩ = some (.int .i64 r.N.nodes) := (hb1'.cell (p := ⟨wr.heap.size, 1, none⟩) (by show wr.heap.size < _; simp <;> omega)).trans (by simp [go_sem])
        have a1_2 : w1.cell? ⟨wr.heap.size, 2, none⟩ = some (.int .i64 r.N.term) := (hb1'.cell (p := ⟨wr.heap.size, 2, none⟩) (by show wr.heap.size < _; simp <;> omega)).trans (by simp [go_sem])
        have a1_3 : w1.cell? ⟨wr.heap.size, 3, none⟩ = some (.int .i64 r.N.vote) := (hb1'.cell (p := ⟨wr.heap.size, 3, none⟩) (by show wr.heap.size < _; simp <;> omega)).trans (by simp [go_sem])
        have a1_4 : w1.cell? ⟨wr.heap.size, 4, none⟩ = some (.int .i64 r.N.role) := (hb1'.cell (p := ⟨wr.heap.size, 4, none⟩) (by show wr.heap.size < _; simp <;> omega)).trans (by simp [go_sem])
        have a1_5 : w1.cell? ⟨wr.heap.size, 5, none⟩ = some (.bool r.N.up) := (hb1'.cell (p := ⟨wr.heap.size, 5, none⟩) (by show wr.heap.size < _; simp <;> omega)).trans (by simp [go_sem])
        have a1_6 : w1.cell? ⟨wr.heap.size, 6, none⟩ = some (.slice r.al r.N.log.length r.cl) := (hb1'.cell (p := ⟨wr.heap.size, 6, none⟩) (by show wr.heap.size < _; simp <;> omega)).trans (by simp [go_sem])
        have a1_7 : w1.cell? ⟨wr.heap.size, 7, none⟩ = some (.int .i64 r.N.commit) := (hb1'.cell (p := ⟨wr.heap.size, 7, none⟩) (by show wr.heap.size < _; simp <;> omega)).trans (by simp [go_sem])
        have a1_8 : w1.cell? ⟨wr.heap.size, 8, none⟩ = some (.int .i64 r.N.elapsed) := (hb1'.cell (p := ⟨wr.heap.size, 8, none⟩) (by show wr.heap.size < _; simp <;> omega)).trans (by simp [go_sem])
        have a1_9 : w1.cell? ⟨wr.heap.size, 9, none⟩ = some (.int .i64 r.N.wait) := (hb1'.cell (p := ⟨wr.heap.size, 9, none⟩) (by show wr.heap.size < _; simp <;> omega)).trans (by simp [go_sem])
        have a1_10 : w1.cell? ⟨wr.heap.size, 10, none⟩ = some (.slice r.av r.N.votes.length r.cv) := (hb1'.cell (p := ⟨wr.heap.size, 10, none⟩) (by show wr.heap.size < _; simp <;> omega)).trans (by simp [go_sem])
        have a1_11 : w1.cell? ⟨wr.heap.size, 11, none⟩ = some (.slice r.an r.N.next.length r.cn) := (hb1'.cell (p := ⟨wr.heap.size, 11, none⟩) (by show wr.heap.size < _; simp <;> omega)).trans (by simp [go_sem])
        have a1_12 : w1.cell? ⟨wr.heap.size, 12, none⟩ = some (.slice r.am r.N.mtch.length r.cm) := (hb1'.cell (p := ⟨wr.heap.size, 12, none⟩) (by show wr.heap.size < _; simp <;> omega)).trans (by simp [go_sem])
        have s1_0 : w1.cell? ⟨wr.heap.size + 1, 0, none⟩ = some (.string s.1) := (hb1'.cell (p := ⟨wr.heap.size + 1, 0, none⟩) (by show wr.heap.size + 1 < _; simp <;> omega)).trans (by simp [go_sem])
        have s1_1 : w1.cell? ⟨wr.heap.size + 1, 1, none⟩ = some (.int .i64 s.2) := (hb1'.cell (p := ⟨wr.heap.size + 1, 1, none⟩) (by show wr.heap.size + 1 < _; simp <;> omega)).trans (by simp [go_sem])
        have n1_0 : w1.cell? ⟨w.heap.size + 1, 0, none⟩ = some (.int .i64 (ns.length : Int)) := (hb1'.cell (p := ⟨w.heap.size + 1, 0, none⟩) (by show w.heap.size + 1 < _; simp; omega)).trans ((World.cell?_alloc_lt _ _ _ (by show w.heap.size + 1 < _; simp; omega)).trans ((World.cell?_alloc_lt _ _ _ (by show w.heap.size + 1 < _; omega)).trans nr_0))
        have hl1 : wr.heap.size + 1 < w1.heap.size := by omega
        have HB1 : Hid (Below w0.heap.size w0 w1) := ((HBL.out.alloc hzr _).alloc (by simp; omega) _).trans (hb1'.mono (by simp; omega))
        have ok2 := ((ok1.1.alloc _).alloc _).keep hb1'
        clear hb1'
        have hcl := ok1.2
        obtain ⟨v2, hv2⟩ : ∃ v, nodeOK r.N = v := ⟨_, rfl⟩
        have Q1 := Lib.hid hv2
        rw [hv2]
        clear hv2
        cases v2
        case false =>
          have hval : V = false := HF.out (fun hp => by have := HROW.out hp; simp [rowOK, Q1.out] at this)
          subst hval
          go_wp2_with fail
          go_ret
          exact ⟨rfl, HB0.out.trans ((HB1.out).mono (by omega))⟩
        case true =>
          by_cases q2 : r.N.id = (k : Int)
          rotate_left
          · have f5 : (r.N.id != (k : Int)) = true := by simpa using q2
            have Q2 : Hid ((r.N.id == (k : Int)) = false) := Lib.hid (by simpa using q2)
            have hval : V = false := HF.out (fun hp => by have := HROW.out hp; simp [rowOK, Q1.out, Q2.out] at this)
            subst hval
            go_wp2_with fail
            go_ret
            exact ⟨rfl, HB0.out.trans ((HB1.out).mono (by omega))⟩
          have f5 : (r.N.id != (k : Int)) = false := by simpa using q2
          have Q2 : Hid ((r.N.id == (k : Int)) = true) := Lib.hid (by simpa using q2)
          clear q2
          by_cases q3 : r.N.nodes = (ns.length : Int)
          rotate_left
          · have f6 : (r.N.nodes != (ns.length : Int)) = true := by simpa using q3
            have Q3 : Hid ((r.N.nodes == (ns.length : Int)) = false) := Lib.hid (by simpa using q3)
            have hval : V = false := HF.out (fun hp => by have := HROW.out hp; simp [rowOK, Q1.out, Q2.out, Q3.out] at this)
            subst hval
            go_wp2_with fail
            go_ret
            exact ⟨rfl, HB0.out.trans ((HB1.out).mono (by omega))⟩
          have f6 : (r.N.nodes != (ns.length : Int)) = false := by simpa using q3
          have Q3 : Hid ((r.N.nodes == (ns.length : Int)) = true) := Lib.hid (by simpa using q3)
          clear q3
          go_wp2_with fail
          refine (isStore_c s.1 s.2 _).mono ?_
          rintro e w2 ⟨rfl, hb2'⟩
          have hz2 := hb2'.size
          have a2_0 : w2.cell? ⟨wr.heap.size, 0, none⟩ = some (.int .i64 r.N.id) := (hb2'.cell (p := ⟨wr.heap.size, 0, none⟩) (by show wr.heap.size < _; omega)).trans (a1_0)
          have a2_1 : w2.cell? ⟨wr.heap.size, 1, none⟩ = some (.int .i64 r.N.nodes) := (hb2'.cell (p := ⟨wr.heap.size, 1, none⟩) (by show wr.heap.size < _; omega)).trans (a1_1)
          have a2_2 : w2.cell? ⟨wr.heap.size, 2, none⟩ = some (.int .i64 r.N.term) := (hb2'.cell (p := ⟨wr.heap.size, 2, none⟩) (by show wr.heap.size < _; omega)).trans (a1_2)
          have a2_3 : w2.cell? ⟨wr.heap.size, 3, none⟩ = some (.int .i64 r.N.vote) := (hb2'.cell (p := ⟨wr.heap.size, 3, none⟩) (by show wr.heap.size < _; omega)).trans (a1_3)
          have a2_4 : w2.cell? ⟨wr.heap.size, 4, none⟩ = some (.int .i64 r.N.role) := (hb2'.cell (p := ⟨wr.heap.size, 4, none⟩) (by show wr.heap.size < _; omega)).trans (a1_4)
          have a2_5 : w2.cell? ⟨wr.heap.size, 5, none⟩ = some (.bool r.N.up) := (hb2'.cell (p := ⟨wr.heap.size, 5, none⟩) (by show wr.heap.size < _; omega)).trans (a1_5)
          have a2_6 : w2.cell? ⟨wr.heap.size, 6, none⟩ = some (.slice r.al r.N.log.length r.cl) := (hb2'.cell (p := ⟨wr.heap.size, 6, none⟩) (by show wr.heap.size < _; omega)).trans (a1_6)
          have a2_7 : w2.cell? ⟨wr.heap.size, 7, none⟩ = some (.int .i64 r.N.commit) := (hb2'.cell (p := ⟨wr.heap.size, 7, none⟩) (by show wr.heap.size < _; omega)).trans (a1_7)
          have a2_8 : w2.cell? ⟨wr.heap.size, 8, none⟩ = some (.int .i64 r.N.elapsed) := (hb2'.cell (p := ⟨wr.heap.size, 8, none⟩) (by show wr.heap.size < _; omega)).trans (a1_8)
          have a2_9 : w2.cell? ⟨wr.heap.size, 9, none⟩ = some (.int .i64 r.N.wait) := (hb2'.cell (p := ⟨wr.heap.size, 9, none⟩) (by show wr.heap.size < _; omega)).trans (a1_9)
          have a2_10 : w2.cell? ⟨wr.heap.size, 10, none⟩ = some (.slice r.av r.N.votes.length r.cv) := (hb2'.cell (p := ⟨wr.heap.size, 10, none⟩) (by show wr.heap.size < _; omega)).trans (a1_10)
          have a2_11 : w2.cell? ⟨wr.heap.size, 11, none⟩ = some (.slice r.an r.N.next.length r.cn) := (hb2'.cell (p := ⟨wr.heap.size, 11, none⟩) (by show wr.heap.size < _; omega)).trans (a1_11)
          have a2_12 : w2.cell? ⟨wr.heap.size, 12, none⟩ = some (.slice r.am r.N.mtch.length r.cm) := (hb2'.cell (p := ⟨wr.heap.size, 12, none⟩) (by show wr.heap.size < _; omega)).trans (a1_12)
          have s2_0 : w2.cell? ⟨wr.heap.size + 1, 0, none⟩ = some (.string s.1) := (hb2'.cell (p := ⟨wr.heap.size + 1, 0, none⟩) (by show wr.heap.size + 1 < _; omega)).trans (s1_0)
          have s2_1 : w2.cell? ⟨wr.heap.size + 1, 1, none⟩ = some (.int .i64 s.2) := (hb2'.cell (p := ⟨wr.heap.size + 1, 1, none⟩) (by show wr.heap.size + 1 < _; omega)).trans (s1_1)
          have n2_0 : w2.cell? ⟨w.heap.size + 1, 0, none⟩ = some (.int .i64 (ns.length : Int)) := (hb2'.cell (p := ⟨w.heap.size + 1, 0, none⟩) (by show w.heap.size + 1 < _; omega)).trans n1_0
          have hl2 : wr.heap.size + 1 < w2.heap.size := by omega
          clear a1_0 a1_1 a1_2 a1_3 a1_4 a1_5 a1_6 a1_7 a1_8 a1_9 a1_10 a1_11 a1_12 s1_0 s1_1 n1_0
          have HB2 : Hid (Below w0.heap.size w0 w2) := HB1.out.trans (hb2'.mono (by omega))
          have ok3 := ok2.keep hb2'
          clear hb2' ok2
          obtain ⟨v4, hv4⟩ : ∃ v, storeOK s.1 s.2 = v := ⟨_, rfl⟩
          have Q4 := Lib.hid hv4
          rw [hv4]
          clear hv4
          cases v4
          case false =>
            have hval : V = false := HF.out (fun hp => by have := HROW.out hp; simp [rowOK, Q1.out, Q2.out, Q3.out, Q4.out] at this)
            subst hval
            go_wp2_with fail
            go_ret
            exact ⟨rfl, HB0.out.trans ((HB2.out).mono (by omega))⟩
          case true =>
            have hdz : s.1.size ≤ 60000 := by have := Q4.out; simp [storeOK] at this; omega
            by_cases q5 : s.2 = (s.1.size : Int)
            rotate_left
            · have f7 : (s.2 != (s.1.size : Int)) = true := by simpa using q5
              have Q5 : Hid ((s.2 == (s.1.size : Int)) = false) := Lib.hid (by simpa using q5)
              have hval : V = false := HF.out (fun hp => by have := HROW.out hp; simp [rowOK, Q1.out, Q2.out, Q3.out, Q4.out, Q5.out] at this)
              subst hval
              go_wp2_with fail
              go_ret
              exact ⟨rfl, HB0.out.trans ((HB2.out).mono (by omega))⟩
            have f7 : (s.2 != (s.1.size : Int)) = false := by simpa using q5
            have Q5 : Hid ((s.2 == (s.1.size : Int)) = true) := Lib.hid (by simpa using q5)
            have HSZ := Lib.hid q5
            clear q5
            go_wp2_with fail
            refine (implRecovered_c s.1 s.2 _ hdz).mono ?_
            rintro e w3 ⟨ar, car, rfl, hfr, hb3'⟩
            have hz3 := hb3'.size
            have a3_0 : w3.cell? ⟨wr.heap.size, 0, none⟩ = some (.int .i64 r.N.id) := (hb3'.cell (p := ⟨wr.heap.size, 0, none⟩) (by show wr.heap.size < _; omega)).trans (a2_0)
            have a3_1 : w3.cell? ⟨wr.heap.size, 1, none⟩ = some (.int .i64 r.N.nodes) := (hb3'.cell (p := ⟨wr.heap.size, 1, none⟩) (by show wr.heap.size < _; omega)).trans (a2_1)
            have a3_2 : w3.cell? ⟨wr.heap.size, 2, none⟩ = some (.int .i64 r.N.term) := (hb3'.cell (p := ⟨wr.heap.size, 2, none⟩) (by show wr.heap.size < _; omega)).trans (a2_2)
            have a3_3 : w3.cell? ⟨wr.heap.size, 3, none⟩ = some (.int .i64 r.N.vote) := (hb3'.cell (p := ⟨wr.heap.size, 3, none⟩) (by show wr.heap.size < _; omega)).trans (a2_3)
            have a3_4 : w3.cell? ⟨wr.heap.size, 4, none⟩ = some (.int .i64 r.N.role) := (hb3'.cell (p := ⟨wr.heap.size, 4, none⟩) (by show wr.heap.size < _; omega)).trans (a2_4)
            have a3_5 : w3.cell? ⟨wr.heap.size, 5, none⟩ = some (.bool r.N.up) := (hb3'.cell (p := ⟨wr.heap.size, 5, none⟩) (by show wr.heap.size < _; omega)).trans (a2_5)
            have a3_6 : w3.cell? ⟨wr.heap.size, 6, none⟩ = some (.slice r.al r.N.log.length r.cl) := (hb3'.cell (p := ⟨wr.heap.size, 6, none⟩) (by show wr.heap.size < _; omega)).trans (a2_6)
            have a3_7 : w3.cell? ⟨wr.heap.size, 7, none⟩ = some (.int .i64 r.N.commit) := (hb3'.cell (p := ⟨wr.heap.size, 7, none⟩) (by show wr.heap.size < _; omega)).trans (a2_7)
            have a3_8 : w3.cell? ⟨wr.heap.size, 8, none⟩ = some (.int .i64 r.N.elapsed) := (hb3'.cell (p := ⟨wr.heap.size, 8, none⟩) (by show wr.heap.size < _; omega)).trans (a2_8)
            have a3_9 : w3.cell? ⟨wr.heap.size, 9, none⟩ = some (.int .i64 r.N.wait) := (hb3'.cell (p := ⟨wr.heap.size, 9, none⟩) (by show wr.heap.size < _; omega)).trans (a2_9)
            have a3_10 : w3.cell? ⟨wr.heap.size, 10, none⟩ = some (.slice r.av r.N.votes.length r.cv) := (hb3'.cell (p := ⟨wr.heap.size, 10, none⟩) (by show wr.heap.size < _; omega)).trans (a2_10)
            have a3_11 : w3.cell? ⟨wr.heap.size, 11, none⟩ = some (.slice r.an r.N.next.length r.cn) := (hb3'.cell (p := ⟨wr.heap.size, 11, none⟩) (by show wr.heap.size < _; omega)).trans (a2_11)
            have a3_12 : w3.cell? ⟨wr.heap.size, 12, none⟩ = some (.slice r.am r.N.mtch.length r.cm) := (hb3'.cell (p := ⟨wr.heap.size, 12, none⟩) (by show wr.heap.size < _; omega)).trans (a2_12)
            have s3_0 : w3.cell? ⟨wr.heap.size + 1, 0, none⟩ = some (.string s.1) := (hb3'.cell (p := ⟨wr.heap.size + 1, 0, none⟩) (by show wr.heap.size + 1 < _; omega)).trans (s2_0)
            have s3_1 : w3.cell? ⟨wr.heap.size + 1, 1, none⟩ = some (.int .i64 s.2) := (hb3'.cell (p := ⟨wr.heap.size + 1, 1, none⟩) (by show wr.heap.size + 1 < _; omega)).trans (s2_1)
            have n3_0 : w3.cell? ⟨w.heap.size + 1, 0, none⟩ = some (.int .i64 (ns.length : Int)) := (hb3'.cell (p := ⟨w.heap.size + 1, 0, none⟩) (by show w.heap.size + 1 < _; omega)).trans n2_0
            have hl3 : wr.heap.size + 1 < w3.heap.size := by omega
            clear a2_0 a2_1 a2_2 a2_3 a2_4 a2_5 a2_6 a2_7 a2_8 a2_9 a2_10 a2_11 a2_12 s2_0 s2_1 n2_0
            have HB3 : Hid (Below w0.heap.size w0 w3) := HB2.out.trans (hb3'.mono (by omega))
            have ok4 := ok3.keep hb3'
            have hlr : Sl entE 2 w3 ar (rvAll s.1).1.2.2 := hfr.here.sl (fun _ => rfl)
            clear hb3' ok3 hfr
            have HLN : Hid ((rvAll s.1).1.2.2.length ≤ 60) := Lib.hid (rvX_length _ _)
            obtain ⟨y, hy⟩ : ∃ y, rvAll s.1 = y := ⟨_, rfl⟩
            have HY := Lib.hid hy
            have HSAME : Hid (y.2.2 = 0 → y.2.1.2 = s.2 → y.2.1.1 = s.1) := Lib.hid (fun h1 h2 => by subst hy; exact rv_same h1 HSZ.out h2)
            have hln := HLN.out
            rw [hy] at hlr hln ⊢
            clear hy HLN
            obtain ⟨⟨t1, v1, L⟩, ⟨d1, n1⟩, c⟩ := y
            dsimp only at hlr hln HSAME ⊢
            have hlr2 : ∀ x y, Sl entE 2 ((w3.alloc x).alloc y) ar L := fun x y => (hlr.alloc x).alloc y
            have hlg2 : ∀ x y, Sl entE 2 ((w3.alloc x).alloc y) r.al r.N.log := fun x y => (ok4.log.alloc x).alloc y
            have ua_2 : ∀ x y, ((w3.alloc x).alloc y).cell? ⟨wr.heap.size, 2, none⟩ = some (.int .i64 r.N.term) := fun x y => (World.cell?_alloc_lt _ _ _ (by show wr.heap.size < _; simp; omega)).trans ((World.cell?_alloc_lt _ _ _ (by show wr.heap.size < _; omega)).trans a3_2)
            have ua_3 : ∀ x y, ((w3.alloc x).alloc y).cell? ⟨wr.heap.size, 3, none⟩ = some (.int .i64 r.N.vote) := fun x y => (World.cell?_alloc_lt _ _ _ (by show wr.heap.size < _; simp; omega)).trans ((World.cell?_alloc_lt _ _ _ (by show wr.heap.size < _; omega)).trans a3_3)
            have ua_6 : ∀ x y, ((w3.alloc x).alloc y).cell? ⟨wr.heap.size, 6, none⟩ = some (.slice r.al r.N.log.length r.cl) := fun x y => (World.cell?_alloc_lt _ _ _ (by show wr.heap.size < _; simp; omega)).trans ((World.cell?_alloc_lt _ _ _ (by show wr.heap.size < _; omega)).trans a3_6)
            have us_0 : ∀ x y, ((w3.alloc x).alloc y).cell? ⟨wr.heap.size + 1, 0, none⟩ = some (.string s.1) := fun x y => (World.cell?_alloc_lt _ _ _ (by show wr.heap.size + 1 < _; simp; omega)).trans ((World.cell?_alloc_lt _ _ _ (by show wr.heap.size + 1 < _; omega)).trans s3_0)
            have us_1 : ∀ x y, ((w3.alloc x).alloc y).cell? ⟨wr.heap.size + 1, 1, none⟩ = some (.int .i64 s.2) := fun x y => (World.cell?_alloc_lt _ _ _ (by show wr.heap.size + 1 < _; simp; omega)).trans ((World.cell?_alloc_lt _ _ _ (by show wr.heap.size + 1 < _; omega)).trans s3_1)
            by_cases q6 : c = 0
            rotate_left
            · have f8 : (c != 0) = true := by simpa using q6
              have Q6 : Hid ((c == 0) = false) := Lib.hid (by simpa using q6)
              clear q6
              have hval : V = false := HF.out (fun hp => by have := HROW.out hp; simp [rowOK, recOK, Q1.out, Q2.out, Q3.out, Q4.out, Q5.out, HY.out, Q6.out] at this)
              subst hval
              go_wp2_with fail
              go_ret
              refine ⟨rfl, HB0.out.trans (Below.mono (B := w0.heap.size) ?_ (by omega))⟩
              repeat (first | (with_reducible exact HB3.out) | (with_reducible refine Below.setCell ?_ ?_ _; rotate_left; ((try simp) <;> (try omega))) | (with_reducible refine Below.alloc ?_ ?_ _; rotate_left; ((try simp) <;> (try omega))) | (with_reducible refine Below.drew ?_))
            subst q6
            by_cases q7 : n1 = s.2
            rotate_left
            · have f9 : (n1 == s.2) = false := by simpa using q7
              have Q7 := Lib.hid f9
              clear q7 HSAME
              cases f10 : (d1.toList == s.1.toList)
              case false =>
                have hval : V = false := HF.out (fun hp => by have := HROW.out hp; simp [rowOK, recOK, Q1.out, Q2.out, Q3.out, Q4.out, Q5.out, HY.out, Q7.out] at this)
                subst hval
                go_wp2_with fail
                go_ret
                refine ⟨rfl, HB0.out.trans (Below.mono (B := w0.heap.size) ?_ (by omega))⟩
                repeat (first | (with_reducible exact HB3.out) | (with_reducible refine Below.setCell ?_ ?_ _; rotate_left; ((try simp) <;> (try omega))) | (with_reducible refine Below.alloc ?_ ?_ _; rotate_left; ((try simp) <;> (try omega))) | (with_reducible refine Below.drew ?_))
              case true =>
                have hval : V = false := HF.out (fun hp => by have := HROW.out hp; simp [rowOK, recOK, Q1.out, Q2.out, Q3.out, Q4.out, Q5.out, HY.out, Q7.out] at this)
                subst hval
                go_wp2_with fail
                go_ret
                refine ⟨rfl, HB0.out.trans (Below.mono (B := w0.heap.size) ?_ (by omega))⟩
                repeat (first | (with_reducible exact HB3.out) | (with_reducible refine Below.setCell ?_ ?_ _; rotate_left; ((try simp) <;> (try omega))) | (with_reducible refine Below.alloc ?_ ?_ _; rotate_left; ((try simp) <;> (try omega))) | (with_reducible refine Below.drew ?_))
            have hd1 : d1 = s.1 := HSAME.out rfl q7
            subst q7 hd1
            clear HSAME
            by_cases q8 : t1 = r.N.term
            rotate_left
            · have f11 : (t1 != r.N.term) = true := by simpa using q8
              have f11' : (t1 == r.N.term) = false := by simpa using q8
              have Q8 := Lib.hid f11'
              clear q8 f11'
              have hval : V = false := HF.out (fun hp => by have := HROW.out hp; simp [rowOK, recOK, Q1.out, Q2.out, Q3.out, Q4.out, Q5.out, HY.out, Q8.out] at this)
              subst hval
              go_wp2_with fail
              go_ret
              refine ⟨rfl, HB0.out.trans (Below.mono (B := w0.heap.size) ?_ (by omega))⟩
              repeat (first | (with_reducible exact HB3.out) | (with_reducible refine Below.setCell ?_ ?_ _; rotate_left; ((try simp) <;> (try omega))) | (with_reducible refine Below.alloc ?_ ?_ _; rotate_left; ((try simp) <;> (try omega))) | (with_reducible refine Below.drew ?_))
            have f11 : (t1 != r.N.term) = false := by simpa using q8
            have Q8 := Lib.hid q8
            clear q8
            by_cases q9 : v1 = r.N.vote
            rotate_left
            · have f12 : (v1 != r.N.vote) = true := by simpa using q9
              have f12' : (v1 == r.N.vote) = false := by simpa using q9
              have Q9 := Lib.hid f12'
              clear q9 f12'
              have hval : V = false := HF.out (fun hp => by have := HROW.out hp; simp [rowOK, recOK, Q1.out, Q2.out, Q3.out, Q4.out, Q5.out, HY.out, Q9.out] at this)
              subst hval
              go_wp2_with fail
              go_ret
              refine ⟨rfl, HB0.out.trans (Below.mono (B := w0.heap.size) ?_ (by omega))⟩
              repeat (first | (with_reducible exact HB3.out) | (with_reducible refine Below.setCell ?_ ?_ _; rotate_left; ((try simp) <;> (try omega))) | (with_reducible refine Below.alloc ?_ ?_ _; rotate_left; ((try simp) <;> (try omega))) | (with_reducible refine Below.drew ?_))
            have f12 : (v1 != r.N.vote) = false := by simpa using q9
            have Q9 := Lib.hid q9
            clear q9
            obtain ⟨v10, hv10⟩ : ∃ v, decide (L = r.N.log) = v := ⟨_, rfl⟩
            have Q10 := Lib.hid hv10
            clear hv10
            go_wp2_with fail
            refine (slicesEqual_c ar r.al car r.cl L r.N.log _ (hlr2 _ _) (hlg2 _ _) (by omega) zr.log).mono ?_
            rw [Q10.out]
            rintro e w4 ⟨rfl, hb4'⟩
            have hz4 := hb4'.size
            have HB4 : Hid (Below w0.heap.size w0 w4) := ((HB3.out.alloc (by omega) _).alloc (by simp; omega) _).trans (hb4'.mono (by simp; omega))
            cases v10
            case false =>
              have hval : V = false := HF.out (fun hp => by have := HROW.out hp; have h2 := of_decide_eq_false Q10.out; simp [rowOK, recOK, HY.out, h2] at this)
              subst hval
              go_wp2_with fail
              go_ret
              exact ⟨rfl, HB0.out.trans (HB4.out.mono (by omega))⟩
            case true =>
              have hval : rowOK ns.length k r.N s = true := by
                have h2 := of_decide_eq_true Q10.out
                simp [rowOK, recOK, HY.out, Q1.out, Q2.out, Q3.out, Q4.out, Q5.out, Q8.out, Q9.out, h2]
              have HVAL := Lib.hid hval
              clear hval
              go_wp2_with fail
              go_roundw
              case rel => exact ⟨k + 1, by omega, by go_num, HNEXT.out HVAL.out, HB4.out⟩
              case measure => simp [intOf]; omega
      · obtain rfl : k = ns.length := by omega
        have hw3 := hw2.keep hbel
        have hd3 := hd2.keep hbel
        obtain ⟨x1, hx1⟩ : ∃ x, ws.any (fun r => badMsg ns.length r.M (msgOK r.M)) = x := ⟨_, rfl⟩
        have X1 := Lib.hid hx1
        obtain ⟨x2, hx2⟩ : ∃ x, ds.any longD = x := ⟨_, rfl⟩
        have X2 := Lib.hid hx2
        clear hx1 hx2
        go_wp2_with fail
        refine (contains1_c (ns.length : Int) (w.heap.size + 1) aw cw ws _ hw3 zw ZW.out nr_0 hlN).mono ?_
        rw [X1.out]
        rintro e w5 ⟨rfl, hb5⟩
        have hz5 := hb5.size
        have HB5 : Hid (Below w0.heap.size w0 w5) := HBL.out.trans (hb5.mono (by omega))
        have hd5 := hd3.keep hb5
        have kr5_3 : w5.cell? ⟨w.heap.size, 3, none⟩ = some (.slice ad ds.length cd) := (hb5.cell (p := ⟨w.heap.size, 3, none⟩) (by show w.heap.size < _; omega)).trans kr_3
        clear kr_0 kr_1 kr_2 kr_3
        cases x1
        case true =>
          have hval : V = false := HF.out (fun hp => by have h1 := hp.wire; have h2 := X1.out; simp only at h1; rw [h2] at h1; cases h1)
          subst hval
          go_wp2_with fail
          go_ret
          exact ⟨rfl, HB0.out.trans (HB5.out.mono (by omega))⟩
        case false =>
          go_wp2_with fail
          refine (contains_impl_isCluster_2 ad cd ds _ hd5 (by omega) ZD.out).mono ?_
          rw [X2.out]
          rintro e w6 ⟨rfl, rfl⟩
          have hval : V = !x2 := by
            cases x2 with
            | true => exact HF.out (fun hp => by have h1 := hp.done; have h2 := X2.out; simp only at h1; rw [h2] at h1; cases h1)
            | false => exact HT.out ⟨E1.out, L2.out, l3, l4, fun i h1 h2 => HR.out i h1 h2 h1, X1.out, X2.out⟩
          have HVAL := Lib.hid hval
          clear hval
          go_wp2_with fail
          go_ret
          exact ⟨by rw [HVAL.out]; cases x2 <;> rfl, HB0.out.trans (HB5.out.mono (by omega))⟩
end
section
open Go.RowKit
theorem any_none {α : Type} {q : α → Bool} {xs : List α} (h : ∀ j (hj : j < xs.length), j < xs.length → q xs[j] = false) : xs.any q = false := by
  rw [List.any_eq_false]
  intro x hx
  obtain ⟨i, hi, rfl⟩ := List.getElem_of_mem hx
  simp [h i hi hi]
theorem any_some {α : Type} {q : α → Bool} {xs : List α} {k : Nat} (hk : k < xs.length) (h : q xs[k] = true) : ¬ xs.any q = false := by
  rw [List.any_eq_false]
  intro hn
  exact hn _ (List.getElem_mem hk) h

set_option maxRecDepth 100000 in
set_option maxHeartbeats 8000000 in
theorem specCluster_c (ns : List NodeA) (an : Option Addr) (cn : Nat) (ss : List Sto) (ast : Option Addr) (cst : Nat) (ws : List MsgA) (aw : Option Addr) (cw : Nat) (ds : List ByteArray) (ad : Option Addr) (cd : Nat) (w : World) (hC : CluOK w (⟨ns, an, cn, ss, ast, cst, ws, aw, cw, ds, ad, cd⟩ : CluA)) (hZ : CluSz (⟨ns, an, cn, ss, ast, cst, ws, aw, cw, ds, ad, cd⟩ : CluA) 1048576) :
    Calls Try.prog 9 #[.agg #[.slice an ns.length cn, .slice ast ss.length cst, .slice aw ws.length cw, .slice ad ds.length cd]] w fun e w' => e = .returned (.bool (cluOK (⟨ns, an, cn, ss, ast, cst, ws, aw, cw, ds, ad, cd⟩ : CluA))) ∧ Below w.heap.size w w' := by
  have hn1 : NodeS w an ns := hC.nodes
  have hs1 : Sl stoE 2 w ast ss := hC.stores
  have hw1 : MsgS w aw ws := hC.wire
  have hd1 : Sl strE 1 w ad ds := hC.done
  have ZN : Hid (∀ r ∈ ns, NodeSz r.N 1048576) := hZ.nodes
  have ZS : Hid (∀ s ∈ ss, s.1.size ≤ 1048576) := hZ.stores
  have ZW : Hid (∀ r ∈ ws, MsgSz r.M 1048576) := hZ.wire
  have ZD : Hid (∀ s ∈ ds, s.size ≤ 1048576) := hZ.done
  have zn : ns.length ≤ 1048576 := hZ.nl
  have zs : ss.length ≤ 1048576 := hZ.sl
  have zw : ws.length ≤ 1048576 := hZ.wl
  have zd : ds.length ≤ 1048576 := hZ.dl
  clear hC hZ
  generalize hv : cluOK (⟨ns, an, cn, ss, ast, cst, ws, aw, cw, ds, ad, cd⟩ : CluA) = V
  have HV : Hid (cluOK (⟨ns, an, cn, ss, ast, cst, ws, aw, cw, ds, ad, cd⟩ : CluA) = V) := Lib.hid hv
  have HF : Hid (¬ CluP (⟨ns, an, cn, ss, ast, cst, ws, aw, cw, ds, ad, cd⟩ : CluA) → V = false) := Lib.hid (fun h => hv ▸ cluOK_false h)
  have HT : Hid (CluP (⟨ns, an, cn, ss, ast, cst, ws, aw, cw, ds, ad, cd⟩ : CluA) → V = true) := Lib.hid (fun h => hv ▸ cluOK_true h)
  clear hv
  obtain ⟨v1, hv1⟩ : ∃ v, inB (ns.length : Int) 1 5 = v := ⟨_, rfl⟩
  have E1 := Lib.hid hv1
  clear hv1
  cases v1
  case false =>
    have hval : V = false := HF.out (fun hp => by have := hp.cnt; have h2 := E1.out; simp only at this; rw [h2] at this; cases this)
    subst hval
    go_enter Try.func9, Try.ntmps9
    go_wp2_with (go_at_call 30; refine (l08Nodes_c _ _).mono ?_; rw [E1.out]; rintro e w' ⟨rfl, rfl⟩)
    go_ret
    exact ⟨rfl, (by repeat (first | exact Below.refl _ _ | (refine Below.alloc ?_ (by (try simp) <;> (try omega)) _) | (refine Below.setCell ?_ (by (try simp) <;> (try omega)) _) | (refine Below.drew ?_) | (refine Below.trans ?_ (Below.mono (by assumption) (by (try simp) <;> (try omega))))))⟩
  case true =>
    have hn5 : 1 ≤ ns.length ∧ ns.length ≤ 5 := by have := E1.out; simp [inB] at this; omega
    by_cases l2 : ss.length = ns.length
    rotate_left
    · have f2 : ((ss.length : Int) != (ns.length : Int)) = true := by simp; omega
      have L2 := Lib.hid l2
      clear l2
      have hval : V = false := HF.out (fun hp => by exact L2.out hp.sl)
      subst hval
      go_enter Try.func9, Try.ntmps9
      go_wp2_with (go_at_call 30; refine (l08Nodes_c _ _).mono ?_; rw [E1.out]; rintro e w' ⟨rfl, rfl⟩)
      go_ret
      exact ⟨rfl, (by repeat (first | exact Below.refl _ _ | (refine Below.alloc ?_ (by (try simp) <;> (try omega)) _) | (refine Below.setCell ?_ (by (try simp) <;> (try omega)) _) | (refine Below.drew ?_) | (refine Below.trans ?_ (Below.mono (by assumption) (by (try simp) <;> (try omega))))))⟩
    have f2 : ((ss.length : Int) != (ns.length : Int)) = false := by simp; omega
    have L2 := Lib.hid l2
    clear l2
    by_cases l3 : ws.length ≤ 60
    rotate_left
    · have f3 : decide ((ws.length : Int) > 60) = true := by simp; omega
      have L3 := Lib.hid l3
      clear l3
      have hval : V = false := HF.out (fun hp => by exact L3.out hp.wl)
      subst hval
      go_enter Try.func9, Try.ntmps9
      go_wp2_with (go_at_call 30; refine (l08Nodes_c _ _).mono ?_; rw [E1.out]; rintro e w' ⟨rfl, rfl⟩)
      go_ret
      exact ⟨rfl, (by repeat (first | exact Below.refl _ _ | (refine Below.alloc ?_ (by (try simp) <;> (try omega)) _) | (refine Below.setCell ?_ (by (try simp) <;> (try omega)) _) | (refine Below.drew ?_) | (refine Below.trans ?_ (Below.mono (by assumption) (by (try simp) <;> (try omega))))))⟩
    have f3 : decide ((ws.length : Int) > 60) = false := by simp; omega
    by_cases l4 : ds.length ≤ 60
    rotate_left
    · have f4 : decide ((ds.length : Int) > 60) = true := by simp; omega
      have L4 := Lib.hid l4
      clear l4
      have hval : V = false := HF.out (fun hp => by exact L4.out hp.dl)
      subst hval
      go_enter Try.func9, Try.ntmps9
      go_wp2_with (go_at_call 30; refine (l08Nodes_c _ _).mono ?_; rw [E1.out]; rintro e w' ⟨rfl, rfl⟩)
      go_ret
      exact ⟨rfl, (by repeat (first | exact Below.refl _ _ | (refine Below.alloc ?_ (by (try simp) <;> (try omega)) _) | (refine Below.setCell ?_ (by (try simp) <;> (try omega)) _) | (refine Below.drew ?_) | (refine Below.trans ?_ (Below.mono (by assumption) (by (try simp) <;> (try omega))))))⟩
    have f4 : decide ((ds.length : Int) > 60) = false := by simp; omega
    go_enter Try.func9, Try.ntmps9
    go_wp2_with (go_at_call 30; refine (l08Nodes_c _ _).mono ?_; rw [E1.out]; rintro e w' ⟨rfl, rfl⟩)
    have k_0 : (w.alloc (.cells #[.slice an ns.length cn, .slice ast ss.length cst, .slice aw ws.length cw, .slice ad ds.length cd] 34)).cell? ⟨w.heap.size, 0, none⟩ = some (.slice an ns.length cn) := by simp [go_sem]
    have k_1 : (w.alloc (.cells #[.slice an ns.length cn, .slice ast ss.length cst, .slice aw ws.length cw, .slice ad ds.length cd] 34)).cell? ⟨w.heap.size, 1, none⟩ = some (.slice ast ss.length cst) := by simp [go_sem]
    have k_2 : (w.alloc (.cells #[.slice an ns.length cn, .slice ast ss.length cst, .slice aw ws.length cw, .slice ad ds.length cd] 34)).cell? ⟨w.heap.size, 2, none⟩ = some (.slice aw ws.length cw) := by simp [go_sem]
    have k_3 : (w.alloc (.cells #[.slice an ns.length cn, .slice ast ss.length cst, .slice aw ws.length cw, .slice ad ds.length cd] 34)).cell? ⟨w.heap.size, 3, none⟩ = some (.slice ad ds.length cd) := by simp [go_sem]
    have hn2 := hn1.alloc (.cells #[.slice an ns.length cn, .slice ast ss.length cst, .slice aw ws.length cw, .slice ad ds.length cd] 34)
    have hs2 := hs1.alloc (.cells #[.slice an ns.length cn, .slice ast ss.length cst, .slice aw ws.length cw, .slice ad ds.length cd] 34)
    have hw2 := hw1.alloc (.cells #[.slice an ns.length cn, .slice ast ss.length cst, .slice aw ws.length cw, .slice ad ds.length cd] 34)
    have hd2 := hd1.alloc (.cells #[.slice an ns.length cn, .slice ast ss.length cst, .slice aw ws.length cw, .slice ad ds.length cd] 34)
    have HB0 : Hid (Below w.heap.size w (w.alloc (.cells #[.slice an ns.length cn, .slice ast ss.length cst, .slice aw ws.length cw, .slice ad ds.length cd] 34))) := (Below.refl _ _).alloc (Nat.le_refl _) _
    have hz0 : w.heap.size + 1 ≤ (w.alloc (.cells #[.slice an ns.length cn, .slice ast ss.length cst, .slice aw ws.length cw, .slice ad ds.length cd] 34)).heap.size := by simp
    generalize (w.alloc (.cells #[.slice an ns.length cn, .slice ast ss.length cst, .slice aw ws.length cw, .slice ad ds.length cd] 34)) = w0 at hn2 hs2 hw2 hd2 HB0 hz0 k_0 k_1 k_2 k_3 ⊢
    clear hn1 hs1 hw1 hd1
    go_loopw [4] (fun i wr => ∃ k : Nat, k ≤ ns.length ∧ i = .int .i64 k ∧ (∀ j (h1 : j < ns.length) (h2 : j < ss.length), j < k → rowOK ns.length j ns[j].N ss[j] = true) ∧ Below w0.heap.size w0 wr) (fun i _ => ns.length - (intOf i).toNat)
    case atStart => exact ⟨0, Nat.zero_le _, rfl, fun j _ _ h => absurd h (Nat.not_lt_zero _), Below.refl _ _⟩
    case round =>
      obtain ⟨k, hk, rfl, hrows, hbel⟩ := hrel
      have HR := Lib.hid hrows
      have HBL := Lib.hid hbel
      have hzr := hbel.size
      have hlC : w.heap.size < wr.heap.size := by omega
      clear hrows
      have kr_0 : wr.cell? ⟨w.heap.size, 0, none⟩ = some (.slice an ns.length cn) := (hbel.cell (p := ⟨w.heap.size, 0, none⟩) (by show w.heap.size < _; omega)).trans k_0
      have kr_1 : wr.cell? ⟨w.heap.size, 1, none⟩ = some (.slice ast ss.length cst) := (hbel.cell (p := ⟨w.heap.size, 1, none⟩) (by show w.heap.size < _; omega)).trans k_1
      have kr_2 : wr.cell? ⟨w.heap.size, 2, none⟩ = some (.slice aw ws.length cw) := (hbel.cell (p := ⟨w.heap.size, 2, none⟩) (by show w.heap.size < _; omega)).trans k_2
      have kr_3 : wr.cell? ⟨w.heap.size, 3, none⟩ = some (.slice ad ds.length cd) := (hbel.cell (p := ⟨w.heap.size, 3, none⟩) (by show w.heap.size < _; omega)).trans k_3
      by_cases hlt : k < ns.length
      · have hlt2 : k < ss.length := by have := L2.out; omega
        obtain ⟨b1, o1, rfl, hb1, hc1⟩ := (hn2.1.keep hbel).at hlt
        obtain ⟨b2, o2, rfl, hb2, hc2⟩ := (hs2.keep hbel).at hlt2
        have c0 := hc1 k hlt 0 (by omega)
        have c1 := hc1 k hlt 1 (by omega)
        have c2 := hc1 k hlt 2 (by omega)
        have c3 := hc1 k hlt 3 (by omega)
        have c4 := hc1 k hlt 4 (by omega)
        have c5 := hc1 k hlt 5 (by omega)
        have c6 := hc1 k hlt 6 (by omega)
        have c7 := hc1 k hlt 7 (by omega)
        have c8 := hc1 k hlt 8 (by omega)
        have c9 := hc1 k hlt 9 (by omega)
        have c10 := hc1 k hlt 10 (by omega)
        have c11 := hc1 k hlt 11 (by omega)
        have c12 := hc1 k hlt 12 (by omega)
        simp only [nodeE, Nat.add_zero, List.getElem?_cons_zero, List.getElem?_cons_succ] at c0 c1 c2 c3 c4 c5 c6 c7 c8 c9 c10 c11 c12
        have d0 := hc2 k hlt2 0 (by omega)
        have d1 := hc2 k hlt2 1 (by omega)
        simp only [stoE, Nat.add_zero, List.getElem?_cons_zero, List.getElem?_cons_succ] at d0 d1
        clear hc1 hc2
        have ok1 := (hn2.2 ns[k] (List.getElem_mem _)).keep hbel
        have zr := ZN.out ns[k] (List.getElem_mem _)
        have hcl := ok1.2
        have HROW : Hid (CluP (⟨ns, some ⟨b1, o1, none⟩, cn, ss, some ⟨b2, o2, none⟩, cst, ws, aw, cw, ds, ad, cd⟩ : CluA) → rowOK ns.length k ns[k].N ss[k] = true) := Lib.hid (fun hp => hp.rows k hlt hlt2)
        have HNEXT : Hid (rowOK ns.length k ns[k].N ss[k] = true → ∀ j (h1 : j < ns.length) (h2 : j < ss.length), j < k + 1 → rowOK ns.length j ns[j].N ss[j] = true) := Lib.hid (fun h j h1 h2 hj => by
          rcases Nat.lt_succ_iff_lt_or_eq.1 hj with hj | rfl
          · exact HR.out j h1 h2 hj
          · exact h)
        generalize ns[k] = r at ok1 zr hcl HROW HNEXT c0 c1 c2 c3 c4 c5 c6 c7 c8 c9 c10 c11 c12
        generalize ss[k] = s at HROW HNEXT d0 d1
        obtain ⟨v2, hv2⟩ : ∃ v, nodeOK r.N = v := ⟨_, rfl⟩
        have Q1 := Lib.hid hv2
        have HN : Hid (∀ w', r.ok w' → Calls Try.prog 31 #[.agg #[.int .i64 r.N.id, .int .i64 r.N.nodes, .int .i64 r.N.term, .int .i64 r.N.vote, .int .i64 r.N.role, .bool r.N.up, .slice r.al r.N.log.length r.cl, .int .i64 r.N.commit, .int .i64 r.N.elapsed, .int .i64 r.N.wait, .slice r.av r.N.votes.length r.cv, .slice r.an r.N.next.length r.cn, .slice r.am r.N.mtch.length r.cm]] w' fun e w'' => e = .returned (.bool v2) ∧ Below w'.heap.size w' w'') := Lib.hid (fun w' h => by
          have := specNodeOK_c r.al r.cl r.av r.cv r.an r.cn r.am r.cm r.N w' h.1 zr
          rwa [hv2] at this)
        clear hv2
        obtain ⟨v4, hv4⟩ : ∃ v, storeOK s.1 s.2 = v := ⟨_, rfl⟩
        have Q4 := Lib.hid hv4
        have HS : Hid (∀ w', Calls Try.prog 32 #[.agg #[.string s.1, .int .i64 s.2]] w' fun e w'' => e = .returned (.bool v4) ∧ Below w'.heap.size w' w'') := Lib.hid (fun w' => by
          have := specStoreOK_c s.1 s.2 w'
          rwa [hv4] at this)
        clear hv4
        by_cases q2 : r.N.id = (k : Int)
        rotate_left
        · have f5 : (r.N.id != (k : Int)) = true := by simpa using q2
          have Q2 : Hid ((r.N.id == (k : Int)) = false) := Lib.hid (by simpa using q2)
          have hval : V = false := HF.out (fun hp => by have := HROW.out hp; simp [rowOK, Q2.out] at this)
          subst hval
          go_wp2_with fail
          have xq0 := extW_cell (w := wr) (b := w.heap.size) (by (try simp) <;> (try omega))
          have xq1 := extW_cell (w := wr) (b := b1) (by (try simp) <;> (try omega))
          have xq2 := extW_cell (w := wr) (b := b2) (by (try simp) <;> (try omega))
          refine wp_region_quietx (wr) rfl (by kernel_rfl) (by kernel_rfl) ?_
          repeat (go_big_quiet_step ((first | (go_at_call 31; exact Calls.quietx (HN.out _ (ok1.keep (extW_below _ _)))) | (go_at_call 32; exact Calls.quietx (HS.out _)))))
          refine wpQuiet_nil ?_
          intro _ hw'
          obtain ⟨xq, hw''⟩ := hw'
          subst hw''
          have hbq := extW_below (wr) xq
          generalize extW (wr) xq = wq at hbq ⊢
          clear xq0
          clear xq1
          clear xq2
          go_wp2_with fail
          go_ret
          exact ⟨rfl, HB0.out.trans ((HBL.out.trans (hbq.mono (by omega))).mono (by omega))⟩
        have f5 : (r.N.id != (k : Int)) = false := by simpa using q2
        have Q2 : Hid ((r.N.id == (k : Int)) = true) := Lib.hid (by simpa using q2)
        clear q2
        by_cases q3 : r.N.nodes = (ns.length : Int)
        rotate_left
        · have f6 : (r.N.nodes != (ns.length : Int)) = true := by simpa using q3
          have Q3 : Hid ((r.N.nodes == (ns.length : Int)) = false) := Lib.hid (by simpa using q3)
          have hval : V = false := HF.out (fun hp => by have := HROW.out hp; simp [rowOK, Q2.out, Q3.out] at this)
          subst hval
          go_wp2_with fail
          have xq0 := extW_cell (w := wr) (b := w.heap.size) (by (try simp) <;> (try omega))
          have xq1 := extW_cell (w := wr) (b := b1) (by (try simp) <;> (try omega))
          have xq2 := extW_cell (w := wr) (b := b2) (by (try simp) <;> (try omega))
          refine wp_region_quietx (wr) rfl (by kernel_rfl) (by kernel_rfl) ?_
          repeat (go_big_quiet_step ((first | (go_at_call 31; exact Calls.quietx (HN.out _ (ok1.keep (extW_below _ _)))) | (go_at_call 32; exact Calls.quietx (HS.out _)))))
          refine wpQuiet_nil ?_
          intro _ hw'
          obtain ⟨xq, hw''⟩ := hw'
          subst hw''
          have hbq := extW_below (wr) xq
          generalize extW (wr) xq = wq at hbq ⊢
          clear xq0
          clear xq1
          clear xq2
          go_wp2_with fail
          go_ret
          exact ⟨rfl, HB0.out.trans ((HBL.out.trans (hbq.mono (by omega))).mono (by omega))⟩
        have f6 : (r.N.nodes != (ns.length : Int)) = false := by simpa using q3
        have Q3 : Hid ((r.N.nodes == (ns.length : Int)) = true) := Lib.hid (by simpa using q3)
        clear q3
        cases v2
        case false =>
          have hval : V = false := HF.out (fun hp => by have := HROW.out hp; simp [rowOK, Q1.out] at this)
          subst hval
          go_wp2_with fail
          have xq0 := extW_cell (w := wr) (b := w.heap.size) (by (try simp) <;> (try omega))
          have xq1 := extW_cell (w := wr) (b := b1) (by (try simp) <;> (try omega))
          have xq2 := extW_cell (w := wr) (b := b2) (by (try simp) <;> (try omega))
          refine wp_region_quietx (wr) rfl (by kernel_rfl) (by kernel_rfl) ?_
          repeat (go_big_quiet_step ((first | (go_at_call 31; exact Calls.quietx (HN.out _ (ok1.keep (extW_below _ _)))) | (go_at_call 32; exact Calls.quietx (HS.out _)))))
          refine wpQuiet_nil ?_
          intro _ hw'
          obtain ⟨xq, hw''⟩ := hw'
          subst hw''
          have hbq := extW_below (wr) xq
          generalize extW (wr) xq = wq at hbq ⊢
          clear xq0
          clear xq1
          clear xq2
          go_wp2_with fail
          go_ret
          exact ⟨rfl, HB0.out.trans ((HBL.out.trans (hbq.mono (by omega))).mono (by omega))⟩
        case true =>
          cases v4
          case false =>
            have hval : V = false := HF.out (fun hp => by have := HROW.out hp; simp [rowOK, Q4.out] at this)
            subst hval
            go_wp2_with fail
            have xq0 := extW_cell (w := wr) (b := w.heap.size) (by (try simp) <;> (try omega))
            have xq1 := extW_cell (w := wr) (b := b1) (by (try simp) <;> (try omega))
            have xq2 := extW_cell (w := wr) (b := b2) (by (try simp) <;> (try omega))
            refine wp_region_quietx (wr) rfl (by kernel_rfl) (by kernel_rfl) ?_
            repeat (go_big_quiet_step ((first | (go_at_call 31; exact Calls.quietx (HN.out _ (ok1.keep (extW_below _ _)))) | (go_at_call 32; exact Calls.quietx (HS.out _)))))
            refine wpQuiet_nil ?_
            intro _ hw'
            obtain ⟨xq, hw''⟩ := hw'
            subst hw''
            have hbq := extW_below (wr) xq
            generalize extW (wr) xq = wq at hbq ⊢
            clear xq0
            clear xq1
            clear xq2
            go_wp2_with fail
            go_ret
            exact ⟨rfl, HB0.out.trans ((HBL.out.trans (hbq.mono (by omega))).mono (by omega))⟩
          case true =>
            have hdz : s.1.size ≤ 60000 := by have := Q4.out; simp [storeOK] at this; omega
            by_cases q5 : s.2 = (s.1.size : Int)
            rotate_left
            · have f7 : (s.2 != (s.1.size : Int)) = true := by simpa using q5
              have Q5 : Hid ((s.2 == (s.1.size : Int)) = false) := Lib.hid (by simpa using q5)
              have hval : V = false := HF.out (fun hp => by have := HROW.out hp; simp [rowOK, Q5.out] at this)
              subst hval
              go_wp2_with fail
              have xq0 := extW_cell (w := wr) (b := w.heap.size) (by (try simp) <;> (try omega))
              have xq1 := extW_cell (w := wr) (b := b1) (by (try simp) <;> (try omega))
              have xq2 := extW_cell (w := wr) (b := b2) (by (try simp) <;> (try omega))
              refine wp_region_quietx (wr) rfl (by kernel_rfl) (by kernel_rfl) ?_
              repeat (go_big_quiet_step ((first | (go_at_call 31; exact Calls.quietx (HN.out _ (ok1.keep (extW_below _ _)))) | (go_at_call 32; exact Calls.quietx (HS.out _)))))
              refine wpQuiet_nil ?_
              intro _ hw'
              obtain ⟨xq, hw''⟩ := hw'
              subst hw''
              have hbq := extW_below (wr) xq
              generalize extW (wr) xq = wq at hbq ⊢
              clear xq0
              clear xq1
              clear xq2
              go_wp2_with fail
              go_ret
              exact ⟨rfl, HB0.out.trans ((HBL.out.trans (hbq.mono (by omega))).mono (by omega))⟩
            have f7 : (s.2 != (s.1.size : Int)) = false := by simpa using q5
            have Q5 : Hid ((s.2 == (s.1.size : Int)) = true) := Lib.hid (by simpa using q5)
            clear q5
            go_wp2_with fail
            have xq0 := extW_cell (w := wr) (b := w.heap.size) (by (try simp) <;> (try omega))
            have xq1 := extW_cell (w := wr) (b := b1) (by (try simp) <;> (try omega))
            have xq2 := extW_cell (w := wr) (b := b2) (by (try simp) <;> (try omega))
            refine wp_region_quietx (wr) rfl (by kernel_rfl) (by kernel_rfl) ?_
            repeat (go_big_quiet_step ((first | (go_at_call 31; exact Calls.quietx (HN.out _ (ok1.keep (extW_below _ _)))) | (go_at_call 32; exact Calls.quietx (HS.out _)))))
            refine wpQuiet_nil ?_
            intro _ hw'
            obtain ⟨xq, hw''⟩ := hw'
            subst hw''
            have hbq := extW_below (wr) xq
            generalize extW (wr) xq = wq at hbq ⊢
            clear xq0
            clear xq1
            clear xq2
            have hzq := hbq.size
            have ok2 := ok1.keep hbq
            have HBQ : Hid (Below w0.heap.size w0 wq) := HBL.out.trans (hbq.mono (by omega))
            have pk_0 : wq.cell? ⟨w.heap.size, 0, none⟩ = some (.slice (some ⟨b1, o1, none⟩) ns.length cn) := (hbq.cell (p := ⟨w.heap.size, 0, none⟩) (by show w.heap.size < _; (try simp) <;> omega)).trans kr_0
            have pk_1 : wq.cell? ⟨w.heap.size, 1, none⟩ = some (.slice (some ⟨b2, o2, none⟩) ss.length cst) := (hbq.cell (p := ⟨w.heap.size, 1, none⟩) (by show w.heap.size < _; (try simp) <;> omega)).trans kr_1
            have pk_2 : wq.cell? ⟨w.heap.size, 2, none⟩ = some (.slice aw ws.length cw) := (hbq.cell (p := ⟨w.heap.size, 2, none⟩) (by show w.heap.size < _; (try simp) <;> omega)).trans kr_2
            have pk_3 : wq.cell? ⟨w.heap.size, 3, none⟩ = some (.slice ad ds.length cd) := (hbq.cell (p := ⟨w.heap.size, 3, none⟩) (by show w.heap.size < _; (try simp) <;> omega)).trans kr_3
            have pc_0 : wq.cell? ⟨b1, o1 + k * 13, none⟩ = some (.int .i64 r.N.id) := (hbq.cell (p := ⟨b1, _, none⟩) (by show b1 < _; (try simp) <;> omega)).trans c0
            have pc_1 : wq.cell? ⟨b1, o1 + k * 13 + 1, none⟩ = some (.int .i64 r.N.nodes) := (hbq.cell (p := ⟨b1, _, none⟩) (by show b1 < _; (try simp) <;> omega)).trans c1
            have pc_2 : wq.cell? ⟨b1, o1 + k * 13 + 2, none⟩ = some (.int .i64 r.N.term) := (hbq.cell (p := ⟨b1, _, none⟩) (by show b1 < _; (try simp) <;> omega)).trans c2
            have pc_3 : wq.cell? ⟨b1, o1 + k * 13 + 3, none⟩ = some (.int .i64 r.N.vote) := (hbq.cell (p := ⟨b1, _, none⟩) (by show b1 < _; (try simp) <;> omega)).trans c3
            have pc_4 : wq.cell? ⟨b1, o1 + k * 13 + 4, none⟩ = some (.int .i64 r.N.role) := (hbq.cell (p := ⟨b1, _, none⟩) (by show b1 < _; (try simp) <;> omega)).trans c4
            have pc_5 : wq.cell? ⟨b1, o1 + k * 13 + 5, none⟩ = some (.bool r.N.up) := (hbq.cell (p := ⟨b1, _, none⟩) (by show b1 < _; (try simp) <;> omega)).trans c5
            have pc_6 : wq.cell? ⟨b1, o1 + k * 13 + 6, none⟩ = some (.slice r.al r.N.log.length r.cl) := (hbq.cell (p := ⟨b1, _, none⟩) (by show b1 < _; (try simp) <;> omega)).trans c6
            have pc_7 : wq.cell? ⟨b1, o1 + k * 13 + 7, none⟩ = some (.int .i64 r.N.commit) := (hbq.cell (p := ⟨b1, _, none⟩) (by show b1 < _; (try simp) <;> omega)).trans c7
            have pc_8 : wq.cell? ⟨b1, o1 + k * 13 + 8, none⟩ = some (.int .i64 r.N.elapsed) := (hbq.cell (p := ⟨b1, _, none⟩) (by show b1 < _; (try simp) <;> omega)).trans c8
            have pc_9 : wq.cell? ⟨b1, o1 + k * 13 + 9, none⟩ = some (.int .i64 r.N.wait) := (hbq.cell (p := ⟨b1, _, none⟩) (by show b1 < _; (try simp) <;> omega)).trans c9
            have pc_10 : wq.cell? ⟨b1, o1 + k * 13 + 10, none⟩ = some (.slice r.av r.N.votes.length r.cv) := (hbq.cell (p := ⟨b1, _, none⟩) (by show b1 < _; (try simp) <;> omega)).trans c10
            have pc_11 : wq.cell? ⟨b1, o1 + k * 13 + 11, none⟩ = some (.slice r.an r.N.next.length r.cn) := (hbq.cell (p := ⟨b1, _, none⟩) (by show b1 < _; (try simp) <;> omega)).trans c11
            have pc_12 : wq.cell? ⟨b1, o1 + k * 13 + 12, none⟩ = some (.slice r.am r.N.mtch.length r.cm) := (hbq.cell (p := ⟨b1, _, none⟩) (by show b1 < _; (try simp) <;> omega)).trans c12
            have pd_0 : wq.cell? ⟨b2, o2 + k * 2, none⟩ = some (.string s.1) := (hbq.cell (p := ⟨b2, _, none⟩) (by show b2 < _; (try simp) <;> omega)).trans d0
            have pd_1 : wq.cell? ⟨b2, o2 + k * 2 + 1, none⟩ = some (.int .i64 s.2) := (hbq.cell (p := ⟨b2, _, none⟩) (by show b2 < _; (try simp) <;> omega)).trans d1
            clear kr_0 kr_1 kr_2 kr_3 c0 c1 c2 c3 c4 c5 c6 c7 c8 c9 c10 c11 c12 d0 d1
            clear HN HS
            go_wp2_with fail
            refine (specRecovered_c s.1 s.2 _ hdz).mono ?_
            rintro e w3 ⟨t1, v1', ar, car, L, d1', n1, rfl, himp, hb3'⟩
            have hz3 := hb3'.size
            have HB3 : Hid (Below w0.heap.size w0 w3) := HBQ.out.trans (hb3'.mono (by omega))
            have HLN : Hid ((rvAll s.1).1.2.2.length ≤ 60) := Lib.hid (rvX_length _ _)
            have HI := Lib.hid himp
            obtain ⟨c, hc⟩ : ∃ c, (rvAll s.1).2.2 = c := ⟨_, rfl⟩
            have HC := Lib.hid hc
            have ok3 := ok2.keep hb3'
            rw [hc]
            clear himp hc
            have qk_0 : w3.cell? ⟨w.heap.size, 0, none⟩ = some (.slice (some ⟨b1, o1, none⟩) ns.length cn) := (hb3'.cell (p := ⟨w.heap.size, 0, none⟩) (by show w.heap.size < _; (try simp) <;> omega)).trans pk_0
            have qk_1 : w3.cell? ⟨w.heap.size, 1, none⟩ = some (.slice (some ⟨b2, o2, none⟩) ss.length cst) := (hb3'.cell (p := ⟨w.heap.size, 1, none⟩) (by show w.heap.size < _; (try simp) <;> omega)).trans pk_1
            have qk_2 : w3.cell? ⟨w.heap.size, 2, none⟩ = some (.slice aw ws.length cw) := (hb3'.cell (p := ⟨w.heap.size, 2, none⟩) (by show w.heap.size < _; (try simp) <;> omega)).trans pk_2
            have qk_3 : w3.cell? ⟨w.heap.size, 3, none⟩ = some (.slice ad ds.length cd) := (hb3'.cell (p := ⟨w.heap.size, 3, none⟩) (by show w.heap.size < _; (try simp) <;> omega)).trans pk_3
            have qc_0 : w3.cell? ⟨b1, o1 + k * 13, none⟩ = some (.int .i64 r.N.id) := (hb3'.cell (p := ⟨b1, _, none⟩) (by show b1 < _; (try simp) <;> omega)).trans pc_0
            have qc_1 : w3.cell? ⟨b1, o1 + k * 13 + 1, none⟩ = some (.int .i64 r.N.nodes) := (hb3'.cell (p := ⟨b1, _, none⟩) (by show b1 < _; (try simp) <;> omega)).trans pc_1
            have qc_2 : w3.cell? ⟨b1, o1 + k * 13 + 2, none⟩ = some (.int .i64 r.N.term) := (hb3'.cell (p := ⟨b1, _, none⟩) (by show b1 < _; (try simp) <;> omega)).trans pc_2
            have qc_3 : w3.cell? ⟨b1, o1 + k * 13 + 3, none⟩ = some (.int .i64 r.N.vote) := (hb3'.cell (p := ⟨b1, _, none⟩) (by show b1 < _; (try simp) <;> omega)).trans pc_3
            have qc_4 : w3.cell? ⟨b1, o1 + k * 13 + 4, none⟩ = some (.int .i64 r.N.role) := (hb3'.cell (p := ⟨b1, _, none⟩) (by show b1 < _; (try simp) <;> omega)).trans pc_4
            have qc_5 : w3.cell? ⟨b1, o1 + k * 13 + 5, none⟩ = some (.bool r.N.up) := (hb3'.cell (p := ⟨b1, _, none⟩) (by show b1 < _; (try simp) <;> omega)).trans pc_5
            have qc_6 : w3.cell? ⟨b1, o1 + k * 13 + 6, none⟩ = some (.slice r.al r.N.log.length r.cl) := (hb3'.cell (p := ⟨b1, _, none⟩) (by show b1 < _; (try simp) <;> omega)).trans pc_6
            have qc_7 : w3.cell? ⟨b1, o1 + k * 13 + 7, none⟩ = some (.int .i64 r.N.commit) := (hb3'.cell (p := ⟨b1, _, none⟩) (by show b1 < _; (try simp) <;> omega)).trans pc_7
            have qc_8 : w3.cell? ⟨b1, o1 + k * 13 + 8, none⟩ = some (.int .i64 r.N.elapsed) := (hb3'.cell (p := ⟨b1, _, none⟩) (by show b1 < _; (try simp) <;> omega)).trans pc_8
            have qc_9 : w3.cell? ⟨b1, o1 + k * 13 + 9, none⟩ = some (.int .i64 r.N.wait) := (hb3'.cell (p := ⟨b1, _, none⟩) (by show b1 < _; (try simp) <;> omega)).trans pc_9
            have qc_10 : w3.cell? ⟨b1, o1 + k * 13 + 10, none⟩ = some (.slice r.av r.N.votes.length r.cv) := (hb3'.cell (p := ⟨b1, _, none⟩) (by show b1 < _; (try simp) <;> omega)).trans pc_10
            have qc_11 : w3.cell? ⟨b1, o1 + k * 13 + 11, none⟩ = some (.slice r.an r.N.next.length r.cn) := (hb3'.cell (p := ⟨b1, _, none⟩) (by show b1 < _; (try simp) <;> omega)).trans pc_11
            have qc_12 : w3.cell? ⟨b1, o1 + k * 13 + 12, none⟩ = some (.slice r.am r.N.mtch.length r.cm) := (hb3'.cell (p := ⟨b1, _, none⟩) (by show b1 < _; (try simp) <;> omega)).trans pc_12
            have qd_0 : w3.cell? ⟨b2, o2 + k * 2, none⟩ = some (.string s.1) := (hb3'.cell (p := ⟨b2, _, none⟩) (by show b2 < _; (try simp) <;> omega)).trans pd_0
            have qd_1 : w3.cell? ⟨b2, o2 + k * 2 + 1, none⟩ = some (.int .i64 s.2) := (hb3'.cell (p := ⟨b2, _, none⟩) (by show b2 < _; (try simp) <;> omega)).trans pd_1
            clear pk_0 pk_1 pk_2 pk_3 pc_0 pc_1 pc_2 pc_3 pc_4 pc_5 pc_6 pc_7 pc_8 pc_9 pc_10 pc_11 pc_12 pd_0 pd_1
            clear hb3'
            go_wp2_with fail
            have hb5 : Below w3.heap.size w3 ((w3.alloc (.cells #[.int .i64 t1, .int .i64 v1', .slice ar L.length car] 60)).alloc (.cells #[.string d1', .int .i64 n1] 58)) := ((Below.refl _ _).alloc (Nat.le_refl _) _).alloc (by simp) _
            have hz5 : w3.heap.size + 2 ≤ ((w3.alloc (.cells #[.int .i64 t1, .int .i64 v1', .slice ar L.length car] 60)).alloc (.cells #[.string d1', .int .i64 n1] 58)).heap.size := by simp
            have xk_0 : ((w3.alloc (.cells #[.int .i64 t1, .int .i64 v1', .slice ar L.length car] 60)).alloc (.cells #[.string d1', .int .i64 n1] 58)).cell? ⟨w.heap.size, 0, none⟩ = some (.slice (some ⟨b1, o1, none⟩) ns.length cn) := (hb5.cell (p := ⟨w.heap.size, 0, none⟩) (by show w.heap.size < _; (try simp) <;> omega)).trans qk_0
            have xk_1 : ((w3.alloc (.cells #[.int .i64 t1, .int .i64 v1', .slice ar L.length car] 60)).alloc (.cells #[.string d1', .int .i64 n1] 58)).cell? ⟨w.heap.size, 1, none⟩ = some (.slice (some ⟨b2, o2, none⟩) ss.length cst) := (hb5.cell (p := ⟨w.heap.size, 1, none⟩) (by show w.heap.size < _; (try simp) <;> omega)).trans qk_1
            have xk_2 : ((w3.alloc (.cells #[.int .i64 t1, .int .i64 v1', .slice ar L.length car] 60)).alloc (.cells #[.string d1', .int .i64 n1] 58)).cell? ⟨w.heap.size, 2, none⟩ = some (.slice aw ws.length cw) := (hb5.cell (p := ⟨w.heap.size, 2, none⟩) (by show w.heap.size < _; (try simp) <;> omega)).trans qk_2
            have xk_3 : ((w3.alloc (.cells #[.int .i64 t1, .int .i64 v1', .slice ar L.length car] 60)).alloc (.cells #[.string d1', .int .i64 n1] 58)).cell? ⟨w.heap.size, 3, none⟩ = some (.slice ad ds.length cd) := (hb5.cell (p := ⟨w.heap.size, 3, none⟩) (by show w.heap.size < _; (try simp) <;> omega)).trans qk_3
            have xc_0 : ((w3.alloc (.cells #[.int .i64 t1, .int .i64 v1', .slice ar L.length car] 60)).alloc (.cells #[.string d1', .int .i64 n1] 58)).cell? ⟨b1, o1 + k * 13, none⟩ = some (.int .i64 r.N.id) := (hb5.cell (p := ⟨b1, _, none⟩) (by show b1 < _; (try simp) <;> omega)).trans qc_0
            have xc_1 : ((w3.alloc (.cells #[.int .i64 t1, .int .i64 v1', .slice ar L.length car] 60)).alloc (.cells #[.string d1', .int .i64 n1] 58)).cell? ⟨b1, o1 + k * 13 + 1, none⟩ = some (.int .i64 r.N.nodes) := (hb5.cell (p := ⟨b1, _, none⟩) (by show b1 < _; (try simp) <;> omega)).trans qc_1
            have xc_2 : ((w3.alloc (.cells #[.int .i64 t1, .int .i64 v1', .slice ar L.length car] 60)).alloc (.cells #[.string d1', .int .i64 n1] 58)).cell? ⟨b1, o1 + k * 13 + 2, none⟩ = some (.int .i64 r.N.term) := (hb5.cell (p := ⟨b1, _, none⟩) (by show b1 < _; (try simp) <;> omega)).trans qc_2
            have xc_3 : ((w3.alloc (.cells #[.int .i64 t1, .int .i64 v1', .slice ar L.length car] 60)).alloc (.cells #[.string d1', .int .i64 n1] 58)).cell? ⟨b1, o1 + k * 13 + 3, none⟩ = some (.int .i64 r.N.vote) := (hb5.cell (p := ⟨b1, _, none⟩) (by show b1 < _; (try simp) <;> omega)).trans qc_3
            have xc_4 : ((w3.alloc (.cells #[.int .i64 t1, .int .i64 v1', .slice ar L.length car] 60)).alloc (.cells #[.string d1', .int .i64 n1] 58)).cell? ⟨b1, o1 + k * 13 + 4, none⟩ = some (.int .i64 r.N.role) := (hb5.cell (p := ⟨b1, _, none⟩) (by show b1 < _; (try simp) <;> omega)).trans qc_4
            have xc_5 : ((w3.alloc (.cells #[.int .i64 t1, .int .i64 v1', .slice ar L.length car] 60)).alloc (.cells #[.string d1', .int .i64 n1] 58)).cell? ⟨b1, o1 + k * 13 + 5, none⟩ = some (.bool r.N.up) := (hb5.cell (p := ⟨b1, _, none⟩) (by show b1 < _; (try simp) <;> omega)).trans qc_5
            have xc_6 : ((w3.alloc (.cells #[.int .i64 t1, .int .i64 v1', .slice ar L.length car] 60)).alloc (.cells #[.string d1', .int .i64 n1] 58)).cell? ⟨b1, o1 + k * 13 + 6, none⟩ = some (.slice r.al r.N.log.length r.cl) := (hb5.cell (p := ⟨b1, _, none⟩) (by show b1 < _; (try simp) <;> omega)).trans qc_6
            have xc_7 : ((w3.alloc (.cells #[.int .i64 t1, .int .i64 v1', .slice ar L.length car] 60)).alloc (.cells #[.string d1', .int .i64 n1] 58)).cell? ⟨b1, o1 + k * 13 + 7, none⟩ = some (.int .i64 r.N.commit) := (hb5.cell (p := ⟨b1, _, none⟩) (by show b1 < _; (try simp) <;> omega)).trans qc_7
            have xc_8 : ((w3.alloc (.cells #[.int .i64 t1, .int .i64 v1', .slice ar L.length car] 60)).alloc (.cells #[.string d1', .int .i64 n1] 58)).cell? ⟨b1, o1 + k * 13 + 8, none⟩ = some (.int .i64 r.N.elapsed) := (hb5.cell (p := ⟨b1, _, none⟩) (by show b1 < _; (try simp) <;> omega)).trans qc_8
            have xc_9 : ((w3.alloc (.cells #[.int .i64 t1, .int .i64 v1', .slice ar L.length car] 60)).alloc (.cells #[.string d1', .int .i64 n1] 58)).cell? ⟨b1, o1 + k * 13 + 9, none⟩ = some (.int .i64 r.N.wait) := (hb5.cell (p := ⟨b1, _, none⟩) (by show b1 < _; (try simp) <;> omega)).trans qc_9
            have xc_10 : ((w3.alloc (.cells #[.int .i64 t1, .int .i64 v1', .slice ar L.length car] 60)).alloc (.cells #[.string d1', .int .i64 n1] 58)).cell? ⟨b1, o1 + k * 13 + 10, none⟩ = some (.slice r.av r.N.votes.length r.cv) := (hb5.cell (p := ⟨b1, _, none⟩) (by show b1 < _; (try simp) <;> omega)).trans qc_10
            have xc_11 : ((w3.alloc (.cells #[.int .i64 t1, .int .i64 v1', .slice ar L.length car] 60)).alloc (.cells #[.string d1', .int .i64 n1] 58)).cell? ⟨b1, o1 + k * 13 + 11, none⟩ = some (.slice r.an r.N.next.length r.cn) := (hb5.cell (p := ⟨b1, _, none⟩) (by show b1 < _; (try simp) <;> omega)).trans qc_11
            have xc_12 : ((w3.alloc (.cells #[.int .i64 t1, .int .i64 v1', .slice ar L.length car] 60)).alloc (.cells #[.string d1', .int .i64 n1] 58)).cell? ⟨b1, o1 + k * 13 + 12, none⟩ = some (.slice r.am r.N.mtch.length r.cm) := (hb5.cell (p := ⟨b1, _, none⟩) (by show b1 < _; (try simp) <;> omega)).trans qc_12
            have xd_0 : ((w3.alloc (.cells #[.int .i64 t1, .int .i64 v1', .slice ar L.length car] 60)).alloc (.cells #[.string d1', .int .i64 n1] 58)).cell? ⟨b2, o2 + k * 2, none⟩ = some (.string s.1) := (hb5.cell (p := ⟨b2, _, none⟩) (by show b2 < _; (try simp) <;> omega)).trans qd_0
            have xd_1 : ((w3.alloc (.cells #[.int .i64 t1, .int .i64 v1', .slice ar L.length car] 60)).alloc (.cells #[.string d1', .int .i64 n1] 58)).cell? ⟨b2, o2 + k * 2 + 1, none⟩ = some (.int .i64 s.2) := (hb5.cell (p := ⟨b2, _, none⟩) (by show b2 < _; (try simp) <;> omega)).trans qd_1
            clear qk_0 qk_1 qk_2 qk_3 qc_0 qc_1 qc_2 qc_3 qc_4 qc_5 qc_6 qc_7 qc_8 qc_9 qc_10 qc_11 qc_12 qd_0 qd_1
            have st_0 : ((w3.alloc (.cells #[.int .i64 t1, .int .i64 v1', .slice ar L.length car] 60)).alloc (.cells #[.string d1', .int .i64 n1] 58)).cell? ⟨w3.heap.size, 0, none⟩ = some (.int .i64 t1) := by simp [go_sem]
            have st_1 : ((w3.alloc (.cells #[.int .i64 t1, .int .i64 v1', .slice ar L.length car] 60)).alloc (.cells #[.string d1', .int .i64 n1] 58)).cell? ⟨w3.heap.size, 1, none⟩ = some (.int .i64 v1') := by simp [go_sem]
            have st_2 : ((w3.alloc (.cells #[.int .i64 t1, .int .i64 v1', .slice ar L.length car] 60)).alloc (.cells #[.string d1', .int .i64 n1] 58)).cell? ⟨w3.heap.size, 2, none⟩ = some (.slice ar L.length car) := by simp [go_sem]
            have rs_0 : ((w3.alloc (.cells #[.int .i64 t1, .int .i64 v1', .slice ar L.length car] 60)).alloc (.cells #[.string d1', .int .i64 n1] 58)).cell? ⟨w3.heap.size + 1, 0, none⟩ = some (.string d1') := by simp [go_sem]
            have rs_1 : ((w3.alloc (.cells #[.int .i64 t1, .int .i64 v1', .slice ar L.length car] 60)).alloc (.cells #[.string d1', .int .i64 n1] 58)).cell? ⟨w3.heap.size + 1, 1, none⟩ = some (.int .i64 n1) := by simp [go_sem]
            generalize ((w3.alloc (.cells #[.int .i64 t1, .int .i64 v1', .slice ar L.length car] 60)).alloc (.cells #[.string d1', .int .i64 n1] 58)) = w5 at hb5 hz5 xk_0 xk_1 xk_2 xk_3 xc_0 xc_1 xc_2 xc_3 xc_4 xc_5 xc_6 xc_7 xc_8 xc_9 xc_10 xc_11 xc_12 xd_0 xd_1 st_0 st_1 st_2 rs_0 rs_1 ⊢
            have HB5 : Hid (Below w0.heap.size w0 w5) := HB3.out.trans (hb5.mono (by omega))
            have hw05 := HB5.out.size
            have ok5 := ok3.keep hb5
            have hlC5 : w.heap.size < w5.heap.size := by omega
            have hb15 : b1 < w5.heap.size := by omega
            have hb25 : b2 < w5.heap.size := by omega
            have hs5 : w3.heap.size < w5.heap.size := by omega
            have hr5 : w3.heap.size + 1 < w5.heap.size := by omega
            clear hbq hzq
            by_cases q6 : c = 0
            rotate_left
            · have f8 : (c != 0) = true := by simpa using q6
              have Q6 : Hid ((c == 0) = false) := Lib.hid (by simpa using q6)
              clear q6
              have hval : V = false := HF.out (fun hp => by have := HROW.out hp; simp [rowOK, recOK, HC.out, Q6.out] at this)
              subst hval
              have xq0 := extW_cell (w := w5) (b := w.heap.size) (by (try simp) <;> (try omega))
              have xq1 := extW_cell (w := w5) (b := b1) (by (try simp) <;> (try omega))
              have xq2 := extW_cell (w := w5) (b := b2) (by (try simp) <;> (try omega))
              have xq3 := extW_cell (w := w5) (b := w3.heap.size) (by (try simp) <;> (try omega))
              have xq4 := extW_cell (w := w5) (b := w3.heap.size + 1) (by (try simp) <;> (try omega))
              refine wp_region_quietx (w5) rfl (by kernel_rfl) (by kernel_rfl) ?_
              repeat (go_big_quiet_step (fail))
              refine wpQuiet_nil ?_
              intro _ hw'
              obtain ⟨xq, hw''⟩ := hw'
              subst hw''
              have hbq := extW_below (w5) xq
              generalize extW (w5) xq = wq at hbq ⊢
              clear xq0
              clear xq1
              clear xq2
              clear xq3
              clear xq4
              go_wp2_with fail
              go_ret
              exact ⟨rfl, HB0.out.trans ((HB5.out.trans (hbq.mono (by omega))).mono (by omega))⟩
            subst q6
            obtain ⟨hy, hfr⟩ := HI.out HC.out
            have HY := Lib.hid hy
            have hln : L.length ≤ 60 := by have := HLN.out; rw [hy] at this; exact this
            have hsl0 : Sl entE 2 w3 ar L := hfr.here.sl (fun _ => rfl)
            have hsl5 := hsl0.keep hb5
            have hlg5 : Sl entE 2 w5 r.al r.N.log := ok5.1.log
            clear hy hfr hsl0 HI HLN
            by_cases q7 : n1 = s.2
            rotate_left
            · have f9 : (n1 != s.2) = true := by simpa using q7
              have f9' : (n1 == s.2) = false := by simpa using q7
              have Q7 := Lib.hid f9'
              clear q7 f9'
              have hval : V = false := HF.out (fun hp => by have := HROW.out hp; simp [rowOK, recOK, HY.out, Q7.out] at this)
              subst hval
              have xq0 := extW_cell (w := w5) (b := w.heap.size) (by (try simp) <;> (try omega))
              have xq1 := extW_cell (w := w5) (b := b1) (by (try simp) <;> (try omega))
              have xq2 := extW_cell (w := w5) (b := b2) (by (try simp) <;> (try omega))
              have xq3 := extW_cell (w := w5) (b := w3.heap.size) (by (try simp) <;> (try omega))
              have xq4 := extW_cell (w := w5) (b := w3.heap.size + 1) (by (try simp) <;> (try omega))
              refine wp_region_quietx (w5) rfl (by kernel_rfl) (by kernel_rfl) ?_
              repeat (go_big_quiet_step (fail))
              refine wpQuiet_nil ?_
              intro _ hw'
              obtain ⟨xq, hw''⟩ := hw'
              subst hw''
              have hbq := extW_below (w5) xq
              generalize extW (w5) xq = wq at hbq ⊢
              clear xq0
              clear xq1
              clear xq2
              clear xq3
              clear xq4
              go_wp2_with fail
              go_ret
              exact ⟨rfl, HB0.out.trans ((HB5.out.trans (hbq.mono (by omega))).mono (by omega))⟩
            have f9 : (n1 != s.2) = false := by simpa using q7
            have Q7 := Lib.hid q7
            clear q7
            obtain ⟨v10, hv10⟩ : ∃ v, (decide (t1 = r.N.term) && (decide (v1' = r.N.vote) && decide (L = r.N.log))) = v := ⟨_, rfl⟩
            have Q10 := Lib.hid hv10
            have HSM : Hid (∀ w', Sl entE 2 w' ar L → Sl entE 2 w' r.al r.N.log → Calls Try.prog 34 #[.agg #[.int .i64 t1, .int .i64 v1', .slice ar L.length car], .agg #[.int .i64 r.N.term, .int .i64 r.N.vote, .slice r.al r.N.log.length r.cl]] w' fun e w'' => e = .returned (.bool v10) ∧ Below w'.heap.size w' w'') := Lib.hid (fun w' h1 h2 => by
              have := l09Same_c ar r.al car r.cl L r.N.log t1 v1' r.N.term r.N.vote w' h1 h2 (by omega) zr.log
              rwa [hv10] at this)
            clear hv10
            cases v10
            case false =>
              have hval : V = false := HF.out (fun hp => by
                have h1 := HROW.out hp
                have h2 := Q10.out
                simp [rowOK, recOK, HY.out] at h1
                simp [h1] at h2)
              subst hval
              have xq0 := extW_cell (w := w5) (b := w.heap.size) (by (try simp) <;> (try omega))
              have xq1 := extW_cell (w := w5) (b := b1) (by (try simp) <;> (try omega))
              have xq2 := extW_cell (w := w5) (b := b2) (by (try simp) <;> (try omega))
              have xq3 := extW_cell (w := w5) (b := w3.heap.size) (by (try simp) <;> (try omega))
              have xq4 := extW_cell (w := w5) (b := w3.heap.size + 1) (by (try simp) <;> (try omega))
              refine wp_region_quietx (w5) rfl (by kernel_rfl) (by kernel_rfl) ?_
              repeat (go_big_quiet_step ((first | (go_at_call 35; exact Calls.quietx (l08State_c r.al r.cl r.av r.cv r.an r.cn r.am r.cm r.N _)) | (go_at_call 34; exact Calls.quietx (HSM.out _ (hsl5.keep (extW_below _ _)) (hlg5.keep (extW_below _ _)))))))
              refine wpQuiet_nil ?_
              intro _ hw'
              obtain ⟨xq, hw''⟩ := hw'
              subst hw''
              have hbq := extW_below (w5) xq
              generalize extW (w5) xq = wq at hbq ⊢
              clear xq0
              clear xq1
              clear xq2
              clear xq3
              clear xq4
              go_wp2_with fail
              go_ret
              exact ⟨rfl, HB0.out.trans ((HB5.out.trans (hbq.mono (by omega))).mono (by omega))⟩
            case true =>
              have hval : rowOK ns.length k r.N s = true := by
                have h2 := Q10.out
                simp at h2
                simp [rowOK, recOK, HY.out, Q1.out, Q2.out, Q3.out, Q4.out, Q5.out, Q7.out, h2]
              have HVAL := Lib.hid hval
              clear hval
              have xq0 := extW_cell (w := w5) (b := w.heap.size) (by (try simp) <;> (try omega))
              have xq1 := extW_cell (w := w5) (b := b1) (by (try simp) <;> (try omega))
              have xq2 := extW_cell (w := w5) (b := b2) (by (try simp) <;> (try omega))
              have xq3 := extW_cell (w := w5) (b := w3.heap.size) (by (try simp) <;> (try omega))
              have xq4 := extW_cell (w := w5) (b := w3.heap.size + 1) (by (try simp) <;> (try omega))
              refine wp_region_quietx (w5) rfl (by kernel_rfl) (by kernel_rfl) ?_
              repeat (go_big_quiet_step ((first | (go_at_call 35; exact Calls.quietx (l08State_c r.al r.cl r.av r.cv r.an r.cn r.am r.cm r.N _)) | (go_at_call 34; exact Calls.quietx (HSM.out _ (hsl5.keep (extW_below _ _)) (hlg5.keep (extW_below _ _)))))))
              refine wpQuiet_nil ?_
              intro _ hw'
              obtain ⟨xq, hw''⟩ := hw'
              subst hw''
              have hbq := extW_below (w5) xq
              generalize extW (w5) xq = wq at hbq ⊢
              clear xq0
              clear xq1
              clear xq2
              clear xq3
              clear xq4
              go_wp2_with fail
              go_roundw
              case rel => exact ⟨k + 1, by omega, by go_num, HNEXT.out HVAL.out, HB5.out.trans (hbq.mono (by omega))⟩
              case measure => simp [intOf]; omega
      · obtain rfl : k = ns.length := by omega
        obtain ⟨wo, rfl⟩ : ∃ wo : World, wo = wr := ⟨_, rfl⟩
        have hw3 := hw2.keep hbel
        have hd3 := hd2.keep hbel
        go_wp2_with fail
        go_loopw [8] (fun i wr => ∃ m : Nat, m ≤ ws.length ∧ i = .int .i64 m ∧ (∀ j (h1 : j < ws.length), j < m → badMsg ns.length ws[j].M (msgOK ws[j].M) = false) ∧ Below wo.heap.size wo wr) (fun i _ => ws.length - (intOf i).toNat)
        case atStart => exact ⟨0, Nat.zero_le _, rfl, fun j _ h => absurd h (Nat.not_lt_zero _), Below.refl _ _⟩
        case round =>
          obtain ⟨m, hm, rfl, hms, hbm⟩ := hrel
          have HM := Lib.hid hms
          have HBM : Hid (Below w0.heap.size w0 wr) := HBL.out.trans (hbm.mono (by omega))
          have hzm := hbm.size
          have hlm : w.heap.size < wr.heap.size := by omega
          clear hms
          have km_0 : wr.cell? ⟨w.heap.size, 0, none⟩ = some (.slice an ns.length cn) := (hbm.cell (p := ⟨w.heap.size, 0, none⟩) (by show w.heap.size < _; omega)).trans kr_0
          have km_1 : wr.cell? ⟨w.heap.size, 1, none⟩ = some (.slice ast ss.length cst) := (hbm.cell (p := ⟨w.heap.size, 1, none⟩) (by show w.heap.size < _; omega)).trans kr_1
          have km_2 : wr.cell? ⟨w.heap.size, 2, none⟩ = some (.slice aw ws.length cw) := (hbm.cell (p := ⟨w.heap.size, 2, none⟩) (by show w.heap.size < _; omega)).trans kr_2
          have km_3 : wr.cell? ⟨w.heap.size, 3, none⟩ = some (.slice ad ds.length cd) := (hbm.cell (p := ⟨w.heap.size, 3, none⟩) (by show w.heap.size < _; omega)).trans kr_3
          clear kr_0 kr_1 kr_2 kr_3
          by_cases hlt3 : m < ws.length
          · obtain ⟨b3, o3, rfl, hb3, hc3⟩ := (hw3.1.keep hbm).at hlt3
            have e0 := hc3 m hlt3 0 (by omega)
            have e1 := hc3 m hlt3 1 (by omega)
            have e2 := hc3 m hlt3 2 (by omega)
            have e3 := hc3 m hlt3 3 (by omega)
            have e4 := hc3 m hlt3 4 (by omega)
            have e5 := hc3 m hlt3 5 (by omega)
            have e6 := hc3 m hlt3 6 (by omega)
            have e7 := hc3 m hlt3 7 (by omega)
            have e8 := hc3 m hlt3 8 (by omega)
            simp only [msgE, Nat.add_zero, List.getElem?_cons_zero, List.getElem?_cons_succ] at e0 e1 e2 e3 e4 e5 e6 e7 e8
            clear hc3
            have okm := (hw3.2 ws[m] (List.getElem_mem _)).keep hbm
            have zm := ZW.out ws[m] (List.getElem_mem _)
            have HNEXT : Hid (badMsg ns.length ws[m].M (msgOK ws[m].M) = false → ∀ j (h1 : j < ws.length), j < m + 1 → badMsg ns.length ws[j].M (msgOK ws[j].M) = false) := Lib.hid (fun h j h1 hj => by
              rcases Nat.lt_succ_iff_lt_or_eq.1 hj with hj | rfl
              · exact HM.out j h1 hj
              · exact h)
            have HBAD : Hid (badMsg ns.length ws[m].M (msgOK ws[m].M) = true → V = false) := Lib.hid (fun h => HF.out (fun hp => any_some (q := fun r => badMsg ns.length r.M (msgOK r.M)) hlt3 h hp.wire))
            generalize ws[m] = r at okm zm HNEXT HBAD e0 e1 e2 e3 e4 e5 e6 e7 e8
            obtain ⟨v6, hv6⟩ : ∃ v, msgOK r.M = v := ⟨_, rfl⟩
            have Q6 := Lib.hid hv6
            have okm2 : MsgA.okM (wr.alloc (.cells #[.int .i64 r.M.kind, .int .i64 r.M.src, .int .i64 r.M.dst, .int .i64 r.M.term, .int .i64 r.M.index, .int .i64 r.M.lterm, .int .i64 r.M.commit, .bool r.M.ok, .slice r.ae r.M.ents.length r.ce] 66)) r := okm.keep ((Below.refl _ _).alloc (Nat.le_refl _) _)
            go_wp2_with fail
            refine (specMessage_c r _ okm2 zm).mono ?_
            rw [hv6]
            clear hv6
            rintro e w6 ⟨rfl, hb6⟩
            have hz6 := hb6.size
            simp only [World.size_alloc] at hz6
            have HB6 : Hid (Below w0.heap.size w0 w6) := (HBM.out.alloc (by omega) _).trans (hb6.mono (by simp; omega))
            have g6_0 : w6.cell? ⟨wr.heap.size, 0, none⟩ = some (.int .i64 r.M.kind) := (hb6.cell (p := ⟨wr.heap.size, 0, none⟩) (by show wr.heap.size < _; simp)).trans (by simp [go_sem])
            have g6_1 : w6.cell? ⟨wr.heap.size, 1, none⟩ = some (.int .i64 r.M.src) := (hb6.cell (p := ⟨wr.heap.size, 1, none⟩) (by show wr.heap.size < _; simp)).trans (by simp [go_sem])
            have g6_2 : w6.cell? ⟨wr.heap.size, 2, none⟩ = some (.int .i64 r.M.dst) := (hb6.cell (p := ⟨wr.heap.size, 2, none⟩) (by show wr.heap.size < _; simp)).trans (by simp [go_sem])
            have g6_3 : w6.cell? ⟨wr.heap.size, 3, none⟩ = some (.int .i64 r.M.term) := (hb6.cell (p := ⟨wr.heap.size, 3, none⟩) (by show wr.heap.size < _; simp)).trans (by simp [go_sem])
            have g6_4 : w6.cell? ⟨wr.heap.size, 4, none⟩ = some (.int .i64 r.M.index) := (hb6.cell (p := ⟨wr.heap.size, 4, none⟩) (by show wr.heap.size < _; simp)).trans (by simp [go_sem])
            have g6_5 : w6.cell? ⟨wr.heap.size, 5, none⟩ = some (.int .i64 r.M.lterm) := (hb6.cell (p := ⟨wr.heap.size, 5, none⟩) (by show wr.heap.size < _; simp)).trans (by simp [go_sem])
            have g6_6 : w6.cell? ⟨wr.heap.size, 6, none⟩ = some (.int .i64 r.M.commit) := (hb6.cell (p := ⟨wr.heap.size, 6, none⟩) (by show wr.heap.size < _; simp)).trans (by simp [go_sem])
            have g6_7 : w6.cell? ⟨wr.heap.size, 7, none⟩ = some (.bool r.M.ok) := (hb6.cell (p := ⟨wr.heap.size, 7, none⟩) (by show wr.heap.size < _; simp)).trans (by simp [go_sem])
            have g6_8 : w6.cell? ⟨wr.heap.size, 8, none⟩ = some (.slice r.ae r.M.ents.length r.ce) := (hb6.cell (p := ⟨wr.heap.size, 8, none⟩) (by show wr.heap.size < _; simp)).trans (by simp [go_sem])
            cases v6
            case false =>
              have hval : V = false := HBAD.out (by simp [badMsg, Q6.out])
              subst hval
              go_wp2_with fail
              go_ret
              exact ⟨rfl, HB0.out.trans (HB6.out.mono (by omega))⟩
            case true =>
              by_cases q1 : (ns.length : Int) ≤ r.M.dst
              · have f1 : decide (r.M.dst ≥ (ns.length : Int)) = true := by simpa using q1
                have hval : V = false := HBAD.out (by simp [badMsg, Q6.out, q1])
                clear q1
                subst hval
                go_wp2_with fail
                go_ret
                exact ⟨rfl, HB0.out.trans (HB6.out.mono (by omega))⟩
              have f1 : decide (r.M.dst ≥ (ns.length : Int)) = false := by simpa using q1
              have Q1 := Lib.hid q1
              clear q1
              by_cases q2 : (ns.length : Int) ≤ r.M.src
              · have f2' : decide (r.M.src ≥ (ns.length : Int)) = true := by simpa using q2
                have hval : V = false := HBAD.out (by simp [badMsg, Q6.out, q2])
                clear q2
                subst hval
                go_wp2_with fail
                go_ret
                exact ⟨rfl, HB0.out.trans (HB6.out.mono (by omega))⟩
              have f2' : decide (r.M.src ≥ (ns.length : Int)) = false := by simpa using q2
              have hval : badMsg ns.length r.M (msgOK r.M) = false := by
                have h1 := Q1.out
                simp [badMsg, Q6.out]
                omega
              have HVAL := Lib.hid hval
              clear hval q2
              have HBR : Hid (Below wo.heap.size wo w6) := (hbm.alloc (by omega) _).trans (hb6.mono (by simp; omega))
              go_wp2_with fail
              go_roundw
              case rel => exact ⟨m + 1, by omega, by go_num, HNEXT.out HVAL.out, HBR.out⟩
              case measure => simp [intOf]; omega
          · obtain rfl : m = ws.length := by omega
            have hd4 := hd3.keep hbm
            go_wp2_with fail
            go_loop [10] (fun i => ∃ q : Nat, q ≤ ds.length ∧ i = .int .i64 q ∧ (∀ j (h1 : j < ds.length), j < q → longD ds[j] = false)) (fun i => ds.length - (intOf i).toNat)
            case atStart => exact ⟨0, Nat.zero_le _, rfl, fun j _ h => absurd h (Nat.not_lt_zero _)⟩
            case round =>
              obtain ⟨q, hq, rfl, hqs⟩ := hrel
              have HQ := Lib.hid hqs
              clear hqs
              by_cases hlt4 : q < ds.length
              · obtain ⟨b4, o4, rfl, hb4, hc4⟩ := hd4.at hlt4
                have y0 := hc4 q hlt4 0 (by omega)
                simp only [strE, Nat.mul_one, Nat.add_zero, List.getElem?_cons_zero] at y0
                clear hc4
                by_cases q1 : (ds[q].size : Int) > 400
                · have f1 : decide ((ds[q].size : Int) > 400) = true := by simpa using q1
                  have hval : V = false := HF.out (fun hp => any_some (q := longD) hlt4 (by simp [longD]; omega) hp.done)
                  subst hval
                  clear q1
                  go_wp2_with fail
                  go_ret
                  exact ⟨rfl, HB0.out.trans (HBM.out.mono (by omega))⟩
                · have f1 : decide ((ds[q].size : Int) > 400) = false := by simpa using q1
                  have hval : longD ds[q] = false := by simp [longD]; omega
                  have HVAL := Lib.hid hval
                  clear hval q1
                  go_wp2_with fail
                  go_round
                  case rel => exact ⟨q + 1, by omega, by go_num, fun j h1 hj => by
                    rcases Nat.lt_succ_iff_lt_or_eq.1 hj with hj | rfl
                    · exact HQ.out j h1 hj
                    · exact HVAL.out⟩
                  case measure => simp [intOf]; omega
              · obtain rfl : q = ds.length := by omega
                have hval : V = true := HT.out ⟨E1.out, L2.out, l3, l4, fun i h1 h2 => HR.out i h1 h2 h1, any_none (fun j h1 h2 => HM.out j h1 h2), any_none (fun j h1 h2 => HQ.out j h1 h2)⟩
                subst hval
                go_wp2_with fail
                go_ret
                exact ⟨rfl, HB0.out.trans (HBM.out.mono (by omega))⟩
end
section
open Go.RowKit
theorem CluOK.below {w w' : World} {C : CluA} (h : CluOK w C) (hb : Below w.heap.size w w') : CluOK w' C := h.keep hb
theorem CluSame.trans {C D E : CluA} (h : CluSame C D) (k : CluSame D E) : CluSame C E := ⟨h.nodes.trans k.nodes, h.stores.trans k.stores, h.wire.trans k.wire, h.done.trans k.done⟩
theorem CluSz.same {C D : CluA} {B : Nat} (h : CluSz C B) (he : CluSame D C) : CluSz D B where
  nl := by rw [map_len he.nodes]; exact h.nl
  nodes := fun r hr => by
    obtain ⟨i, hi, rfl⟩ := List.getElem_of_mem hr
    have hi' : i < C.nodes.length := by rw [← map_len he.nodes]; exact hi
    have := map_at he.nodes i hi hi'
    rw [show D.nodes[i].N = C.nodes[i].N from this]
    exact h.nodes _ (List.getElem_mem _)
  sl := by rw [he.stores]; exact h.sl
  stores := by rw [he.stores]; exact h.stores
  wl := by rw [map_len he.wire]; exact h.wl
  wire := fun r hr => by
    obtain ⟨i, hi, rfl⟩ := List.getElem_of_mem hr
    have hi' : i < C.wire.length := by rw [← map_len he.wire]; exact hi
    have := map_at he.wire i hi hi'
    rw [show D.wire[i].M = C.wire[i].M from this]
    exact h.wire _ (List.getElem_mem _)
  dl := by rw [he.done]; exact h.dl
  done := by rw [he.done]; exact h.done
set_option maxHeartbeats 1000000 in
theorem implClusterOK_c (ns : List NodeA) (an : Option Addr) (cn : Nat) (ss : List Sto) (ast : Option Addr) (cst : Nat) (ws : List MsgA) (aw : Option Addr) (cw : Nat) (ds : List ByteArray) (ad : Option Addr) (cd : Nat) (w : World) (hC : CluOK w (⟨ns, an, cn, ss, ast, cst, ws, aw, cw, ds, ad, cd⟩ : CluA)) (hZ : CluSz (⟨ns, an, cn, ss, ast, cst, ws, aw, cw, ds, ad, cd⟩ : CluA) 1048576) :
    Calls Try.prog 11 #[.agg #[.slice an ns.length cn, .slice ast ss.length cst, .slice aw ws.length cw, .slice ad ds.length cd]] w fun e w' => e = .returned (.bool (cluOK (⟨ns, an, cn, ss, ast, cst, ws, aw, cw, ds, ad, cd⟩ : CluA))) ∧ Below w.heap.size w w' := by
  generalize hv : cluOK (⟨ns, an, cn, ss, ast, cst, ws, aw, cw, ds, ad, cd⟩ : CluA) = V
  have HV := Lib.hid hv
  have HZ := Lib.hid hZ
  clear hv hZ
  go_enter Try.func11, Try.ntmps11
  go_wp2_with fail
  refine (isCluster_c ns an cn ss ast cst ws aw cw ds ad cd _ (hC.alloc _) HZ.out).mono ?_
  rw [HV.out]
  rintro e w1 ⟨rfl, hb1⟩
  go_wp2_with fail
  go_ret
  exact ⟨rfl, ((Below.refl _ _).alloc (Nat.le_refl _) _).trans (hb1.mono (by simp))⟩
end
end Go.Proofs.Ytckaccadgbcohaa
