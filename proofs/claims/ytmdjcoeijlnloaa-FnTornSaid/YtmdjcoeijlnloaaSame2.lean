/- spec.SameState and impl.SameState. -/
import Derived.Test.YtmdjcoeijlnloaaSame
import Derived.Test.YtmdjcoeijlnloaaQuiet
namespace Go.Proofs.Ytmdjcoeijlnloaa
set_option linter.unusedVariables false
set_option linter.unusedSimpArgs false
open Go.RowKit
noncomputable def sameV (t v : Int) (xs : List Ent) (t' v' : Int) (ys : List Ent) : Value :=
  if stOK t v xs = true ∧ stOK t' v' ys = true then .tuple #[.bool (decide (t = t') && (decide (v = v') && decide (xs = ys))), .int .i64 0] else .tuple #[.bool false, .int .i64 1]
set_option maxRecDepth 100000 in
set_option maxHeartbeats 1000000 in
theorem implSame_c (a b : Option Addr) (ca cb : Nat) (xs ys : List Ent) (t v t' v' : Int) (w : World) (ha : Sl entE 2 w a xs) (hb : Sl entE 2 w b ys) (la : xs.length ≤ 1048576) (lb : ys.length ≤ 1048576)
    (sa : ∀ s ∈ xs, s.2.size ≤ 1048576) (sb : ∀ s ∈ ys, s.2.size ≤ 1048576) :
    Calls Try.prog 27 #[.agg #[.int .i64 t, .int .i64 v, .slice a xs.length ca], .agg #[.int .i64 t', .int .i64 v', .slice b ys.length cb]] w
      fun e w' => e = .returned (sameV t v xs t' v' ys) ∧ Below w.heap.size w w' := by
  have SA := Lib.hid sa
  have SB := Lib.hid sb
  clear sa sb
  by_cases h1 : stOK t v xs = true
  · by_cases h2 : stOK t' v' ys = true
    · have hE : sameV t v xs t' v' ys = .tuple #[.bool (decide (t = t') && (decide (v = v') && decide (xs = ys))), .int .i64 0] := by simp [sameV, h1, h2]
      rw [hE]
      clear hE
      go_enter Try.func27, Try.ntmps27
      go_wp2_with fail
      refine (isState_c a ca xs t v _ ((ha.alloc _).alloc _) la SA.out).mono ?_
      rintro e w1 ⟨rfl, hb1⟩
      rw [h1]
      have ha1 := ((ha.alloc _).alloc _).keep hb1
      have hbb1 := ((hb.alloc _).alloc _).keep hb1
      have hz1 := hb1.size
      try simp at hz1
      have kc1_0 := fun o => hb1.cell (p := ⟨w.heap.size, o, none⟩) (by (try simp) <;> (try omega))
      have kf1_0 := fun o => hb1.frozen (p := ⟨w.heap.size, o, none⟩) (by (try simp) <;> (try omega))
      have hl1_0 : w.heap.size < w1.heap.size := by omega
      have kc1_1 := fun o => hb1.cell (p := ⟨w.heap.size + 1, o, none⟩) (by (try simp) <;> (try omega))
      have kf1_1 := fun o => hb1.frozen (p := ⟨w.heap.size + 1, o, none⟩) (by (try simp) <;> (try omega))
      have hl1_1 : w.heap.size + 1 < w1.heap.size := by omega
      go_wp2_with fail
      refine (isState_c b cb ys t' v' _ hbb1 lb SB.out).mono ?_
      rintro e w2 ⟨rfl, hb2⟩
      rw [h2]
      have ha2 := ha1.keep hb2
      have hbb2 := hbb1.keep hb2
      have hz2 := hb2.size
      try simp at hz2
      have kc2_0 := fun o => hb2.cell (p := ⟨w.heap.size, o, none⟩) (by (try simp) <;> (try omega))
      have kf2_0 := fun o => hb2.frozen (p := ⟨w.heap.size, o, none⟩) (by (try simp) <;> (try omega))
      have hl2_0 : w.heap.size < w2.heap.size := by omega
      have kc2_1 := fun o => hb2.cell (p := ⟨w.heap.size + 1, o, none⟩) (by (try simp) <;> (try omega))
      have kf2_1 := fun o => hb2.frozen (p := ⟨w.heap.size + 1, o, none⟩) (by (try simp) <;> (try omega))
      have hl2_1 : w.heap.size + 1 < w2.heap.size := by omega
      by_cases e1 : t = t'
      · subst e1
        by_cases e2 : v = v'
        · subst e2
          go_wp2_with fail
          refine (slicesEqual_c a b ca cb xs ys _ ha2 hbb2 la lb).mono ?_
          rintro e w3 ⟨rfl, hb3⟩
          go_wp2_with fail
          go_ret2
          exact ⟨by simp, (by repeat (first | exact Below.refl _ _ | (refine Below.alloc ?_ (by (try simp) <;> (try omega)) _) | (refine Below.setCell ?_ (by (try simp) <;> (try omega)) _) | (refine Below.drew ?_) | (refine Below.trans ?_ (Below.mono (by assumption) (by (try simp) <;> (try omega))))))⟩
        · have f2 : (v == v') = false := by simpa using e2
          go_wp2_with fail
          go_ret2
          exact ⟨by simp [e2], (by repeat (first | exact Below.refl _ _ | (refine Below.alloc ?_ (by (try simp) <;> (try omega)) _) | (refine Below.setCell ?_ (by (try simp) <;> (try omega)) _) | (refine Below.drew ?_) | (refine Below.trans ?_ (Below.mono (by assumption) (by (try simp) <;> (try omega))))))⟩
      · have f1 : (t == t') = false := by simpa using e1
        go_wp2_with fail
        go_ret2
        exact ⟨by simp [e1], (by repeat (first | exact Below.refl _ _ | (refine Below.alloc ?_ (by (try simp) <;> (try omega)) _) | (refine Below.setCell ?_ (by (try simp) <;> (try omega)) _) | (refine Below.drew ?_) | (refine Below.trans ?_ (Below.mono (by assumption) (by (try simp) <;> (try omega))))))⟩
    · have hE : sameV t v xs t' v' ys = .tuple #[.bool false, .int .i64 1] := by simp [sameV, h2]
      rw [hE]
      clear hE
      go_enter Try.func27, Try.ntmps27
      go_wp2_with fail
      refine (isState_c a ca xs t v _ ((ha.alloc _).alloc _) la SA.out).mono ?_
      rintro e w1 ⟨rfl, hb1⟩
      rw [h1]
      have hbb1 := ((hb.alloc _).alloc _).keep hb1
      have hz1 := hb1.size
      try simp at hz1
      have kc1_0 := fun o => hb1.cell (p := ⟨w.heap.size, o, none⟩) (by (try simp) <;> (try omega))
      have kf1_0 := fun o => hb1.frozen (p := ⟨w.heap.size, o, none⟩) (by (try simp) <;> (try omega))
      have hl1_0 : w.heap.size < w1.heap.size := by omega
      have kc1_1 := fun o => hb1.cell (p := ⟨w.heap.size + 1, o, none⟩) (by (try simp) <;> (try omega))
      have kf1_1 := fun o => hb1.frozen (p := ⟨w.heap.size + 1, o, none⟩) (by (try simp) <;> (try omega))
      have hl1_1 : w.heap.size + 1 < w1.heap.size := by omega
      go_wp2_with fail
      refine (isState_c b cb ys t' v' _ hbb1 lb SB.out).mono ?_
      rintro e w2 ⟨rfl, hb2⟩
      rw [Bool.eq_false_iff.2 h2]
      go_wp2_with fail
      go_ret2
      exact ⟨rfl, (by repeat (first | exact Below.refl _ _ | (refine Below.alloc ?_ (by (try simp) <;> (try omega)) _) | (refine Below.setCell ?_ (by (try simp) <;> (try omega)) _) | (refine Below.drew ?_) | (refine Below.trans ?_ (Below.mono (by assumption) (by (try simp) <;> (try omega))))))⟩
  · have hE : sameV t v xs t' v' ys = .tuple #[.bool false, .int .i64 1] := by simp [sameV, h1]
    rw [hE]
    clear hE
    go_enter Try.func27, Try.ntmps27
    go_wp2_with fail
    refine (isState_c a ca xs t v _ ((ha.alloc _).alloc _) la SA.out).mono ?_
    rintro e w1 ⟨rfl, hb1⟩
    rw [Bool.eq_false_iff.2 h1]
    go_wp2_with fail
    go_ret2
    exact ⟨rfl, (by repeat (first | exact Below.refl _ _ | (refine Below.alloc ?_ (by (try simp) <;> (try omega)) _) | (refine Below.setCell ?_ (by (try simp) <;> (try omega)) _) | (refine Below.drew ?_) | (refine Below.trans ?_ (Below.mono (by assumption) (by (try simp) <;> (try omega))))))⟩
end Go.Proofs.Ytmdjcoeijlnloaa
