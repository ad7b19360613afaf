/- Opening the arguments of the laws on nodes. -/
import Derived.Test.YtcakldgbhjkkfaaFrame
namespace Go.Proofs.Ytcakldgbhjkkfaa
set_option linter.unusedVariables false
set_option linter.unusedSimpArgs false
open Go.ChangeShapes Go.WideShapes Go.ChangeAt Go.RowKit
theorem Try.cellsNode : Try.prog.cellsOf 25 = 13 := by kernel_rfl
set_option maxRecDepth 100000 in
theorem openNode {H : Type} {enc' : TypeId × Value → H} {W : World} {base : Nat} {vv : Value} {d : DataW H} {p : List MemPlace} (hv : Value.okWide Try.prog W .any base 25 vv)
    (h : DataW.Trod enc' Try.prog W 0 (fun _ => true) true 25 vv d p) : ∃ (id : Int) (nodes : Int) (term : Int) (vote : Int) (role : Int) (up : Bool) (alog : Option Addr) (clog : Nat) (log : List (Int × ByteArray)) (commit : Int) (elapsed : Int) (wait : Int) (avotes : Option Addr) (cvotes : Nat) (votes : List (Int)) (anext : Option Addr) (cnext : Nat) (next : List (Int)) (amtch : Option Addr) (cmtch : Nat) (mtch : List (Int)), vv = .agg #[.int .i64 id, .int .i64 nodes, .int .i64 term, .int .i64 vote, .int .i64 role, .bool up, .slice alog log.length clog, .int .i64 commit, .int .i64 elapsed, .int .i64 wait, .slice avotes votes.length cvotes, .slice anext next.length cnext, .slice amtch mtch.length cmtch] ∧ log.length ≤ 9223372036854775807 ∧ (∀ y ∈ log, (fun y : Int × ByteArray => y.2.size ≤ 9223372036854775807) y) ∧ Sl entE 2 W alog log ∧ votes.length ≤ 9223372036854775807 ∧ Sl intE 1 W avotes votes ∧ next.length ≤ 9223372036854775807 ∧ Sl intE 1 W anext next ∧ mtch.length ≤ 9223372036854775807 ∧ Sl intE 1 W amtch mtch := by
  obtain ⟨cs, rfl, hsz⟩ := okWide_struct Try.underlying25 hv
  rw [Try.cellsNode] at hsz
  obtain ⟨fuel, hf⟩ := h
  obtain ⟨cs⟩ := cs
  obtain ⟨ys, n, _, _, _, hyl, hfs⟩ := DataW.trod_struct Try.underlying25 hf
  match cs, hsz with
  | [v0, v1, v2, v3, v4, v5, v6, v7, v8, v9, v10, v11, v12], _ =>
    obtain ⟨x0, hx0⟩ : ∃ x, ys[0]? = some x := ⟨_, List.getElem?_eq_getElem (by simp [hyl])⟩
    have g0 : DataW.trod enc' Try.prog W 0 (fun _ => true) true n 3 [v0] = some x0 := (hfs 0 _ rfl).trans hx0
    obtain ⟨id, e0, _, _⟩ := DataW.trod_int Try.underlying3 g0
    simp only [List.cons.injEq, and_true] at e0
    subst e0
    obtain ⟨x1, hx1⟩ : ∃ x, ys[1]? = some x := ⟨_, List.getElem?_eq_getElem (by simp [hyl])⟩
    have g1 : DataW.trod enc' Try.prog W 0 (fun _ => true) true n 3 [v1] = some x1 := (hfs 1 _ rfl).trans hx1
    obtain ⟨nodes, e1, _, _⟩ := DataW.trod_int Try.underlying3 g1
    simp only [List.cons.injEq, and_true] at e1
    subst e1
    obtain ⟨x2, hx2⟩ : ∃ x, ys[2]? = some x := ⟨_, List.getElem?_eq_getElem (by simp [hyl])⟩
    have g2 : DataW.trod enc' Try.prog W 0 (fun _ => true) true n 3 [v2] = some x2 := (hfs 2 _ rfl).trans hx2
    obtain ⟨term, e2, _, _⟩ := DataW.trod_int Try.underlying3 g2
    simp only [List.cons.injEq, and_true] at e2
    subst e2
    obtain ⟨x3, hx3⟩ : ∃ x, ys[3]? = some x := ⟨_, List.getElem?_eq_getElem (by simp [hyl])⟩
    have g3 : DataW.trod enc' Try.prog W 0 (fun _ => true) true n 3 [v3] = some x3 := (hfs 3 _ rfl).trans hx3
    obtain ⟨vote, e3, _, _⟩ := DataW.trod_int Try.underlying3 g3
    simp only [List.cons.injEq, and_true] at e3
    subst e3
    obtain ⟨x4, hx4⟩ : ∃ x, ys[4]? = some x := ⟨_, List.getElem?_eq_getElem (by simp [hyl])⟩
    have g4 : DataW.trod enc' Try.prog W 0 (fun _ => true) true n 3 [v4] = some x4 := (hfs 4 _ rfl).trans hx4
    obtain ⟨role, e4, _, _⟩ := DataW.trod_int Try.underlying3 g4
    simp only [List.cons.injEq, and_true] at e4
    subst e4
    obtain ⟨x5, hx5⟩ : ∃ x, ys[5]? = some x := ⟨_, List.getElem?_eq_getElem (by simp [hyl])⟩
    have g5 : DataW.trod enc' Try.prog W 0 (fun _ => true) true n 4 [v5] = some x5 := (hfs 5 _ rfl).trans hx5
    obtain ⟨up, e5, _⟩ := DataW.trod_bool Try.underlying4 g5
    simp only [List.cons.injEq, and_true] at e5
    subst e5
    obtain ⟨x6, hx6⟩ : ∃ x, ys[6]? = some x := ⟨_, List.getElem?_eq_getElem (by simp [hyl])⟩
    have g6 : DataW.trod enc' Try.prog W 0 (fun _ => true) true n 22 [v6] = some x6 := (hfs 6 _ rfl).trans hx6
    obtain ⟨alog, clog, log, e6, q6a, q6b, q6c⟩ := open_entSlc g6
    simp only [List.cons.injEq, and_true] at e6
    subst e6
    obtain ⟨x7, hx7⟩ : ∃ x, ys[7]? = some x := ⟨_, List.getElem?_eq_getElem (by simp [hyl])⟩
    have g7 : DataW.trod enc' Try.prog W 0 (fun _ => true) true n 3 [v7] = some x7 := (hfs 7 _ rfl).trans hx7
    obtain ⟨commit, e7, _, _⟩ := DataW.trod_int Try.underlying3 g7
    simp only [List.cons.injEq, and_true] at e7
    subst e7
    obtain ⟨x8, hx8⟩ : ∃ x, ys[8]? = some x := ⟨_, List.getElem?_eq_getElem (by simp [hyl])⟩
    have g8 : DataW.trod enc' Try.prog W 0 (fun _ => true) true n 3 [v8] = some x8 := (hfs 8 _ rfl).trans hx8
    obtain ⟨elapsed, e8, _, _⟩ := DataW.trod_int Try.underlying3 g8
    simp only [List.cons.injEq, and_true] at e8
    subst e8
    obtain ⟨x9, hx9⟩ : ∃ x, ys[9]? = some x := ⟨_, List.getElem?_eq_getElem (by simp [hyl])⟩
    have g9 : DataW.trod enc' Try.prog W 0 (fun _ => true) true n 3 [v9] = some x9 := (hfs 9 _ rfl).trans hx9
    obtain ⟨wait, e9, _, _⟩ := DataW.trod_int Try.underlying3 g9
    simp only [List.cons.injEq, and_true] at e9
    subst e9
    obtain ⟨x10, hx10⟩ : ∃ x, ys[10]? = some x := ⟨_, List.getElem?_eq_getElem (by simp [hyl])⟩
    have g10 : DataW.trod enc' Try.prog W 0 (fun _ => true) true n 23 [v10] = some x10 := (hfs 10 _ rfl).trans hx10
    obtain ⟨avotes, cvotes, votes, e10, q10a, q10b, q10c⟩ := open_intSlc g10
    simp only [List.cons.injEq, and_true] at e10
    subst e10
    obtain ⟨x11, hx11⟩ : ∃ x, ys[11]? = some x := ⟨_, List.getElem?_eq_getElem (by simp [hyl])⟩
    have g11 : DataW.trod enc' Try.prog W 0 (fun _ => true) true n 23 [v11] = some x11 := (hfs 11 _ rfl).trans hx11
    obtain ⟨anext, cnext, next, e11, q11a, q11b, q11c⟩ := open_intSlc g11
    simp only [List.cons.injEq, and_true] at e11
    subst e11
    obtain ⟨x12, hx12⟩ : ∃ x, ys[12]? = some x := ⟨_, List.getElem?_eq_getElem (by simp [hyl])⟩
    have g12 : DataW.trod enc' Try.prog W 0 (fun _ => true) true n 23 [v12] = some x12 := (hfs 12 _ rfl).trans hx12
    obtain ⟨amtch, cmtch, mtch, e12, q12a, q12b, q12c⟩ := open_intSlc g12
    simp only [List.cons.injEq, and_true] at e12
    subst e12
    exact ⟨id, nodes, term, vote, role, up, alog, clog, log, commit, elapsed, wait, avotes, cvotes, votes, anext, cnext, next, amtch, cmtch, mtch, rfl, q6a, q6b, q6c, q10a, q10c, q11a, q11c, q12a, q12c⟩
end Go.Proofs.Ytcakldgbhjkkfaa
