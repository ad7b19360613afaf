/- Opening the arguments of the laws on clusters. -/
import Derived.Test.YtckaccadgbcohaaFrame
import Derived.Test.YtckaccadgbcohaaCluX
namespace Go.Proofs.Ytckaccadgbcohaa
set_option linter.unusedVariables false
set_option linter.unusedSimpArgs false
section
open Go.ChangeShapes Go.WideShapes Go.ChangeAt Go.RowKit
set_option maxRecDepth 100000 in
theorem open_slcC {H : Type} {enc' : TypeId × Value → H} {α : Type} {enc : α → List Value} {sz : Nat} {Q : α → Prop} {W : World} {fuel : Nat} {t e : TypeId} {cs : List Value} {x : DataW H × List MemPlace}
    (ht : Try.prog.underlying t = some (.slice e)) (hc : Try.prog.cellsOf e = sz) (hsz : 0 < sz)
    (hel : ∀ (n : Nat) (cs : List Value) (x : DataW H × List MemPlace), DataW.trod enc' Try.prog W 0 (fun _ => true) true n e cs = some x → ∃ y : α, cs = enc y ∧ Q y)
    (hf : DataW.trod enc' Try.prog W 0 (fun _ => true) true fuel t cs = some x) :
    ∃ (a : Option Addr) (cap : Nat) (xs : List α), cs = [.slice a xs.length cap] ∧ xs.length ≤ 9223372036854775807 ∧ xs.length ≤ cap ∧ (∀ x ∈ xs, Q x) ∧ Sl enc sz W a xs := by
  rcases Deep.open_slice ht hf with ⟨hcs, _⟩ | ⟨a, len, cap, m, n, D, Pl, hcs, _, hl, _, _, _, _⟩
  · subst hcs
    exact ⟨none, 0, [], rfl, by simp, Nat.le_refl _, by simp, .inl rfl⟩
  · obtain ⟨a', c', xs, he, h1, h2, h3⟩ := open_slc (enc := enc) ht hc hsz hel hf
    refine ⟨a', c', xs, he, h1, ?_, h2, h3⟩
    rw [hcs] at he
    simp only [List.cons.injEq, Value.slice.injEq, and_true] at he
    omega
set_option maxRecDepth 100000 in
theorem slcC_int {H : Type} {enc' : TypeId × Value → H} {W : World} {fuel : Nat} {cs : List Value} {x : DataW H × List MemPlace} (h : DataW.trod enc' Try.prog W 0 (fun _ => true) true fuel 52 cs = some x) :
    ∃ (a : Option Addr) (cap : Nat) (xs : List (Int)), cs = [.slice a xs.length cap] ∧ xs.length ≤ 9223372036854775807 ∧ xs.length ≤ cap ∧ (∀ s ∈ xs, (fun _ : Int => True) s) ∧ Sl intE 1 W a xs :=
  open_slcC Try.underlying52 (by kernel_rfl) (by decide) (fun n cs x hx => by
    obtain ⟨s, rfl, _, hs⟩ := DataW.trod_int Try.underlying3 hx
    exact ⟨s, rfl, trivial⟩) h
set_option maxRecDepth 100000 in
theorem slcC_string {H : Type} {enc' : TypeId × Value → H} {W : World} {fuel : Nat} {cs : List Value} {x : DataW H × List MemPlace} (h : DataW.trod enc' Try.prog W 0 (fun _ => true) true fuel 25 cs = some x) :
    ∃ (a : Option Addr) (cap : Nat) (xs : List (ByteArray)), cs = [.slice a xs.length cap] ∧ xs.length ≤ 9223372036854775807 ∧ xs.length ≤ cap ∧ (∀ s ∈ xs, (fun s : ByteArray => s.size ≤ 9223372036854775807) s) ∧ Sl strE 1 W a xs :=
  open_slcC Try.underlying25 (by kernel_rfl) (by decide) (fun n cs x hx => by
    obtain ⟨s, rfl, _, hs⟩ := DataW.trod_string Try.underlying9 hx
    exact ⟨s, rfl, by unfold maxLen at hs; omega⟩) h
set_option maxRecDepth 100000 in
theorem slcC_Entry {H : Type} {enc' : TypeId × Value → H} {W : World} {fuel : Nat} {cs : List Value} {x : DataW H × List MemPlace} (h : DataW.trod enc' Try.prog W 0 (fun _ => true) true fuel 86 cs = some x) :
    ∃ (a : Option Addr) (cap : Nat) (xs : List (Int × ByteArray)), cs = [.slice a xs.length cap] ∧ xs.length ≤ 9223372036854775807 ∧ xs.length ≤ cap ∧ (∀ s ∈ xs, (fun y : Int × ByteArray => y.2.size ≤ 9223372036854775807) s) ∧ Sl entE 2 W a xs :=
  open_slcC Try.underlying86 (by kernel_rfl) (by decide) trod_entry h
set_option maxRecDepth 100000 in
theorem trod_node {H : Type} {enc' : TypeId × Value → H} {W : World} (n : Nat) (cs : List Value) (x : DataW H × List MemPlace) (hx : DataW.trod enc' Try.prog W 0 (fun _ => true) true n 88 cs = some x) : ∃ y : NodeA, cs = nodeE y ∧ (NodeSz y.N 9223372036854775807 ∧ y.ok W) := by
  obtain ⟨ys, k, _, _, hlen, hyl, hfs⟩ := DataW.trod_struct Try.underlying88 hx
  rw [show Try.prog.cellsOf 88 = 13 from by kernel_rfl] at hlen
  match cs, hlen with
  | [v0, v1, v2, v3, v4, v5, v6, v7, v8, v9, v10, v11, v12], _ =>
    obtain ⟨x0, hx0⟩ : ∃ x, ys[0]? = some x := ⟨_, List.getElem?_eq_getElem (by simp [hyl])⟩
    have g0 : DataW.trod enc' Try.prog W 0 (fun _ => true) true k 3 [v0] = some x0 := (hfs 0 _ rfl).trans hx0
    obtain ⟨id, e0, _, _⟩ := DataW.trod_int Try.underlying3 g0
    simp only [List.cons.injEq, and_true] at e0
    subst e0
    obtain ⟨x1, hx1⟩ : ∃ x, ys[1]? = some x := ⟨_, List.getElem?_eq_getElem (by simp [hyl])⟩
    have g1 : DataW.trod enc' Try.prog W 0 (fun _ => true) true k 3 [v1] = some x1 := (hfs 1 _ rfl).trans hx1
    obtain ⟨nodes, e1, _, _⟩ := DataW.trod_int Try.underlying3 g1
    simp only [List.cons.injEq, and_true] at e1
    subst e1
    obtain ⟨x2, hx2⟩ : ∃ x, ys[2]? = some x := ⟨_, List.getElem?_eq_getElem (by simp [hyl])⟩
    have g2 : DataW.trod enc' Try.prog W 0 (fun _ => true) true k 3 [v2] = some x2 := (hfs 2 _ rfl).trans hx2
    obtain ⟨term, e2, _, _⟩ := DataW.trod_int Try.underlying3 g2
    simp only [List.cons.injEq, and_true] at e2
    subst e2
    obtain ⟨x3, hx3⟩ : ∃ x, ys[3]? = some x := ⟨_, List.getElem?_eq_getElem (by simp [hyl])⟩
    have g3 : DataW.trod enc' Try.prog W 0 (fun _ => true) true k 3 [v3] = some x3 := (hfs 3 _ rfl).trans hx3
    obtain ⟨vote, e3, _, _⟩ := DataW.trod_int Try.underlying3 g3
    simp only [List.cons.injEq, and_true] at e3
    subst e3
    obtain ⟨x4, hx4⟩ : ∃ x, ys[4]? = some x := ⟨_, List.getElem?_eq_getElem (by simp [hyl])⟩
    have g4 : DataW.trod enc' Try.prog W 0 (fun _ => true) true k 3 [v4] = some x4 := (hfs 4 _ rfl).trans hx4
    obtain ⟨role, e4, _, _⟩ := DataW.trod_int Try.underlying3 g4
    simp only [List.cons.injEq, and_true] at e4
    subst e4
    obtain ⟨x5, hx5⟩ : ∃ x, ys[5]? = some x := ⟨_, List.getElem?_eq_getElem (by simp [hyl])⟩
    have g5 : DataW.trod enc' Try.prog W 0 (fun _ => true) true k 4 [v5] = some x5 := (hfs 5 _ rfl).trans hx5
    obtain ⟨up, e5, _⟩ := DataW.trod_bool Try.underlying4 g5
    simp only [List.cons.injEq, and_true] at e5
    subst e5
    obtain ⟨x6, hx6⟩ : ∃ x, ys[6]? = some x := ⟨_, List.getElem?_eq_getElem (by simp [hyl])⟩
    have g6 : DataW.trod enc' Try.prog W 0 (fun _ => true) true k 86 [v6] = some x6 := (hfs 6 _ rfl).trans hx6
    obtain ⟨alog, clog, log, e6, q6a, q6c, q6b, q6s⟩ := slcC_Entry g6
    simp only [List.cons.injEq, and_true] at e6
    subst e6
    obtain ⟨x7, hx7⟩ : ∃ x, ys[7]? = some x := ⟨_, List.getElem?_eq_getElem (by simp [hyl])⟩
    have g7 : DataW.trod enc' Try.prog W 0 (fun _ => true) true k 3 [v7] = some x7 := (hfs 7 _ rfl).trans hx7
    obtain ⟨commit, e7, _, _⟩ := DataW.trod_int Try.underlying3 g7
    simp only [List.cons.injEq, and_true] at e7
    subst e7
    obtain ⟨x8, hx8⟩ : ∃ x, ys[8]? = some x := ⟨_, List.getElem?_eq_getElem (by simp [hyl])⟩
    have g8 : DataW.trod enc' Try.prog W 0 (fun _ => true) true k 3 [v8] = some x8 := (hfs 8 _ rfl).trans hx8
    obtain ⟨elapsed, e8, _, _⟩ := DataW.trod_int Try.underlying3 g8
    simp only [List.cons.injEq, and_true] at e8
    subst e8
    obtain ⟨x9, hx9⟩ : ∃ x, ys[9]? = some x := ⟨_, List.getElem?_eq_getElem (by simp [hyl])⟩
    have g9 : DataW.trod enc' Try.prog W 0 (fun _ => true) true k 3 [v9] = some x9 := (hfs 9 _ rfl).trans hx9
    obtain ⟨wait, e9, _, _⟩ := DataW.trod_int Try.underlying3 g9
    simp only [List.cons.injEq, and_true] at e9
    subst e9
    obtain ⟨x10, hx10⟩ : ∃ x, ys[10]? = some x := ⟨_, List.getElem?_eq_getElem (by simp [hyl])⟩
    have g10 : DataW.trod enc' Try.prog W 0 (fun _ => true) true k 52 [v10] = some x10 := (hfs 10 _ rfl).trans hx10
    obtain ⟨avotes, cvotes, votes, e10, q10a, q10c, q10b, q10s⟩ := slcC_int g10
    simp only [List.cons.injEq, and_true] at e10
    subst e10
    obtain ⟨x11, hx11⟩ : ∃ x, ys[11]? = some x := ⟨_, List.getElem?_eq_getElem (by simp [hyl])⟩
    have g11 : DataW.trod enc' Try.prog W 0 (fun _ => true) true k 52 [v11] = some x11 := (hfs 11 _ rfl).trans hx11
    obtain ⟨anext, cnext, next, e11, q11a, q11c, q11b, q11s⟩ := slcC_int g11
    simp only [List.cons.injEq, and_true] at e11
    subst e11
    obtain ⟨x12, hx12⟩ : ∃ x, ys[12]? = some x := ⟨_, List.getElem?_eq_getElem (by simp [hyl])⟩
    have g12 : DataW.trod enc' Try.prog W 0 (fun _ => true) true k 52 [v12] = some x12 := (hfs 12 _ rfl).trans hx12
    obtain ⟨amtch, cmtch, mtch, e12, q12a, q12c, q12b, q12s⟩ := slcC_int g12
    simp only [List.cons.injEq, and_true] at e12
    subst e12
    exact ⟨⟨⟨id, nodes, term, vote, role, up, log, commit, elapsed, wait, votes, next, mtch⟩, alog, clog, avotes, cvotes, anext, cnext, amtch, cmtch⟩, rfl, ⟨q6a, q6b, q10a, q11a, q12a⟩, ⟨q6s, q10s, q11s, q12s⟩, q6c⟩
set_option maxRecDepth 100000 in
theorem trod_msg {H : Type} {enc' : TypeId × Value → H} {W : World} (n : Nat) (cs : List Value) (x : DataW H × List MemPlace) (hx : DataW.trod enc' Try.prog W 0 (fun _ => true) true n 93 cs = some x) : ∃ y : MsgA, cs = msgE y ∧ (MsgSz y.M 9223372036854775807 ∧ y.okM W) := by
  obtain ⟨ys, k, _, _, hlen, hyl, hfs⟩ := DataW.trod_struct Try.underlying93 hx
  rw [show Try.prog.cellsOf 93 = 9 from by kernel_rfl] at hlen
  match cs, hlen with
  | [v0, v1, v2, v3, v4, v5, v6, v7, v8], _ =>
    obtain ⟨x0, hx0⟩ : ∃ x, ys[0]? = some x := ⟨_, List.getElem?_eq_getElem (by simp [hyl])⟩
    have g0 : DataW.trod enc' Try.prog W 0 (fun _ => true) true k 3 [v0] = some x0 := (hfs 0 _ rfl).trans hx0
    obtain ⟨kind, e0, _, _⟩ := DataW.trod_int Try.underlying3 g0
    simp only [List.cons.injEq, and_true] at e0
    subst e0
    obtain ⟨x1, hx1⟩ : ∃ x, ys[1]? = some x := ⟨_, List.getElem?_eq_getElem (by simp [hyl])⟩
    have g1 : DataW.trod enc' Try.prog W 0 (fun _ => true) true k 3 [v1] = some x1 := (hfs 1 _ rfl).trans hx1
    obtain ⟨src, e1, _, _⟩ := DataW.trod_int Try.underlying3 g1
    simp only [List.cons.injEq, and_true] at e1
    subst e1
    obtain ⟨x2, hx2⟩ : ∃ x, ys[2]? = some x := ⟨_, List.getElem?_eq_getElem (by simp [hyl])⟩
    have g2 : DataW.trod enc' Try.prog W 0 (fun _ => true) true k 3 [v2] = some x2 := (hfs 2 _ rfl).trans hx2
    obtain ⟨dst, e2, _, _⟩ := DataW.trod_int Try.underlying3 g2
    simp only [List.cons.injEq, and_true] at e2
    subst e2
    obtain ⟨x3, hx3⟩ : ∃ x, ys[3]? = some x := ⟨_, List.getElem?_eq_getElem (by simp [hyl])⟩
    have g3 : DataW.trod enc' Try.prog W 0 (fun _ => true) true k 3 [v3] = some x3 := (hfs 3 _ rfl).trans hx3
    obtain ⟨term, e3, _, _⟩ := DataW.trod_int Try.underlying3 g3
    simp only [List.cons.injEq, and_true] at e3
    subst e3
    obtain ⟨x4, hx4⟩ : ∃ x, ys[4]? = some x := ⟨_, List.getElem?_eq_getElem (by simp [hyl])⟩
    have g4 : DataW.trod enc' Try.prog W 0 (fun _ => true) true k 3 [v4] = some x4 := (hfs 4 _ rfl).trans hx4
    obtain ⟨index, e4, _, _⟩ := DataW.trod_int Try.underlying3 g4
    simp only [List.cons.injEq, and_true] at e4
    subst e4
    obtain ⟨x5, hx5⟩ : ∃ x, ys[5]? = some x := ⟨_, List.getElem?_eq_getElem (by simp [hyl])⟩
    have g5 : DataW.trod enc' Try.prog W 0 (fun _ => true) true k 3 [v5] = some x5 := (hfs 5 _ rfl).trans hx5
    obtain ⟨lterm, e5, _, _⟩ := DataW.trod_int Try.underlying3 g5
    simp only [List.cons.injEq, and_true] at e5
    subst e5
    obtain ⟨x6, hx6⟩ : ∃ x, ys[6]? = some x := ⟨_, List.getElem?_eq_getElem (by simp [hyl])⟩
    have g6 : DataW.trod enc' Try.prog W 0 (fun _ => true) true k 3 [v6] = some x6 := (hfs 6 _ rfl).trans hx6
    obtain ⟨commit, e6, _, _⟩ := DataW.trod_int Try.underlying3 g6
    simp only [List.cons.injEq, and_true] at e6
    subst e6
    obtain ⟨x7, hx7⟩ : ∃ x, ys[7]? = some x := ⟨_, List.getElem?_eq_getElem (by simp [hyl])⟩
    have g7 : DataW.trod enc' Try.prog W 0 (fun _ => true) true k 4 [v7] = some x7 := (hfs 7 _ rfl).trans hx7
    obtain ⟨ok, e7, _⟩ := DataW.trod_bool Try.underlying4 g7
    simp only [List.cons.injEq, and_true] at e7
    subst e7
    obtain ⟨x8, hx8⟩ : ∃ x, ys[8]? = some x := ⟨_, List.getElem?_eq_getElem (by simp [hyl])⟩
    have g8 : DataW.trod enc' Try.prog W 0 (fun _ => true) true k 86 [v8] = some x8 := (hfs 8 _ rfl).trans hx8
    obtain ⟨aents, cents, ents, e8, q8a, q8c, q8b, q8s⟩ := slcC_Entry g8
    simp only [List.cons.injEq, and_true] at e8
    subst e8
    exact ⟨⟨⟨kind, src, dst, term, index, lterm, commit, ok, ents⟩, aents, cents⟩, rfl, ⟨q8a, q8b⟩, q8s⟩
set_option maxRecDepth 100000 in
theorem trod_sto {H : Type} {enc' : TypeId × Value → H} {W : World} (n : Nat) (cs : List Value) (x : DataW H × List MemPlace) (hx : DataW.trod enc' Try.prog W 0 (fun _ => true) true n 90 cs = some x) : ∃ y : Sto, cs = stoE y ∧ y.1.size ≤ 9223372036854775807 := by
  obtain ⟨ys, k, _, _, hlen, hyl, hfs⟩ := DataW.trod_struct Try.underlying90 hx
  rw [show Try.prog.cellsOf 90 = 2 from by kernel_rfl] at hlen
  match cs, hlen with
  | [v0, v1], _ =>
    obtain ⟨x0, hx0⟩ : ∃ x, ys[0]? = some x := ⟨_, List.getElem?_eq_getElem (by simp [hyl])⟩
    have g0 : DataW.trod enc' Try.prog W 0 (fun _ => true) true k 9 [v0] = some x0 := (hfs 0 _ rfl).trans hx0
    obtain ⟨data, e0, _, q0⟩ := DataW.trod_string Try.underlying9 g0
    simp only [List.cons.injEq, and_true] at e0
    subst e0
    obtain ⟨x1, hx1⟩ : ∃ x, ys[1]? = some x := ⟨_, List.getElem?_eq_getElem (by simp [hyl])⟩
    have g1 : DataW.trod enc' Try.prog W 0 (fun _ => true) true k 3 [v1] = some x1 := (hfs 1 _ rfl).trans hx1
    obtain ⟨sure, e1, _, _⟩ := DataW.trod_int Try.underlying3 g1
    simp only [List.cons.injEq, and_true] at e1
    subst e1
    exact ⟨(data, sure), rfl, by unfold maxLen at q0; omega⟩
set_option maxRecDepth 100000 in
theorem slcC_Node {H : Type} {enc' : TypeId × Value → H} {W : World} {fuel : Nat} {cs : List Value} {x : DataW H × List MemPlace} (h : DataW.trod enc' Try.prog W 0 (fun _ => true) true fuel 22 cs = some x) :
    ∃ (a : Option Addr) (cap : Nat) (xs : List (NodeA)), cs = [.slice a xs.length cap] ∧ xs.length ≤ 9223372036854775807 ∧ xs.length ≤ cap ∧ (∀ s ∈ xs, (fun r : NodeA => NodeSz r.N 9223372036854775807 ∧ r.ok W) s) ∧ Sl nodeE 13 W a xs :=
  open_slcC Try.underlying22 (by kernel_rfl) (by decide) trod_node h
set_option maxRecDepth 100000 in
theorem slcC_Store {H : Type} {enc' : TypeId × Value → H} {W : World} {fuel : Nat} {cs : List Value} {x : DataW H × List MemPlace} (h : DataW.trod enc' Try.prog W 0 (fun _ => true) true fuel 23 cs = some x) :
    ∃ (a : Option Addr) (cap : Nat) (xs : List (Sto)), cs = [.slice a xs.length cap] ∧ xs.length ≤ 9223372036854775807 ∧ xs.length ≤ cap ∧ (∀ s ∈ xs, (fun s : Sto => s.1.size ≤ 9223372036854775807) s) ∧ Sl stoE 2 W a xs :=
  open_slcC Try.underlying23 (by kernel_rfl) (by decide) trod_sto h
set_option maxRecDepth 100000 in
theorem slcC_Message {H : Type} {enc' : TypeId × Value → H} {W : World} {fuel : Nat} {cs : List Value} {x : DataW H × List MemPlace} (h : DataW.trod enc' Try.prog W 0 (fun _ => true) true fuel 24 cs = some x) :
    ∃ (a : Option Addr) (cap : Nat) (xs : List (MsgA)), cs = [.slice a xs.length cap] ∧ xs.length ≤ 9223372036854775807 ∧ xs.length ≤ cap ∧ (∀ s ∈ xs, (fun r : MsgA => MsgSz r.M 9223372036854775807 ∧ r.okM W) s) ∧ Sl msgE 9 W a xs :=
  open_slcC Try.underlying24 (by kernel_rfl) (by decide) trod_msg h
set_option maxRecDepth 100000 in
theorem openCluster {H : Type} {enc' : TypeId × Value → H} {W : World} {base : Nat} {vv : Value} {d0 : DataW H} {p : List MemPlace} (hv : Value.okWide Try.prog W .any base 27 vv)
    (h : DataW.Trod enc' Try.prog W 0 (fun _ => true) true 27 vv d0 p) : ∃ C : CluA, vv = .agg #[.slice C.an C.nodes.length C.cn, .slice C.ast C.stores.length C.cst, .slice C.aw C.wire.length C.cw, .slice C.ad C.done.length C.cd] ∧ CluOK W C ∧ CluSz C 9223372036854775807 := by
  obtain ⟨cs, rfl, hsz⟩ := okWide_struct Try.underlying27 hv
  rw [show Try.prog.cellsOf 27 = 4 from by kernel_rfl] at hsz
  obtain ⟨fuel, hf⟩ := h
  obtain ⟨cs⟩ := cs
  obtain ⟨ys, k, _, _, _, hyl, hfs⟩ := DataW.trod_struct Try.underlying27 hf
  match cs, hsz with
  | [v0, v1, v2, v3], _ =>
    obtain ⟨x0, hx0⟩ : ∃ x, ys[0]? = some x := ⟨_, List.getElem?_eq_getElem (by simp [hyl])⟩
    have g0 : DataW.trod enc' Try.prog W 0 (fun _ => true) true k 22 [v0] = some x0 := (hfs 0 _ rfl).trans hx0
    obtain ⟨an, cn, n, e0, q0a, q0c, q0b, q0s⟩ := slcC_Node g0
    simp only [List.cons.injEq, and_true] at e0
    subst e0
    obtain ⟨x1, hx1⟩ : ∃ x, ys[1]? = some x := ⟨_, List.getElem?_eq_getElem (by simp [hyl])⟩
    have g1 : DataW.trod enc' Try.prog W 0 (fun _ => true) true k 23 [v1] = some x1 := (hfs 1 _ rfl).trans hx1
    obtain ⟨ast, cst, st, e1, q1a, q1c, q1b, q1s⟩ := slcC_Store g1
    simp only [List.cons.injEq, and_true] at e1
    subst e1
    obtain ⟨x2, hx2⟩ : ∃ x, ys[2]? = some x := ⟨_, List.getElem?_eq_getElem (by simp [hyl])⟩
    have g2 : DataW.trod enc' Try.prog W 0 (fun _ => true) true k 24 [v2] = some x2 := (hfs 2 _ rfl).trans hx2
    obtain ⟨am, cm, m, e2, q2a, q2c, q2b, q2s⟩ := slcC_Message g2
    simp only [List.cons.injEq, and_true] at e2
    subst e2
    obtain ⟨x3, hx3⟩ : ∃ x, ys[3]? = some x := ⟨_, List.getElem?_eq_getElem (by simp [hyl])⟩
    have g3 : DataW.trod enc' Try.prog W 0 (fun _ => true) true k 25 [v3] = some x3 := (hfs 3 _ rfl).trans hx3
    obtain ⟨ad, cd, d, e3, q3a, q3c, q3b, q3s⟩ := slcC_string g3
    simp only [List.cons.injEq, and_true] at e3
    subst e3
    exact ⟨⟨n, an, cn, st, ast, cst, m, am, cm, d, ad, cd⟩, rfl, ⟨⟨q0s, fun r hr => (q0b r hr).2⟩, q1s, ⟨q2s, fun r hr => (q2b r hr).2⟩, q3s⟩, ⟨q0a, fun r hr => (q0b r hr).1, q1a, q1b, q2a, fun r hr => (q2b r hr).1, q3a, q3b⟩⟩
end
end Go.Proofs.Ytckaccadgbcohaa
