/- Clusters: rows with slices in them. Plain definitions and lemmas. -/
import Derived.Test.YtcakldgbhjkkfaaNode
namespace Go.Proofs.Ytcakldgbhjkkfaa
set_option linter.unusedVariables false
set_option linter.unusedSimpArgs false
open Go.RowKit
/-- Cells set one behind the other. -/
def setRow : List Value → Nat → List Value → List Value
  | l, _, [] => l
  | l, p, v :: vs => setRow (l.set p v) (p + 1) vs
theorem setRow_mid (V Y : List Value) (h : V.length = Y.length) : ∀ (P Q : List Value), setRow (P ++ (Y ++ Q)) P.length V = P ++ (V ++ Q) := by
  induction V generalizing Y with
  | nil =>
    intro P Q
    have : Y = [] := List.length_eq_zero_iff.1 h.symm
    subst this
    rfl
  | cons v V ih =>
    intro P Q
    match Y, h with
    | y :: Y, h =>
      have e1 : (P ++ (y :: Y ++ Q)).set P.length v = (P ++ [v]) ++ (Y ++ Q) := by simp
      show setRow ((P ++ (y :: Y ++ Q)).set P.length v) (P.length + 1) V = _
      rw [e1]
      have := ih Y (by simpa using h) (P ++ [v]) Q
      rw [show (P ++ [v]).length = P.length + 1 by simp] at this
      rw [this]
      simp
theorem flat_setR {α : Type} (enc : α → List Value) (sz : Nat) (hs : ∀ x, (enc x).length = sz) (L : List α) (k : Nat) (hk : k < L.length) (x : α) : setRow (L.flatMap enc) (k * sz) (enc x) = (L.set k x).flatMap enc := by
  have h1 : L = L.take k ++ (L[k] :: L.drop (k + 1)) := by rw [← List.drop_eq_getElem_cons hk, List.take_append_drop]
  have h2 : L.set k x = L.take k ++ (x :: L.drop (k + 1)) := by rw [List.set_eq_take_append_cons_drop, if_pos hk]
  have h3 : ((L.take k).flatMap enc).length = k * sz := by rw [flat_length enc sz hs, List.length_take, Nat.min_eq_left (Nat.le_of_lt hk)]
  rw [h2]
  conv => lhs; rw [h1]
  simp only [List.flatMap_append, List.flatMap_cons]
  rw [← h3]
  exact setRow_mid (enc x) (enc L[k]) (by rw [hs, hs]) _ _
theorem app_set {α : Type} (L : List α) (n : Nat) (z x : α) (hn : L.length < n) : (L ++ List.replicate (n - L.length) z).set L.length x = (L ++ [x]) ++ List.replicate (n - (L ++ [x]).length) z := by
  rw [List.set_append_right _ _ (Nat.le_refl _), Nat.sub_self]
  have : n - L.length = (n - (L ++ [x]).length) + 1 := by simp; omega
  rw [this, List.replicate_succ]
  simp
/-- A node in memory: its value, and where its four slices lie. -/
structure NodeA where
  N : NodeV
  al : Option Addr
  cl : Nat
  av : Option Addr
  cv : Nat
  an : Option Addr
  cn : Nat
  am : Option Addr
  cm : Nat
def nodeE (r : NodeA) : List Value := [.int .i64 r.N.id, .int .i64 r.N.nodes, .int .i64 r.N.term, .int .i64 r.N.vote, .int .i64 r.N.role, .bool r.N.up, .slice r.al r.N.log.length r.cl, .int .i64 r.N.commit, .int .i64 r.N.elapsed, .int .i64 r.N.wait, .slice r.av r.N.votes.length r.cv, .slice r.an r.N.next.length r.cn, .slice r.am r.N.mtch.length r.cm]
def nodeZ : NodeA := ⟨⟨0, 0, 0, 0, 0, false, [], 0, 0, 0, [], [], []⟩, none, 0, none, 0, none, 0, none, 0⟩
def NodeA.ok (w : World) (r : NodeA) : Prop := NodeSl w r.al r.av r.an r.am r.N ∧ r.N.log.length ≤ r.cl
/-- A slice of nodes, with what lies behind each. -/
def NodeS (w : World) (a : Option Addr) (rs : List NodeA) : Prop := Sl nodeE 13 w a rs ∧ ∀ r ∈ rs, r.ok w
theorem NodeA.ok.keep {w w' : World} {r : NodeA} (h : r.ok w) (hb : Below w.heap.size w w') : r.ok w' := ⟨h.1.keep hb, h.2⟩
theorem NodeS.keep {w w' : World} {a : Option Addr} {rs : List NodeA} (h : NodeS w a rs) (hb : Below w.heap.size w w') : NodeS w' a rs := ⟨h.1.keep hb, fun r hr => (h.2 r hr).keep hb⟩
theorem NodeS.alloc {w : World} {a : Option Addr} {rs : List NodeA} (h : NodeS w a rs) (o : Obj) : NodeS (w.alloc o) a rs := h.keep ((Below.refl _ _).alloc (Nat.le_refl _) _)
theorem NodeS.drew {w : World} {a : Option Addr} {rs : List NodeA} (h : NodeS w a rs) : NodeS w.drew a rs := h.keep ((Below.refl _ _).drew)
/-- A message and where its entries lie. -/
structure MsgV where
  kind : Int
  src : Int
  dst : Int
  term : Int
  index : Int
  lterm : Int
  commit : Int
  ok : Bool
  ents : List Ent
structure MsgA where
  M : MsgV
  ae : Option Addr
  ce : Nat
def msgE (r : MsgA) : List Value := [.int .i64 r.M.kind, .int .i64 r.M.src, .int .i64 r.M.dst, .int .i64 r.M.term, .int .i64 r.M.index, .int .i64 r.M.lterm, .int .i64 r.M.commit, .bool r.M.ok, .slice r.ae r.M.ents.length r.ce]
def msgZ : MsgA := ⟨⟨0, 0, 0, 0, 0, 0, 0, false, []⟩, none, 0⟩
def MsgA.okM (w : World) (r : MsgA) : Prop := Sl entE 2 w r.ae r.M.ents
def MsgS (w : World) (a : Option Addr) (rs : List MsgA) : Prop := Sl msgE 9 w a rs ∧ ∀ r ∈ rs, r.okM w
theorem MsgA.okM.keep {w w' : World} {r : MsgA} (h : r.okM w) (hb : Below w.heap.size w w') : r.okM w' := Sl.keep h hb
theorem MsgS.keep {w w' : World} {a : Option Addr} {rs : List MsgA} (h : MsgS w a rs) (hb : Below w.heap.size w w') : MsgS w' a rs := ⟨h.1.keep hb, fun r hr => (h.2 r hr).keep hb⟩
theorem MsgS.alloc {w : World} {a : Option Addr} {rs : List MsgA} (h : MsgS w a rs) (o : Obj) : MsgS (w.alloc o) a rs := h.keep ((Below.refl _ _).alloc (Nat.le_refl _) _)
theorem MsgS.drew {w : World} {a : Option Addr} {rs : List MsgA} (h : MsgS w a rs) : MsgS w.drew a rs := h.keep ((Below.refl _ _).drew)
/-- A slice that reads as a list, in blocks from B on. -/
def SlFrom {α : Type} (enc : α → List Value) (sz B : Nat) (w : World) (a : Option Addr) (xs : List α) : Prop := Sl enc sz w a xs ∧ ∀ b off, a = some ⟨b, off, none⟩ → B ≤ b
section
variable {α : Type} {enc : α → List Value} {sz B : Nat} {w w' : World} {a : Option Addr} {xs : List α}
theorem SlFrom.keep (h : SlFrom enc sz B w a xs) (hb : Below w.heap.size w w') : SlFrom enc sz B w' a xs := ⟨h.1.keep hb, h.2⟩
theorem SlFrom.setCell (h : SlFrom enc sz B w a xs) {p : Addr} (hp : p.block < B) (u : Value) : SlFrom enc sz B (w.setCell p u) a xs := ⟨h.1.setCell (fun b off e => by have := h.2 b off e; omega) u, h.2⟩
theorem SlFrom.of_fresh {e : TypeId} {lo hi cap : Nat} (hs : ∀ x, (enc x).length = sz) (h : FreshIn enc e sz lo hi (.slice a xs.length cap) xs w) (hB : B ≤ lo) : SlFrom enc sz B w a xs :=
  ⟨h.sl hs, fun b off e => by
    have hk : Value.ownBlock (.slice a xs.length cap) = some b := by rw [e]; rfl
    have := (h.1.lt hk).1
    omega⟩
end
def NodeA.okF (B : Nat) (w : World) (r : NodeA) : Prop := SlFrom entE 2 B w r.al r.N.log ∧ SlFrom intE 1 B w r.av r.N.votes ∧ SlFrom intE 1 B w r.an r.N.next ∧ SlFrom intE 1 B w r.am r.N.mtch ∧ r.N.log.length ≤ r.cl
section
variable {B : Nat} {w w' : World} {r : NodeA} {m : MsgA}
theorem NodeA.okF.keep (h : r.okF B w) (hb : Below w.heap.size w w') : r.okF B w' := ⟨h.1.keep hb, h.2.1.keep hb, h.2.2.1.keep hb, h.2.2.2.1.keep hb, h.2.2.2.2⟩
theorem NodeA.okF.setCell (h : r.okF B w) {p : Addr} (hp : p.block < B) (u : Value) : r.okF B (w.setCell p u) := ⟨h.1.setCell hp u, h.2.1.setCell hp u, h.2.2.1.setCell hp u, h.2.2.2.1.setCell hp u, h.2.2.2.2⟩
theorem NodeA.okF.ok (h : r.okF B w) : r.ok w := ⟨⟨h.1.1, h.2.1.1, h.2.2.1.1, h.2.2.2.1.1⟩, h.2.2.2.2⟩
def MsgA.okF (B : Nat) (w : World) (m : MsgA) : Prop := SlFrom entE 2 B w m.ae m.M.ents
theorem MsgA.okF.keep (h : m.okF B w) (hb : Below w.heap.size w w') : m.okF B w' := SlFrom.keep h hb
theorem MsgA.okF.setCell (h : m.okF B w) {p : Addr} (hp : p.block < B) (u : Value) : m.okF B (w.setCell p u) := SlFrom.setCell h hp u
theorem MsgA.okF.ok (h : m.okF B w) : m.okM w := h.1
end
theorem fit_of_own {α : Type} {enc : α → List Value} {sz : Nat} {e : TypeId} {lo hi n cap : Nat} {a : Option Addr} {xs : List α} {w : World} (h : FreshIn enc e sz lo hi (.slice a n cap) xs w) : n ≤ cap := by
  obtain ⟨⟨a', cap', e', h1, _⟩, _⟩ := h
  cases e'
  exact h1
theorem own_list {w : World} {base : Nat} {e : TypeId} {size : Nat} {v : Value} {n : Nat} {l l' : List Value} (h : w.ownsRow base e size v n l) (hl : l = l') : w.ownsRow base e size v n l' := hl ▸ h
theorem own_lt {w : World} {base : Nat} {e : TypeId} {size : Nat} {b n c : Nat} {l : List Value} (h : w.ownsRow base e size (.slice (some ⟨b, 0, none⟩) n c) n l) : b < w.heap.size := (h.lt b rfl).2
theorem SlFrom.mono {α : Type} {enc : α → List Value} {sz B B' : Nat} {w : World} {a : Option Addr} {xs : List α} (h : SlFrom enc sz B w a xs) (hB : B' ≤ B) : SlFrom enc sz B' w a xs := ⟨h.1, fun b off e => Nat.le_trans hB (h.2 b off e)⟩
theorem NodeA.okF.mono {B B' : Nat} {w : World} {r : NodeA} (h : r.okF B w) (hB : B' ≤ B) : r.okF B' w := ⟨h.1.mono hB, h.2.1.mono hB, h.2.2.1.mono hB, h.2.2.2.1.mono hB, h.2.2.2.2⟩
theorem MsgA.okF.mono {B B' : Nat} {w : World} {r : MsgA} (h : r.okF B w) (hB : B' ≤ B) : r.okF B' w := SlFrom.mono h hB
/-- Rows with what lies behind them, in blocks from B on. -/
def NodeF (B : Nat) (w : World) (a : Option Addr) (L : List NodeA) : Prop := SlFrom nodeE 13 B w a L ∧ ∀ r ∈ L, r.okF B w
def MsgF (B : Nat) (w : World) (a : Option Addr) (L : List MsgA) : Prop := SlFrom msgE 9 B w a L ∧ ∀ r ∈ L, r.okF B w
section
variable {B : Nat} {w w' : World} {a : Option Addr} {L : List NodeA} {M : List MsgA}
theorem NodeF.keep (h : NodeF B w a L) (hb : Below w.heap.size w w') : NodeF B w' a L := ⟨h.1.keep hb, fun r hr => (h.2 r hr).keep hb⟩
theorem NodeF.setCell (h : NodeF B w a L) {p : Addr} (hp : p.block < B) (u : Value) : NodeF B (w.setCell p u) a L := ⟨h.1.setCell hp u, fun r hr => (h.2 r hr).setCell hp u⟩
theorem NodeF.s (h : NodeF B w a L) : NodeS w a L := ⟨h.1.1, fun r hr => (h.2 r hr).ok⟩
theorem NodeF.mono {B' : Nat} (h : NodeF B w a L) (hB : B' ≤ B) : NodeF B' w a L := ⟨h.1.mono hB, fun r hr => (h.2 r hr).mono hB⟩
theorem MsgF.keep (h : MsgF B w a M) (hb : Below w.heap.size w w') : MsgF B w' a M := ⟨h.1.keep hb, fun r hr => (h.2 r hr).keep hb⟩
theorem MsgF.setCell (h : MsgF B w a M) {p : Addr} (hp : p.block < B) (u : Value) : MsgF B (w.setCell p u) a M := ⟨h.1.setCell hp u, fun r hr => (h.2 r hr).setCell hp u⟩
theorem MsgF.s (h : MsgF B w a M) : MsgS w a M := ⟨h.1.1, fun r hr => (h.2 r hr).ok⟩
theorem MsgF.mono {B' : Nat} (h : MsgF B w a M) (hB : B' ≤ B) : MsgF B' w a M := ⟨h.1.mono hB, fun r hr => (h.2 r hr).mono hB⟩
end
/-- The rows of a copy: rows of the same values in memory of their own. -/
def NodeSR (rs : List NodeA) (w : World) (e : Ending) (w' : World) : Prop :=
  ∃ b L, e = .returned (.slice (some ⟨b, 0, none⟩) (List.length L) (List.length L)) ∧ L.map (·.N) = rs.map (·.N) ∧ NodeF w.heap.size w' (some ⟨b, 0, none⟩) L ∧ Below w.heap.size w w'
def MsgSR (rs : List MsgA) (w : World) (e : Ending) (w' : World) : Prop :=
  ∃ b L, e = .returned (.slice (some ⟨b, 0, none⟩) (List.length L) (List.length L)) ∧ L.map (·.M) = rs.map (·.M) ∧ MsgF w.heap.size w' (some ⟨b, 0, none⟩) L ∧ Below w.heap.size w w'
structure MsgSz (M : MsgV) (B : Nat) : Prop where
  ents : M.ents.length ≤ B
  data : ∀ s ∈ M.ents, s.2.size ≤ B
/-- A store: its data and how many of them are sure. -/
abbrev Sto := ByteArray × Int
def stoE (s : Sto) : List Value := [.string s.1, .int .i64 s.2]
/-- A cluster in memory. -/
structure CluA where
  nodes : List NodeA
  an : Option Addr
  cn : Nat
  stores : List Sto
  ast : Option Addr
  cst : Nat
  wire : List MsgA
  aw : Option Addr
  cw : Nat
  done : List ByteArray
  ad : Option Addr
  cd : Nat
def cluE (C : CluA) : List Value := [.slice C.an C.nodes.length C.cn, .slice C.ast C.stores.length C.cst, .slice C.aw C.wire.length C.cw, .slice C.ad C.done.length C.cd]
structure CluOK (w : World) (C : CluA) : Prop where
  nodes : NodeS w C.an C.nodes
  stores : Sl stoE 2 w C.ast C.stores
  wire : MsgS w C.aw C.wire
  done : Sl strE 1 w C.ad C.done
theorem CluOK.keep {w w' : World} {C : CluA} (h : CluOK w C) (hb : Below w.heap.size w w') : CluOK w' C := ⟨h.nodes.keep hb, h.stores.keep hb, h.wire.keep hb, h.done.keep hb⟩
theorem CluOK.alloc {w : World} {C : CluA} (h : CluOK w C) (o : Obj) : CluOK (w.alloc o) C := h.keep ((Below.refl _ _).alloc (Nat.le_refl _) _)
theorem CluOK.drew {w : World} {C : CluA} (h : CluOK w C) : CluOK w.drew C := h.keep ((Below.refl _ _).drew)
/-- Sizes. -/
structure CluSz (C : CluA) (B : Nat) : Prop where
  nl : C.nodes.length ≤ B
  nodes : ∀ r ∈ C.nodes, NodeSz r.N B
  sl : C.stores.length ≤ B
  stores : ∀ s ∈ C.stores, s.1.size ≤ B
  wl : C.wire.length ≤ B
  wire : ∀ r ∈ C.wire, MsgSz r.M B
  dl : C.done.length ≤ B
  done : ∀ s ∈ C.done, s.size ≤ B
/-- Two clusters of the same value. -/
structure CluSame (C D : CluA) : Prop where
  nodes : C.nodes.map (·.N) = D.nodes.map (·.N)
  stores : C.stores = D.stores
  wire : C.wire.map (·.M) = D.wire.map (·.M)
  done : C.done = D.done
theorem map_len {α β : Type} {f : α → β} {xs ys : List α} (h : xs.map f = ys.map f) : xs.length = ys.length := by
  have := congrArg List.length h
  simpa using this
theorem map_at {α β : Type} {f : α → β} {xs ys : List α} (h : xs.map f = ys.map f) (k : Nat) (h1 : k < xs.length) (h2 : k < ys.length) : f xs[k] = f ys[k] := by
  have e1 : (xs.map f)[k]? = some (f xs[k]) := by simp [h1]
  have e2 : (ys.map f)[k]? = some (f ys[k]) := by simp [h2]
  rw [h, e2] at e1
  exact (Option.some.inj e1).symm
end Go.Proofs.Ytcakldgbhjkkfaa
