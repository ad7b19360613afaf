/- Clusters: rows with slices in them; sizes, copies, comparisons. No conditions but sizes. -/
import Derived.Test.YtckaccadgbcohaaNode
import Derived.Test.YtckaccadgbcohaaNodeOK5
import Derived.Test.YtckaccadgbcohaaStore2
import Derived.BigQuiet
import Derived.StillTailTactics
import Derived.RegionTactic
import Derived.BigRegion
import Derived.Test.YtckaccadgbcohaaApplied
namespace Go.Proofs.Ytckaccadgbcohaa
set_option linter.unusedVariables false
set_option linter.unusedSimpArgs false
section
open Go.RowKit
/-- Cells set one behind the other. -/
def setRow : List Value → Nat → List Value → List Value
  | l, _, [] => l
  | l, p, v :: vs => setRow (l.set p v) (p + 1) vs
theorem setRow_mid (V Y : List Value) (h : V.length = Y.length) : ∀ (P Q : List Value), setRow (P ++ (Y ++ Q)) P.length V = P ++ (V ++ Q) := by
  induction V generalizing Y with
  | nil =>
    intro P Q
    have : Y = [] := List.length_eq_zero_iff.1 h.symm
    subst this
    rfl
  | cons v V ih =>
    intro P Q
    match Y, h with
    | y :: Y, h =>
      have e1 : (P ++ (y :: Y ++ Q)).set P.length v = (P ++ [v]) ++ (Y ++ Q) := by simp
      show setRow ((P ++ (y :: Y ++ Q)).set P.length v) (P.length + 1) V = _
      rw [e1]
      have := ih Y (by simpa using h) (P ++ [v]) Q
      rw [show (P ++ [v]).length = P.length + 1 by simp] at this
      rw [this]
      simp
theorem flat_setR {α : Type} (enc : α → List Value) (sz : Nat) (hs : ∀ x, (enc x).length = sz) (L : List α) (k : Nat) (hk : k < L.length) (x : α) : setRow (L.flatMap enc) (k * sz) (enc x) = (L.set k x).flatMap enc := by
  have h1 : L = L.take k ++ (L[k] :: L.drop (k + 1)) := by rw [← List.drop_eq_getElem_cons hk, List.take_append_drop]
  have h2 : L.set k x = L.take k ++ (x :: L.drop (k + 1)) := by rw [List.set_eq_take_append_cons_drop, if_pos hk]
  have h3 : ((L.take k).flatMap enc).length = k * sz := by rw [flat_length enc sz hs, List.length_take, Nat.min_eq_left (Nat.le_of_lt hk)]
  rw [h2]
  conv => lhs; rw [h1]
  simp only [List.flatMap_append, List.flatMap_cons]
  rw [← h3]
  exact setRow_mid (enc x) (enc L[k]) (by rw [hs, hs]) _ _
theorem app_set {α : Type} (L : List α) (n : Nat) (z x : α) (hn : L.length < n) : (L ++ List.replicate (n - L.length) z).set L.length x = (L ++ [x]) ++ List.replicate (n - (L ++ [x]).length) z := by
  rw [List.set_append_right _ _ (Nat.le_refl _), Nat.sub_self]
  have : n - L.length = (n - (L ++ [x]).length) + 1 := by simp; omega
  rw [this, List.replicate_succ]
  simp
/-- A node in memory: its value, and where its four slices lie. -/
structure NodeA where
  N : NodeV
  al : Option Addr
  cl : Nat
  av : Option Addr
  cv : Nat
  an : Option Addr
  cn : Nat
  am : Option Addr
  cm : Nat
def nodeE (r : NodeA) : List Value := [.int .i64 r.N.id, .int .i64 r.N.nodes, .int .i64 r.N.term, .int .i64 r.N.vote, .int .i64 r.N.role, .bool r.N.up, .slice r.al r.N.log.length r.cl, .int .i64 r.N.commit, .int .i64 r.N.elapsed, .int .i64 r.N.wait, .slice r.av r.N.votes.length r.cv, .slice r.an r.N.next.length r.cn, .slice r.am r.N.mtch.length r.cm]
def nodeZ : NodeA := ⟨⟨0, 0, 0, 0, 0, false, [], 0, 0, 0, [], [], []⟩, none, 0, none, 0, none, 0, none, 0⟩
def NodeA.ok (w : World) (r : NodeA) : Prop := NodeSl w r.al r.av r.an r.am r.N ∧ r.N.log.length ≤ r.cl
/-- A slice of nodes, with what lies behind each. -/
def NodeS (w : World) (a : Option Addr) (rs : List NodeA) : Prop := Sl nodeE 13 w a rs ∧ ∀ r ∈ rs, r.ok w
theorem NodeA.ok.keep {w w' : World} {r : NodeA} (h : r.ok w) (hb : Below w.heap.size w w') : r.ok w' := ⟨h.1.keep hb, h.2⟩
theorem NodeS.keep {w w' : World} {a : Option Addr} {rs : List NodeA} (h : NodeS w a rs) (hb : Below w.heap.size w w') : NodeS w' a rs := ⟨h.1.keep hb, fun r hr => (h.2 r hr).keep hb⟩
theorem NodeS.alloc {w : World} {a : Option Addr} {rs : List NodeA} (h : NodeS w a rs) (o : Obj) : NodeS (w.alloc o) a rs := h.keep ((Below.refl _ _).alloc (Nat.le_refl _) _)
theorem NodeS.drew {w : World} {a : Option Addr} {rs : List NodeA} (h : NodeS w a rs) : NodeS w.drew a rs := h.keep ((Below.refl _ _).drew)
/-- A message and where its entries lie. -/
structure MsgV where
  kind : Int
  src : Int
  dst : Int
  term : Int
  index : Int
  lterm : Int
  commit : Int
  ok : Bool
  ents : List Ent
structure MsgA where
  M : MsgV
  ae : Option Addr
  ce : Nat
def msgE (r : MsgA) : List Value := [.int .i64 r.M.kind, .int .i64 r.M.src, .int .i64 r.M.dst, .int .i64 r.M.term, .int .i64 r.M.index, .int .i64 r.M.lterm, .int .i64 r.M.commit, .bool r.M.ok, .slice r.ae r.M.ents.length r.ce]
def msgZ : MsgA := ⟨⟨0, 0, 0, 0, 0, 0, 0, false, []⟩, none, 0⟩
def MsgA.okM (w : World) (r : MsgA) : Prop := Sl entE 2 w r.ae r.M.ents
def MsgS (w : World) (a : Option Addr) (rs : List MsgA) : Prop := Sl msgE 9 w a rs ∧ ∀ r ∈ rs, r.okM w
theorem MsgA.okM.keep {w w' : World} {r : MsgA} (h : r.okM w) (hb : Below w.heap.size w w') : r.okM w' := Sl.keep h hb
theorem MsgS.keep {w w' : World} {a : Option Addr} {rs : List MsgA} (h : MsgS w a rs) (hb : Below w.heap.size w w') : MsgS w' a rs := ⟨h.1.keep hb, fun r hr => (h.2 r hr).keep hb⟩
theorem MsgS.alloc {w : World} {a : Option Addr} {rs : List MsgA} (h : MsgS w a rs) (o : Obj) : MsgS (w.alloc o) a rs := h.keep ((Below.refl _ _).alloc (Nat.le_refl _) _)
theorem MsgS.drew {w : World} {a : Option Addr} {rs : List MsgA} (h : MsgS w a rs) : MsgS w.drew a rs := h.keep ((Below.refl _ _).drew)
/-- A slice that reads as a list, in blocks from B on. -/
def SlFrom {α : Type} (enc : α → List Value) (sz B : Nat) (w : World) (a : Option Addr) (xs : List α) : Prop := Sl enc sz w a xs ∧ ∀ b off, a = some ⟨b, off, none⟩ → B ≤ b
section
variable {α : Type} {enc : α → List Value} {sz B : Nat} {w w' : World} {a : Option Addr} {xs : List α}
theorem SlFrom.keep (h : SlFrom enc sz B w a xs) (hb : Below w.heap.size w w') : SlFrom enc sz B w' a xs := ⟨h.1.keep hb, h.2⟩
theorem SlFrom.setCell (h : SlFrom enc sz B w a xs) {p : Addr} (hp : p.block < B) (u : Value) : SlFrom enc sz B (w.setCell p u) a xs := ⟨h.1.setCell (fun b off e => by have := h.2 b off e; omega) u, h.2⟩
theorem SlFrom.of_fresh {e : TypeId} {lo hi cap : Nat} (hs : ∀ x, (enc x).length = sz) (h : FreshIn enc e sz lo hi (.slice a xs.length cap) xs w) (hB : B ≤ lo) : SlFrom enc sz B w a xs :=
  ⟨h.sl hs, fun b off e => by
    have hk : Value.ownBlock (.slice a xs.length cap) = some b := by rw [e]; rfl
    have := (h.1.lt hk).1
    omega⟩
end
def NodeA.okF (B : Nat) (w : World) (r : NodeA) : Prop := SlFrom entE 2 B w r.al r.N.log ∧ SlFrom intE 1 B w r.av r.N.votes ∧ SlFrom intE 1 B w r.an r.N.next ∧ SlFrom intE 1 B w r.am r.N.mtch ∧ r.N.log.length ≤ r.cl
section
variable {B : Nat} {w w' : World} {r : NodeA} {m : MsgA}
theorem NodeA.okF.keep (h : r.okF B w) (hb : Below w.heap.size w w') : r.okF B w' := ⟨h.1.keep hb, h.2.1.keep hb, h.2.2.1.keep hb, h.2.2.2.1.keep hb, h.2.2.2.2⟩
theorem NodeA.okF.setCell (h : r.okF B w) {p : Addr} (hp : p.block < B) (u : Value) : r.okF B (w.setCell p u) := ⟨h.1.setCell hp u, h.2.1.setCell hp u, h.2.2.1.setCell hp u, h.2.2.2.1.setCell hp u, h.2.2.2.2⟩
theorem NodeA.okF.ok (h : r.okF B w) : r.ok w := ⟨⟨h.1.1, h.2.1.1, h.2.2.1.1, h.2.2.2.1.1⟩, h.2.2.2.2⟩
def MsgA.okF (B : Nat) (w : World) (m : MsgA) : Prop := SlFrom entE 2 B w m.ae m.M.ents
theorem MsgA.okF.keep (h : m.okF B w) (hb : Below w.heap.size w w') : m.okF B w' := SlFrom.keep h hb
theorem MsgA.okF.setCell (h : m.okF B w) {p : Addr} (hp : p.block < B) (u : Value) : m.okF B (w.setCell p u) := SlFrom.setCell h hp u
theorem MsgA.okF.ok (h : m.okF B w) : m.okM w := h.1
end
theorem fit_of_own {α : Type} {enc : α → List Value} {sz : Nat} {e : TypeId} {lo hi n cap : Nat} {a : Option Addr} {xs : List α} {w : World} (h : FreshIn enc e sz lo hi (.slice a n cap) xs w) : n ≤ cap := by
  obtain ⟨⟨a', cap', e', h1, _⟩, _⟩ := h
  cases e'
  exact h1
theorem own_list {w : World} {base : Nat} {e : TypeId} {size : Nat} {v : Value} {n : Nat} {l l' : List Value} (h : w.ownsRow base e size v n l) (hl : l = l') : w.ownsRow base e size v n l' := hl ▸ h
theorem own_lt {w : World} {base : Nat} {e : TypeId} {size : Nat} {b n c : Nat} {l : List Value} (h : w.ownsRow base e size (.slice (some ⟨b, 0, none⟩) n c) n l) : b < w.heap.size := (h.lt b rfl).2
theorem SlFrom.mono {α : Type} {enc : α → List Value} {sz B B' : Nat} {w : World} {a : Option Addr} {xs : List α} (h : SlFrom enc sz B w a xs) (hB : B' ≤ B) : SlFrom enc sz B' w a xs := ⟨h.1, fun b off e => Nat.le_trans hB (h.2 b off e)⟩
theorem NodeA.okF.mono {B B' : Nat} {w : World} {r : NodeA} (h : r.okF B w) (hB : B' ≤ B) : r.okF B' w := ⟨h.1.mono hB, h.2.1.mono hB, h.2.2.1.mono hB, h.2.2.2.1.mono hB, h.2.2.2.2⟩
theorem MsgA.okF.mono {B B' : Nat} {w : World} {r : MsgA} (h : r.okF B w) (hB : B' ≤ B) : r.okF B' w := SlFrom.mono h hB
/-- Rows with what lies behind them, in blocks from B on. -/
def NodeF (B : Nat) (w : World) (a : Option Addr) (L : List NodeA) : Prop := SlFrom nodeE 13 B w a L ∧ ∀ r ∈ L, r.okF B w
def MsgF (B : Nat) (w : World) (a : Option Addr) (L : List MsgA) : Prop := SlFrom msgE 9 B w a L ∧ ∀ r ∈ L, r.okF B w
section
variable {B : Nat} {w w' : World} {a : Option Addr} {L : List NodeA} {M : List MsgA}
theorem NodeF.keep (h : NodeF B w a L) (hb : Below w.heap.size w w') : NodeF B w' a L := ⟨h.1.keep hb, fun r hr => (h.2 r hr).keep hb⟩
theorem NodeF.setCell (h : NodeF B w a L) {p : Addr} (hp : p.block < B) (u : Value) : NodeF B (w.setCell p u) a L := ⟨h.1.setCell hp u, fun r hr => (h.2 r hr).setCell hp u⟩
theorem NodeF.s (h : NodeF B w a L) : NodeS w a L := ⟨h.1.1, fun r hr => (h.2 r hr).ok⟩
theorem NodeF.mono {B' : Nat} (h : NodeF B w a L) (hB : B' ≤ B) : NodeF B' w a L := ⟨h.1.mono hB, fun r hr => (h.2 r hr).mono hB⟩
theorem MsgF.keep (h : MsgF B w a M) (hb : Below w.heap.size w w') : MsgF B w' a M := ⟨h.1.keep hb, fun r hr => (h.2 r hr).keep hb⟩
theorem MsgF.setCell (h : MsgF B w a M) {p : Addr} (hp : p.block < B) (u : Value) : MsgF B (w.setCell p u) a M := ⟨h.1.setCell hp u, fun r hr => (h.2 r hr).setCell hp u⟩
theorem MsgF.s (h : MsgF B w a M) : MsgS w a M := ⟨h.1.1, fun r hr => (h.2 r hr).ok⟩
theorem MsgF.mono {B' : Nat} (h : MsgF B w a M) (hB : B' ≤ B) : MsgF B' w a M := ⟨h.1.mono hB, fun r hr => (h.2 r hr).mono hB⟩
end
/-- The rows of a copy: rows of the same values in memory of their own. -/
def NodeSR (rs : List NodeA) (w : World) (e : Ending) (w' : World) : Prop :=
  ∃ b L, e = .returned (.slice (some ⟨b, 0, none⟩) (List.length L) (List.length L)) ∧ L.map (·.N) = rs.map (·.N) ∧ NodeF w.heap.size w' (some ⟨b, 0, none⟩) L ∧ Below w.heap.size w w'
def MsgSR (rs : List MsgA) (w : World) (e : Ending) (w' : World) : Prop :=
  ∃ b L, e = .returned (.slice (some ⟨b, 0, none⟩) (List.length L) (List.length L)) ∧ L.map (·.M) = rs.map (·.M) ∧ MsgF w.heap.size w' (some ⟨b, 0, none⟩) L ∧ Below w.heap.size w w'
structure MsgSz (M : MsgV) (B : Nat) : Prop where
  ents : M.ents.length ≤ B
  data : ∀ s ∈ M.ents, s.2.size ≤ B
/-- A store: its data and how many of them are sure. -/
abbrev Sto := ByteArray × Int
def stoE (s : Sto) : List Value := [.string s.1, .int .i64 s.2]
/-- A cluster in memory. -/
structure CluA where
  nodes : List NodeA
  an : Option Addr
  cn : Nat
  stores : List Sto
  ast : Option Addr
  cst : Nat
  wire : List MsgA
  aw : Option Addr
  cw : Nat
  done : List ByteArray
  ad : Option Addr
  cd : Nat
def cluE (C : CluA) : List Value := [.slice C.an C.nodes.length C.cn, .slice C.ast C.stores.length C.cst, .slice C.aw C.wire.length C.cw, .slice C.ad C.done.length C.cd]
structure CluOK (w : World) (C : CluA) : Prop where
  nodes : NodeS w C.an C.nodes
  stores : Sl stoE 2 w C.ast C.stores
  wire : MsgS w C.aw C.wire
  done : Sl strE 1 w C.ad C.done
theorem CluOK.keep {w w' : World} {C : CluA} (h : CluOK w C) (hb : Below w.heap.size w w') : CluOK w' C := ⟨h.nodes.keep hb, h.stores.keep hb, h.wire.keep hb, h.done.keep hb⟩
theorem CluOK.alloc {w : World} {C : CluA} (h : CluOK w C) (o : Obj) : CluOK (w.alloc o) C := h.keep ((Below.refl _ _).alloc (Nat.le_refl _) _)
theorem CluOK.drew {w : World} {C : CluA} (h : CluOK w C) : CluOK w.drew C := h.keep ((Below.refl _ _).drew)
/-- Sizes. -/
structure CluSz (C : CluA) (B : Nat) : Prop where
  nl : C.nodes.length ≤ B
  nodes : ∀ r ∈ C.nodes, NodeSz r.N B
  sl : C.stores.length ≤ B
  stores : ∀ s ∈ C.stores, s.1.size ≤ B
  wl : C.wire.length ≤ B
  wire : ∀ r ∈ C.wire, MsgSz r.M B
  dl : C.done.length ≤ B
  done : ∀ s ∈ C.done, s.size ≤ B
/-- Two clusters of the same value. -/
structure CluSame (C D : CluA) : Prop where
  nodes : C.nodes.map (·.N) = D.nodes.map (·.N)
  stores : C.stores = D.stores
  wire : C.wire.map (·.M) = D.wire.map (·.M)
  done : C.done = D.done
theorem map_len {α β : Type} {f : α → β} {xs ys : List α} (h : xs.map f = ys.map f) : xs.length = ys.length := by
  have := congrArg List.length h
  simpa using this
theorem map_at {α β : Type} {f : α → β} {xs ys : List α} (h : xs.map f = ys.map f) (k : Nat) (h1 : k < xs.length) (h2 : k < ys.length) : f xs[k] = f ys[k] := by
  have e1 : (xs.map f)[k]? = some (f xs[k]) := by simp [h1]
  have e2 : (ys.map f)[k]? = some (f ys[k]) := by simp [h2]
  rw [h, e2] at e1
  exact (Option.some.inj e1).symm
end
section
open Go.RowKit
abbrev StoS (w : World) (a : Option Addr) (rs : List Sto) : Prop := Sl stoE 2 w a rs
set_option maxRecDepth 100000 in
set_option maxHeartbeats 4000000 in
theorem szMessage_c (r : MsgA) (left : Int) (w : World) (h : r.okM w) (hZ : MsgSz r.M 9223372036854775807) (h0 : 0 ≤ left) (h1 : left ≤ 1048576) :
    Calls Try.prog 62 #[.agg #[.int .i64 r.M.kind, .int .i64 r.M.src, .int .i64 r.M.dst, .int .i64 r.M.term, .int .i64 r.M.index, .int .i64 r.M.lterm, .int .i64 r.M.commit, .bool r.M.ok, .slice r.ae r.M.ents.length r.ce], .int .i64 left] w (SzRes (MsgSz r.M 1048576) w) := by
  have HZ := Lib.hid hZ
  clear hZ
  go_enter Try.func62, Try.ntmps62
  go_wp2_with fail
  refine (szEntryS_c r.ae r.ce r.M.ents left _ (Sl.alloc h _) HZ.out.ents HZ.out.data h0 h1).mono ?_
  rintro e w1 ⟨⟨n1, rfl, hn1, himp1⟩, hb1⟩
  have HI1 := Lib.hid himp1
  clear himp1
  have hbb : Below w.heap.size w w1 := ((Below.refl _ _).alloc (Nat.le_refl _) _).trans (hb1.mono (by simp))
  by_cases hneg : n1 < 0
  · go_wp2_with fail
    go_ret
    exact ⟨⟨_, rfl, by omega, fun h => by omega⟩, hbb⟩
  · go_wp2_with fail
    go_ret
    exact ⟨⟨_, rfl, by omega, fun h => ⟨(HI1.out h).1, (HI1.out h).2⟩⟩, hbb⟩
set_option maxRecDepth 100000 in
set_option maxHeartbeats 4000000 in
theorem szStoreS_c (a : Option Addr) (ca : Nat) (rs : List Sto) (left : Int) (w : World) (ha : StoS w a rs) (la : rs.length ≤ 9223372036854775807) (hs : ∀ r ∈ rs, r.1.size ≤ 9223372036854775807) (h0 : 0 ≤ left) (h1 : left ≤ 1048576) :
    Calls Try.prog 27 #[.slice a rs.length ca, .int .i64 left] w (SzRes (rs.length ≤ 1048576 ∧ ∀ r ∈ rs, r.1.size ≤ 1048576) w) := by
  by_cases hl : rs.length ≤ 1048576
  · have HS := Lib.hid hs
    clear hs
    by_cases hn : left - rs.length < 0
    · go_enter Try.func27, Try.ntmps27
      go_wp2_with fail
      go_ret
      exact ⟨⟨_, rfl, by omega, fun h => by omega⟩, Below.refl _ _⟩
    · go_enter Try.func27, Try.ntmps27
      go_wp2_with fail
      go_loopw [1, 5] (fun l i wr => ∃ (k : Nat) (n : Int), k ≤ rs.length ∧ i = .int .i64 k ∧ l = .int .i64 n ∧ 0 ≤ n ∧ n ≤ 1048576 ∧ (∀ r ∈ rs.take k, r.1.size ≤ 1048576) ∧ Below w.heap.size w wr) (fun _ i _ => rs.length - (intOf i).toNat)
      case atStart => exact ⟨0, _, Nat.zero_le _, rfl, rfl, by omega, by omega, by simp, Below.refl _ _⟩
      case round =>
        obtain ⟨k, n, hk, rfl, rfl, hn0, hn1, ht, hbel⟩ := hrel
        have HT := Lib.hid ht
        clear ht
        by_cases hlt : k < rs.length
        · obtain ⟨b1, o1, rfl, hb1, hc1⟩ := (ha.keep hbel).at hlt
          have c0 := hc1 k hlt 0 (by omega)
          have c1 := hc1 k hlt 1 (by omega)
          simp only [stoE, Nat.add_zero, List.getElem?_cons_zero, List.getElem?_cons_succ] at c0 c1
          clear hc1
          have hsz := HS.out rs[k] (List.getElem_mem _)
          have HTS := Lib.hid (List.take_succ_eq_append_getElem hlt)
          generalize rs[k] = r at *
          go_wp2_with fail
          refine (szStore_c r.1 r.2 n _ hn0 hn1 hsz).mono ?_
          rintro e w1 ⟨⟨m, rfl, hm1, hm2⟩, hb1'⟩
          have HM := Lib.hid hm2
          clear hm2
          by_cases hneg : m < 0
          · go_wp2_with fail
            go_ret
            exact ⟨⟨_, rfl, by omega, fun h => by omega⟩, hbel.trans (hb1'.mono hbel.size)⟩
          · go_wp2_with fail
            go_roundw
            case rel =>
              refine ⟨k + 1, _, by omega, by go_num, rfl, by omega, by omega, ?_, hbel.trans (hb1'.mono hbel.size)⟩
              rw [HTS.out]
              intro s hs'
              rcases List.mem_append.1 hs' with h | h
              · exact HT.out s h
              · simp at h; subst h; exact of_decide_eq_true (HM.out (by omega))
            case measure => simp [intOf]; omega
        · obtain rfl : k = rs.length := by omega
          go_wp2_with fail
          go_ret
          have := HT.out
          rw [List.take_length] at this
          exact ⟨⟨_, rfl, by omega, fun _ => ⟨hl, this⟩⟩, hbel⟩
  · clear hs
    go_enter Try.func27, Try.ntmps27
    go_wp2_with fail
    go_ret
    exact ⟨⟨_, rfl, by omega, fun h => by omega⟩, Below.refl _ _⟩
set_option maxRecDepth 100000 in
set_option maxHeartbeats 4000000 in
theorem szMessageS_c (a : Option Addr) (ca : Nat) (rs : List MsgA) (left : Int) (w : World) (ha : MsgS w a rs) (la : rs.length ≤ 9223372036854775807) (hs : ∀ r ∈ rs, MsgSz r.M 9223372036854775807) (h0 : 0 ≤ left) (h1 : left ≤ 1048576) :
    Calls Try.prog 28 #[.slice a rs.length ca, .int .i64 left] w (SzRes (rs.length ≤ 1048576 ∧ ∀ r ∈ rs, MsgSz r.M 1048576) w) := by
  by_cases hl : rs.length ≤ 1048576
  · have HS := Lib.hid hs
    clear hs
    by_cases hn : left - rs.length < 0
    · go_enter Try.func28, Try.ntmps28
      go_wp2_with fail
      go_ret
      exact ⟨⟨_, rfl, by omega, fun h => by omega⟩, Below.refl _ _⟩
    · go_enter Try.func28, Try.ntmps28
      go_wp2_with fail
      go_loopw [1, 5] (fun l i wr => ∃ (k : Nat) (n : Int), k ≤ rs.length ∧ i = .int .i64 k ∧ l = .int .i64 n ∧ 0 ≤ n ∧ n ≤ 1048576 ∧ (∀ r ∈ rs.take k, MsgSz r.M 1048576) ∧ Below w.heap.size w wr) (fun _ i _ => rs.length - (intOf i).toNat)
      case atStart => exact ⟨0, _, Nat.zero_le _, rfl, rfl, by omega, by omega, by simp, Below.refl _ _⟩
      case round =>
        obtain ⟨k, n, hk, rfl, rfl, hn0, hn1, ht, hbel⟩ := hrel
        have HT := Lib.hid ht
        clear ht
        by_cases hlt : k < rs.length
        · obtain ⟨b1, o1, rfl, hb1, hc1⟩ := (ha.1.keep hbel).at hlt
          have c0 := hc1 k hlt 0 (by omega)
          have c1 := hc1 k hlt 1 (by omega)
          have c2 := hc1 k hlt 2 (by omega)
          have c3 := hc1 k hlt 3 (by omega)
          have c4 := hc1 k hlt 4 (by omega)
          have c5 := hc1 k hlt 5 (by omega)
          have c6 := hc1 k hlt 6 (by omega)
          have c7 := hc1 k hlt 7 (by omega)
          have c8 := hc1 k hlt 8 (by omega)
          simp only [msgE, Nat.add_zero, List.getElem?_cons_zero, List.getElem?_cons_succ] at c0 c1 c2 c3 c4 c5 c6 c7 c8
          clear hc1
          have hsz := HS.out rs[k] (List.getElem_mem _)
          have hok := (ha.2 rs[k] (List.getElem_mem _)).keep hbel
          have HTS := Lib.hid (List.take_succ_eq_append_getElem hlt)
          generalize rs[k] = r at *
          go_wp2_with fail
          refine (szMessage_c r n _ hok hsz hn0 hn1).mono ?_
          rintro e w1 ⟨⟨m, rfl, hm1, hm2⟩, hb1'⟩
          have HM := Lib.hid hm2
          clear hm2
          by_cases hneg : m < 0
          · go_wp2_with fail
            go_ret
            exact ⟨⟨_, rfl, by omega, fun h => by omega⟩, hbel.trans (hb1'.mono hbel.size)⟩
          · go_wp2_with fail
            go_roundw
            case rel =>
              refine ⟨k + 1, _, by omega, by go_num, rfl, by omega, by omega, ?_, hbel.trans (hb1'.mono hbel.size)⟩
              rw [HTS.out]
              intro s hs'
              rcases List.mem_append.1 hs' with h | h
              · exact HT.out s h
              · simp at h; subst h; exact HM.out (by omega)
            case measure => simp [intOf]; omega
        · obtain rfl : k = rs.length := by omega
          go_wp2_with fail
          go_ret
          have := HT.out
          rw [List.take_length] at this
          exact ⟨⟨_, rfl, by omega, fun _ => ⟨hl, this⟩⟩, hbel⟩
  · clear hs
    go_enter Try.func28, Try.ntmps28
    go_wp2_with fail
    go_ret
    exact ⟨⟨_, rfl, by omega, fun h => by omega⟩, Below.refl _ _⟩
set_option maxRecDepth 100000 in
set_option maxHeartbeats 4000000 in
theorem szNodeS_c (a : Option Addr) (ca : Nat) (rs : List NodeA) (left : Int) (w : World) (ha : NodeS w a rs) (la : rs.length ≤ 9223372036854775807) (hs : ∀ r ∈ rs, NodeSz r.N 9223372036854775807) (h0 : 0 ≤ left) (h1 : left ≤ 1048576) :
    Calls Try.prog 26 #[.slice a rs.length ca, .int .i64 left] w (SzRes (rs.length ≤ 1048576 ∧ ∀ r ∈ rs, NodeSz r.N 1048576) w) := by
  by_cases hl : rs.length ≤ 1048576
  · have HS := Lib.hid hs
    clear hs
    by_cases hn : left - rs.length < 0
    · go_enter Try.func26, Try.ntmps26
      go_wp2_with fail
      go_ret
      exact ⟨⟨_, rfl, by omega, fun h => by omega⟩, Below.refl _ _⟩
    · go_enter Try.func26, Try.ntmps26
      go_wp2_with fail
      go_loopw [1, 5] (fun l i wr => ∃ (k : Nat) (n : Int), k ≤ rs.length ∧ i = .int .i64 k ∧ l = .int .i64 n ∧ 0 ≤ n ∧ n ≤ 1048576 ∧ (∀ r ∈ rs.take k, NodeSz r.N 1048576) ∧ Below w.heap.size w wr) (fun _ i _ => rs.length - (intOf i).toNat)
      case atStart => exact ⟨0, _, Nat.zero_le _, rfl, rfl, by omega, by omega, by simp, Below.refl _ _⟩
      case round =>
        obtain ⟨k, n, hk, rfl, rfl, hn0, hn1, ht, hbel⟩ := hrel
        have HT := Lib.hid ht
        clear ht
        by_cases hlt : k < rs.length
        · obtain ⟨b1, o1, rfl, hb1, hc1⟩ := (ha.1.keep hbel).at hlt
          have c0 := hc1 k hlt 0 (by omega)
          have c1 := hc1 k hlt 1 (by omega)
          have c2 := hc1 k hlt 2 (by omega)
          have c3 := hc1 k hlt 3 (by omega)
          have c4 := hc1 k hlt 4 (by omega)
          have c5 := hc1 k hlt 5 (by omega)
          have c6 := hc1 k hlt 6 (by omega)
          have c7 := hc1 k hlt 7 (by omega)
          have c8 := hc1 k hlt 8 (by omega)
          have c9 := hc1 k hlt 9 (by omega)
          have c10 := hc1 k hlt 10 (by omega)
          have c11 := hc1 k hlt 11 (by omega)
          have c12 := hc1 k hlt 12 (by omega)
          simp only [nodeE, Nat.add_zero, List.getElem?_cons_zero, List.getElem?_cons_succ] at c0 c1 c2 c3 c4 c5 c6 c7 c8 c9 c10 c11 c12
          clear hc1
          have hsz := HS.out rs[k] (List.getElem_mem _)
          have hok := (ha.2 rs[k] (List.getElem_mem _)).keep hbel
          have HTS := Lib.hid (List.take_succ_eq_append_getElem hlt)
          generalize rs[k] = r at *
          go_wp2_with fail
          refine (szNode_c r.al r.cl r.av r.cv r.an r.cn r.am r.cm r.N n _ hok.1 hsz hn0 hn1).mono ?_
          rintro e w1 ⟨⟨m, rfl, hm1, hm2⟩, hb1'⟩
          have HM := Lib.hid hm2
          clear hm2
          by_cases hneg : m < 0
          · go_wp2_with fail
            go_ret
            exact ⟨⟨_, rfl, by omega, fun h => by omega⟩, hbel.trans (hb1'.mono hbel.size)⟩
          · go_wp2_with fail
            go_roundw
            case rel =>
              refine ⟨k + 1, _, by omega, by go_num, rfl, by omega, by omega, ?_, hbel.trans (hb1'.mono hbel.size)⟩
              rw [HTS.out]
              intro s hs'
              rcases List.mem_append.1 hs' with h | h
              · exact HT.out s h
              · simp at h; subst h; exact HM.out (by omega)
            case measure => simp [intOf]; omega
        · obtain rfl : k = rs.length := by omega
          go_wp2_with fail
          go_ret
          have := HT.out
          rw [List.take_length] at this
          exact ⟨⟨_, rfl, by omega, fun _ => ⟨hl, this⟩⟩, hbel⟩
  · clear hs
    go_enter Try.func26, Try.ntmps26
    go_wp2_with fail
    go_ret
    exact ⟨⟨_, rfl, by omega, fun h => by omega⟩, Below.refl _ _⟩
end
section
open Go.RowKit
theorem Try.infoStore : (Try.prog.info? 58).map (fun i => (i.zero, i.size, i.bytes)) = some (some (.agg #[.string ⟨#[]⟩, .int .i64 0]), 2, 24) := by kernel_rfl
theorem Try.infoMessage : (Try.prog.info? 66).map (fun i => (i.zero, i.size, i.bytes)) = some (some (.agg #[.int .i64 0, .int .i64 0, .int .i64 0, .int .i64 0, .int .i64 0, .int .i64 0, .int .i64 0, .bool false, .slice none 0 0]), 9, 88) := by kernel_rfl
theorem Try.infoNode : (Try.prog.info? 54).map (fun i => (i.zero, i.size, i.bytes)) = some (some (.agg #[.int .i64 0, .int .i64 0, .int .i64 0, .int .i64 0, .int .i64 0, .bool false, .slice none 0 0, .int .i64 0, .int .i64 0, .int .i64 0, .slice none 0 0, .slice none 0 0, .slice none 0 0]), 13, 168) := by kernel_rfl
set_option maxRecDepth 100000 in
set_option maxHeartbeats 4000000 in
theorem toMessage_c (r : MsgA) (w : World) (h : r.okM w) (hZ : MsgSz r.M 1048576) :
    Calls Try.prog 70 #[.agg #[.int .i64 r.M.kind, .int .i64 r.M.src, .int .i64 r.M.dst, .int .i64 r.M.term, .int .i64 r.M.index, .int .i64 r.M.lterm, .int .i64 r.M.commit, .bool r.M.ok, .slice r.ae r.M.ents.length r.ce]] w fun e w' => ∃ ae ce, e = .returned (.agg #[.int .i64 r.M.kind, .int .i64 r.M.src, .int .i64 r.M.dst, .int .i64 r.M.term, .int .i64 r.M.index, .int .i64 r.M.lterm, .int .i64 r.M.commit, .bool r.M.ok, .slice ae r.M.ents.length ce]) ∧ FreshIn entE 76 2 w.heap.size w'.heap.size (.slice ae r.M.ents.length ce) r.M.ents w' ∧ Below w.heap.size w w' := by
  have HZ := Lib.hid hZ
  clear hZ
  go_enter Try.func70, Try.ntmps70
  go_wp2_with fail
  refine (toEntryS_c r.ae r.ce r.M.ents _ (((Sl.alloc h _).alloc _).alloc _) HZ.out.ents).mono ?_
  rintro e w1 ⟨v1, rfl, hf1, hb1⟩
  obtain ⟨al', cl', rfl, hc1, ho1⟩ := hf1
  have hz1 := hb1.size
  simp at hz1
  have m_0 : w1.cell? ⟨w.heap.size + 1 + 1, 0, none⟩ = some (.int .i64 r.M.kind) := (hb1.cell (p := ⟨w.heap.size + 1 + 1, 0, none⟩) (by show w.heap.size + 1 + 1 < _; simp)).trans (by simp [go_sem])
  have m_1 : w1.cell? ⟨w.heap.size + 1 + 1, 1, none⟩ = some (.int .i64 r.M.src) := (hb1.cell (p := ⟨w.heap.size + 1 + 1, 1, none⟩) (by show w.heap.size + 1 + 1 < _; simp)).trans (by simp [go_sem])
  have m_2 : w1.cell? ⟨w.heap.size + 1 + 1, 2, none⟩ = some (.int .i64 r.M.dst) := (hb1.cell (p := ⟨w.heap.size + 1 + 1, 2, none⟩) (by show w.heap.size + 1 + 1 < _; simp)).trans (by simp [go_sem])
  have m_3 : w1.cell? ⟨w.heap.size + 1 + 1, 3, none⟩ = some (.int .i64 r.M.term) := (hb1.cell (p := ⟨w.heap.size + 1 + 1, 3, none⟩) (by show w.heap.size + 1 + 1 < _; simp)).trans (by simp [go_sem])
  have m_4 : w1.cell? ⟨w.heap.size + 1 + 1, 4, none⟩ = some (.int .i64 r.M.index) := (hb1.cell (p := ⟨w.heap.size + 1 + 1, 4, none⟩) (by show w.heap.size + 1 + 1 < _; simp)).trans (by simp [go_sem])
  have m_5 : w1.cell? ⟨w.heap.size + 1 + 1, 5, none⟩ = some (.int .i64 r.M.lterm) := (hb1.cell (p := ⟨w.heap.size + 1 + 1, 5, none⟩) (by show w.heap.size + 1 + 1 < _; simp)).trans (by simp [go_sem])
  have m_6 : w1.cell? ⟨w.heap.size + 1 + 1, 6, none⟩ = some (.int .i64 r.M.commit) := (hb1.cell (p := ⟨w.heap.size + 1 + 1, 6, none⟩) (by show w.heap.size + 1 + 1 < _; simp)).trans (by simp [go_sem])
  have m_7 : w1.cell? ⟨w.heap.size + 1 + 1, 7, none⟩ = some (.bool r.M.ok) := (hb1.cell (p := ⟨w.heap.size + 1 + 1, 7, none⟩) (by show w.heap.size + 1 + 1 < _; simp)).trans (by simp [go_sem])
  have m_8 : w1.cell? ⟨w.heap.size + 1 + 1, 8, none⟩ = some (.slice none 0 0) := (hb1.cell (p := ⟨w.heap.size + 1 + 1, 8, none⟩) (by show w.heap.size + 1 + 1 < _; simp)).trans (by simp [go_sem])
  have mf : ∀ o, w1.frozen? ⟨w.heap.size + 1 + 1, o, none⟩ = false := fun o => (hb1.frozen (p := ⟨w.heap.size + 1 + 1, o, none⟩) (by show w.heap.size + 1 + 1 < _; simp)).trans (by simp [go_sem])
  have z_0 : w1.cell? ⟨w.heap.size + 1, 0, none⟩ = some (.int .i64 0) := (hb1.cell (p := ⟨w.heap.size + 1, 0, none⟩) (by show w.heap.size + 1 < _; simp; try omega)).trans (by simp [go_sem])
  have z_1 : w1.cell? ⟨w.heap.size + 1, 1, none⟩ = some (.int .i64 0) := (hb1.cell (p := ⟨w.heap.size + 1, 1, none⟩) (by show w.heap.size + 1 < _; simp; try omega)).trans (by simp [go_sem])
  have z_2 : w1.cell? ⟨w.heap.size + 1, 2, none⟩ = some (.int .i64 0) := (hb1.cell (p := ⟨w.heap.size + 1, 2, none⟩) (by show w.heap.size + 1 < _; simp; try omega)).trans (by simp [go_sem])
  have z_3 : w1.cell? ⟨w.heap.size + 1, 3, none⟩ = some (.int .i64 0) := (hb1.cell (p := ⟨w.heap.size + 1, 3, none⟩) (by show w.heap.size + 1 < _; simp; try omega)).trans (by simp [go_sem])
  have z_4 : w1.cell? ⟨w.heap.size + 1, 4, none⟩ = some (.int .i64 0) := (hb1.cell (p := ⟨w.heap.size + 1, 4, none⟩) (by show w.heap.size + 1 < _; simp; try omega)).trans (by simp [go_sem])
  have z_5 : w1.cell? ⟨w.heap.size + 1, 5, none⟩ = some (.int .i64 0) := (hb1.cell (p := ⟨w.heap.size + 1, 5, none⟩) (by show w.heap.size + 1 < _; simp; try omega)).trans (by simp [go_sem])
  have z_6 : w1.cell? ⟨w.heap.size + 1, 6, none⟩ = some (.int .i64 0) := (hb1.cell (p := ⟨w.heap.size + 1, 6, none⟩) (by show w.heap.size + 1 < _; simp; try omega)).trans (by simp [go_sem])
  have z_7 : w1.cell? ⟨w.heap.size + 1, 7, none⟩ = some (.bool false) := (hb1.cell (p := ⟨w.heap.size + 1, 7, none⟩) (by show w.heap.size + 1 < _; simp; try omega)).trans (by simp [go_sem])
  have z_8 : w1.cell? ⟨w.heap.size + 1, 8, none⟩ = some (.slice none 0 0) := (hb1.cell (p := ⟨w.heap.size + 1, 8, none⟩) (by show w.heap.size + 1 < _; simp; try omega)).trans (by simp [go_sem])
  have zf : ∀ o, w1.frozen? ⟨w.heap.size + 1, o, none⟩ = false := fun o => (hb1.frozen (p := ⟨w.heap.size + 1, o, none⟩) (by show w.heap.size + 1 < _; simp; try omega)).trans (by simp [go_sem])
  have HB1 : Hid (Below w.heap.size w w1) := ((((Below.refl _ _).alloc (Nat.le_refl _) _).alloc (by simp) _).alloc (by simp; try omega) _).trans (hb1.mono (by simp; try omega))
  have HF1 : Hid (FreshIn entE 76 2 w.heap.size w1.heap.size (.slice al' r.M.ents.length cl') r.M.ents w1) := by
    have hf : Fresh entE 76 2 (w.heap.size + 3) (.slice al' r.M.ents.length cl') r.M.ents w1 := ⟨_, _, rfl, hc1, by simpa using ho1⟩
    exact (hf.mono (by omega)).here
  have HF2 : Hid (FreshIn entE 76 2 (w.heap.size + 3) w1.heap.size (.slice al' r.M.ents.length cl') r.M.ents w1) := (show Fresh entE 76 2 (w.heap.size + 3) (.slice al' r.M.ents.length cl') r.M.ents w1 from ⟨_, _, rfl, hc1, by simpa using ho1⟩).here
  clear hb1 ho1
  go_wp2_with fail
  refine bodyPost_ret (v := .agg #[.int .i64 r.M.kind, .int .i64 r.M.src, .int .i64 r.M.dst, .int .i64 r.M.term, .int .i64 r.M.index, .int .i64 r.M.lterm, .int .i64 r.M.commit, .bool r.M.ok, .slice al' r.M.ents.length cl']) (by simp [results, Try.results70, go_sem, z_0, z_1, z_2, z_3, z_4, z_5, z_6, z_7, z_8, zf]) rfl ?_
  refine ⟨al', cl', rfl, ?_, ?_⟩
  · refine ⟨?_, fun k hk => by have := HF2.out.2 k hk; simpa using this⟩
    have HF3 : Hid (Fresh entE 76 2 w.heap.size (.slice al' r.M.ents.length cl') r.M.ents w1) := HF1.out.1
    refine Fresh.mono (B := w.heap.size + 3) ?_ (by omega)
    have HF4 : Hid (Fresh entE 76 2 (w.heap.size + 3) (.slice al' r.M.ents.length cl') r.M.ents w1) := HF2.out.1
    repeat (first | (with_reducible exact HF4.out) | (with_reducible refine Fresh.setCell ?_ ?_ _; rotate_left; (show _ < w.heap.size + 3; simp; try omega)))
  · repeat (first | (with_reducible exact HB1.out) | (with_reducible refine Below.setCell ?_ ?_ _; rotate_left; (show w.heap.size ≤ _; simp; try omega)))
set_option maxRecDepth 100000 in
set_option maxHeartbeats 4000000 in
theorem toStoreS_c (a : Option Addr) (ca : Nat) (rs : List Sto) (w : World) (ha : StoS w a rs) (la : rs.length ≤ 1048576) :
    Calls Try.prog 38 #[.slice a rs.length ca] w fun e w' => ∃ b, e = .returned (.slice (some ⟨b, 0, none⟩) rs.length rs.length) ∧ SlFrom stoE 2 w.heap.size w' (some ⟨b, 0, none⟩) rs ∧ Below w.heap.size w w' := by
  obtain ⟨i0, hi, hz0, hz1, hz2⟩ := info_parts Try.infoStore
  go_enter Try.func38, Try.ntmps38
  go_wp2_with (at_make; refine wpList_make_full _ rfl _ _ 31 rfl w.heap.size 58 i0 (.agg #[.string ⟨#[]⟩, .int .i64 0]) 2 Try.underlying31 hi hz0 hz1 .i64 .i64 _ _ rs.length rfl rfl rfl rfl ?c1 ?c2 ?c3 ?_)
  case c1 => rw [hz2]; omega
  case c2 => unfold maxLen; omega
  case c3 => exact Nat.le_refl _
  intro w1 hown hg
  have hm := madeCells_flat stoE 2 ((⟨#[]⟩, 0) : Sto) #[.string ⟨#[]⟩, .int .i64 0] rfl (fun _ => rfl) rs.length
  have hown2 : w1.ownsRow w.heap.size 58 2 (.slice (some ⟨w.heap.size, 0, none⟩) rs.length rs.length) rs.length ((List.replicate rs.length ((⟨#[]⟩, 0) : Sto)).flatMap stoE) := by rw [← hm]; exact hown
  clear hm hown
  go_wp2_with fail
  go_loopw [4] (fun i wr => ∃ L : List Sto, L.length ≤ rs.length ∧ i = .int .i64 L.length ∧ L = rs.take L.length ∧ wr.ownsRow w.heap.size 58 2 (.slice (some ⟨w.heap.size, 0, none⟩) rs.length rs.length) rs.length ((L ++ List.replicate (rs.length - L.length) ((⟨#[]⟩, 0) : Sto)).flatMap stoE) ∧ Below w.heap.size w wr ∧ w.heap.size < wr.heap.size) (fun i _ => rs.length - (intOf i).toNat)
  case atStart => exact ⟨[], Nat.zero_le _, rfl, rfl, by simpa using hown2, (Below.refl _ _).grown hg (Nat.le_refl _) (by simp), own_lt hown2⟩
  case round =>
    obtain ⟨L, hk, rfl, hL, ho, hbel, hsz⟩ := hrel
    by_cases hlt : L.length < rs.length
    · obtain ⟨b1, o1, rfl, hb1, hc1⟩ := (ha.keep hbel).at hlt
      have c0 := hc1 L.length hlt 0 (by omega)
      have c1 := hc1 L.length hlt 1 (by omega)
      simp only [stoE, Nat.add_zero, List.getElem?_cons_zero, List.getElem?_cons_succ] at c0 c1
      clear hc1
      have HTS := Lib.hid (List.take_succ_eq_append_getElem hlt)
      generalize rs[L.length] = r at *
      have HO := Lib.hid ho
      have HL := Lib.hid hL
      clear ho hown2 hL
      go_wp2_with fail
      refine (toStore_c r.1 r.2 _).mono ?_
      rintro e w2 ⟨rfl, hb2⟩
      have hz2' := hb2.size
      have ho2 := HO.out.kept (grownBy_of_below hb2) (.inr (by simp [Value.ownBlock]))
      have f0 := ho2.frozenAt (L.length * 2 + 0)
      have g0 := ho2.cellAt (L.length * 2 + 0) (by omega)
      have f1 := ho2.frozenAt (L.length * 2 + 1)
      have g1 := ho2.cellAt (L.length * 2 + 1) (by omega)
      have hlen : ((L ++ List.replicate (rs.length - L.length) ((⟨#[]⟩, 0) : Sto)).flatMap stoE).length = rs.length * 2 := by rw [flat_length stoE 2 (fun _ => rfl)]; congr 1; simp; omega
      rw [List.getElem?_eq_getElem (by omega)] at g0 g1
      generalize ((L ++ List.replicate (rs.length - L.length) ((⟨#[]⟩, 0) : Sto)).flatMap stoE)[L.length * 2 + 0]'(by omega) = v0 at g0
      generalize ((L ++ List.replicate (rs.length - L.length) ((⟨#[]⟩, 0) : Sto)).flatMap stoE)[L.length * 2 + 1]'(by omega) = v1 at g1
      simp only [Nat.add_zero] at f0 g0
      have HO2 := Lib.hid ho2
      clear ho2 hlen
      go_wp2_with fail
      go_roundw
      case rel =>
        have ho := HO2.out
        have hs := ((ho.stored (L.length * 2) (.string r.1)).1.stored (L.length * 2 + 1) (.int .i64 r.2)).1
        have hs2 := own_list (l' := ((L ++ [r]) ++ List.replicate (rs.length - (L ++ [r]).length) ((⟨#[]⟩, 0) : Sto)).flatMap stoE) hs (by
          rw [← app_set L rs.length ((⟨#[]⟩, 0) : Sto) r hlt, ← flat_setR stoE 2 (fun _ => rfl) _ L.length (by simp; omega) r]
          rfl)
        refine ⟨L ++ [r], (by (try simp) <;> (try omega)), (by simp), ?_, hs2, ?_, ?_⟩
        · rw [List.length_append, List.length_singleton, HTS.out, ← HL.out]
        · have h0 := hbel.trans (hb2.mono hbel.size)
          have H0 := Lib.hid h0
          clear h0
          repeat (first | (with_reducible exact H0.out) | (with_reducible refine Below.setCell ?_ ?_ _; rotate_left; (show w.heap.size ≤ _; exact Nat.le_refl _)))
        · simp; omega
      case measure => simp [intOf]; omega
    · have hkn : L.length = rs.length := by omega
      rw [hkn, Nat.sub_self, List.replicate_zero, List.append_nil] at ho
      have HO := Lib.hid ho
      have HL := Lib.hid hL
      clear ho hown2 hL
      go_wp2_with fail
      go_ret
      have e1 : L = rs := by rw [HL.out, hkn, List.take_length]
      subst e1
      exact ⟨_, rfl, ⟨Sl.of_own (fun _ => rfl) HO.out, fun b off e => by cases e; exact Nat.le_refl _⟩, hbel⟩
set_option maxRecDepth 100000 in
set_option maxHeartbeats 4000000 in
theorem toMessageS_c (a : Option Addr) (ca : Nat) (rs : List MsgA) (w : World) (ha : MsgS w a rs) (hs : ∀ r ∈ rs, MsgSz r.M 1048576) (la : rs.length ≤ 1048576) :
    Calls Try.prog 39 #[.slice a rs.length ca] w (MsgSR rs w) := by
  have HS := Lib.hid hs
  clear hs
  obtain ⟨i0, hi, hz0, hz1, hz2⟩ := info_parts Try.infoMessage
  go_enter Try.func39, Try.ntmps39
  go_wp2_with (at_make; refine wpList_make_full _ rfl _ _ 32 rfl w.heap.size 66 i0 (.agg #[.int .i64 0, .int .i64 0, .int .i64 0, .int .i64 0, .int .i64 0, .int .i64 0, .int .i64 0, .bool false, .slice none 0 0]) 9 Try.underlying32 hi hz0 hz1 .i64 .i64 _ _ rs.length rfl rfl rfl rfl ?c1 ?c2 ?c3 ?_)
  case c1 => rw [hz2]; omega
  case c2 => unfold maxLen; omega
  case c3 => exact Nat.le_refl _
  intro w1 hown hg
  have hm := madeCells_flat msgE 9 msgZ #[.int .i64 0, .int .i64 0, .int .i64 0, .int .i64 0, .int .i64 0, .int .i64 0, .int .i64 0, .bool false, .slice none 0 0] rfl (fun _ => rfl) rs.length
  have hown2 : w1.ownsRow w.heap.size 66 9 (.slice (some ⟨w.heap.size, 0, none⟩) rs.length rs.length) rs.length ((List.replicate rs.length msgZ).flatMap msgE) := by rw [← hm]; exact hown
  clear hm hown
  go_wp2_with fail
  go_loopw [4] (fun i wr => ∃ L : List MsgA, L.length ≤ rs.length ∧ i = .int .i64 L.length ∧ L.map (·.M) = (rs.take L.length).map (·.M) ∧ (∀ r ∈ L, r.okF (w.heap.size + 1) wr) ∧ wr.ownsRow w.heap.size 66 9 (.slice (some ⟨w.heap.size, 0, none⟩) rs.length rs.length) rs.length ((L ++ List.replicate (rs.length - L.length) msgZ).flatMap msgE) ∧ Below w.heap.size w wr ∧ w.heap.size < wr.heap.size) (fun i _ => rs.length - (intOf i).toNat)
  case atStart => exact ⟨[], Nat.zero_le _, rfl, rfl, (by simp), by simpa using hown2, (Below.refl _ _).grown hg (Nat.le_refl _) (by simp), own_lt hown2⟩
  case round =>
    obtain ⟨L, hk, rfl, hL, hF, ho, hbel, hsz⟩ := hrel
    by_cases hlt : L.length < rs.length
    · obtain ⟨b1, o1, rfl, hb1, hc1⟩ := (ha.1.keep hbel).at hlt
      have c0 := hc1 L.length hlt 0 (by omega)
      have c1 := hc1 L.length hlt 1 (by omega)
      have c2 := hc1 L.length hlt 2 (by omega)
      have c3 := hc1 L.length hlt 3 (by omega)
      have c4 := hc1 L.length hlt 4 (by omega)
      have c5 := hc1 L.length hlt 5 (by omega)
      have c6 := hc1 L.length hlt 6 (by omega)
      have c7 := hc1 L.length hlt 7 (by omega)
      have c8 := hc1 L.length hlt 8 (by omega)
      simp only [msgE, Nat.add_zero, List.getElem?_cons_zero, List.getElem?_cons_succ] at c0 c1 c2 c3 c4 c5 c6 c7 c8
      clear hc1
      have HTS := Lib.hid (List.take_succ_eq_append_getElem hlt)
      have hsz2 := HS.out rs[L.length] (List.getElem_mem _)
      have hok := (ha.2 rs[L.length] (List.getElem_mem _)).keep hbel
      generalize rs[L.length] = r at *
      have HO := Lib.hid ho
      have HL := Lib.hid hL
      clear ho hown2 hL
      have HF := Lib.hid hF
      clear hF
      go_wp2_with fail
      refine (toMessage_c r _ hok hsz2).mono ?_
      rintro e w2 ⟨ae, ce, rfl, hf2, hb2⟩
      obtain ⟨t, ht⟩ : ∃ t : MsgA, t = ⟨r.M, ae, ce⟩ := ⟨_, rfl⟩
      have HQ : Hid (t.okF (w.heap.size + 1) w2) := by
        subst ht
        exact SlFrom.of_fresh (fun _ => rfl) hf2 (by omega)
      have hrw : Hid (t.M = r.M ∧ t = ⟨r.M, ae, ce⟩) := by rw [ht]; exact ⟨rfl, rfl⟩
      have hz2' := hb2.size
      have ho2 := HO.out.kept (grownBy_of_below hb2) (.inr (by simp [Value.ownBlock]))
      have f0 := ho2.frozenAt (L.length * 9 + 0)
      have g0 := ho2.cellAt (L.length * 9 + 0) (by omega)
      have f1 := ho2.frozenAt (L.length * 9 + 1)
      have g1 := ho2.cellAt (L.length * 9 + 1) (by omega)
      have f2 := ho2.frozenAt (L.length * 9 + 2)
      have g2 := ho2.cellAt (L.length * 9 + 2) (by omega)
      have f3 := ho2.frozenAt (L.length * 9 + 3)
      have g3 := ho2.cellAt (L.length * 9 + 3) (by omega)
      have f4 := ho2.frozenAt (L.length * 9 + 4)
      have g4 := ho2.cellAt (L.length * 9 + 4) (by omega)
      have f5 := ho2.frozenAt (L.length * 9 + 5)
      have g5 := ho2.cellAt (L.length * 9 + 5) (by omega)
      have f6 := ho2.frozenAt (L.length * 9 + 6)
      have g6 := ho2.cellAt (L.length * 9 + 6) (by omega)
      have f7 := ho2.frozenAt (L.length * 9 + 7)
      have g7 := ho2.cellAt (L.length * 9 + 7) (by omega)
      have f8 := ho2.frozenAt (L.length * 9 + 8)
      have g8 := ho2.cellAt (L.length * 9 + 8) (by omega)
      have hlen : ((L ++ List.replicate (rs.length - L.length) msgZ).flatMap msgE).length = rs.length * 9 := by rw [flat_length msgE 9 (fun _ => rfl)]; congr 1; simp; omega
      rw [List.getElem?_eq_getElem (by omega)] at g0 g1 g2 g3 g4 g5 g6 g7 g8
      generalize ((L ++ List.replicate (rs.length - L.length) msgZ).flatMap msgE)[L.length * 9 + 0]'(by omega) = v0 at g0
      generalize ((L ++ List.replicate (rs.length - L.length) msgZ).flatMap msgE)[L.length * 9 + 1]'(by omega) = v1 at g1
      generalize ((L ++ List.replicate (rs.length - L.length) msgZ).flatMap msgE)[L.length * 9 + 2]'(by omega) = v2 at g2
      generalize ((L ++ List.replicate (rs.length - L.length) msgZ).flatMap msgE)[L.length * 9 + 3]'(by omega) = v3 at g3
      generalize ((L ++ List.replicate (rs.length - L.length) msgZ).flatMap msgE)[L.length * 9 + 4]'(by omega) = v4 at g4
      generalize ((L ++ List.replicate (rs.length - L.length) msgZ).flatMap msgE)[L.length * 9 + 5]'(by omega) = v5 at g5
      generalize ((L ++ List.replicate (rs.length - L.length) msgZ).flatMap msgE)[L.length * 9 + 6]'(by omega) = v6 at g6
      generalize ((L ++ List.replicate (rs.length - L.length) msgZ).flatMap msgE)[L.length * 9 + 7]'(by omega) = v7 at g7
      generalize ((L ++ List.replicate (rs.length - L.length) msgZ).flatMap msgE)[L.length * 9 + 8]'(by omega) = v8 at g8
      simp only [Nat.add_zero] at f0 g0
      have HO2 := Lib.hid ho2
      clear ho2 hlen
      go_wp2_with fail
      go_roundw
      case rel =>
        subst ht
        have ho := HO2.out
        have hs := (((((((((ho.stored (L.length * 9) (.int .i64 (⟨r.M, ae, ce⟩ : MsgA).M.kind)).1.stored (L.length * 9 + 1) (.int .i64 (⟨r.M, ae, ce⟩ : MsgA).M.src)).1.stored (L.length * 9 + 2) (.int .i64 (⟨r.M, ae, ce⟩ : MsgA).M.dst)).1.stored (L.length * 9 + 3) (.int .i64 (⟨r.M, ae, ce⟩ : MsgA).M.term)).1.stored (L.length * 9 + 4) (.int .i64 (⟨r.M, ae, ce⟩ : MsgA).M.index)).1.stored (L.length * 9 + 5) (.int .i64 (⟨r.M, ae, ce⟩ : MsgA).M.lterm)).1.stored (L.length * 9 + 6) (.int .i64 (⟨r.M, ae, ce⟩ : MsgA).M.commit)).1.stored (L.length * 9 + 7) (.bool (⟨r.M, ae, ce⟩ : MsgA).M.ok)).1.stored (L.length * 9 + 8) (.slice (⟨r.M, ae, ce⟩ : MsgA).ae (⟨r.M, ae, ce⟩ : MsgA).M.ents.length (⟨r.M, ae, ce⟩ : MsgA).ce)).1
        have hs2 := own_list (l' := ((L ++ [(⟨r.M, ae, ce⟩ : MsgA)]) ++ List.replicate (rs.length - (L ++ [(⟨r.M, ae, ce⟩ : MsgA)]).length) msgZ).flatMap msgE) hs (by
          rw [← app_set L rs.length msgZ (⟨r.M, ae, ce⟩ : MsgA) hlt, ← flat_setR msgE 9 (fun _ => rfl) _ L.length (by simp; omega) (⟨r.M, ae, ce⟩ : MsgA)]
          rfl)
        refine ⟨L ++ [(⟨r.M, ae, ce⟩ : MsgA)], (by (try simp) <;> (try omega)), (by simp), ?_, ?_, hs2, ?_, ?_⟩
        · rw [List.length_append, List.length_singleton, HTS.out, List.map_append, List.map_append, HL.out]; rfl
        · intro y hy
          have h0 : y.okF (w.heap.size + 1) w2 := by
            rcases List.mem_append.1 hy with h | h
            · exact (HF.out y h).keep hb2
            · simp at h; subst h; exact HQ.out
          have H0 := Lib.hid h0
          clear h0
          repeat (first | (with_reducible exact H0.out) | (with_reducible refine MsgA.okF.setCell ?_ ?_ _; rotate_left; (show w.heap.size < _; omega)))
        · have h0 := hbel.trans (hb2.mono hbel.size)
          have H0 := Lib.hid h0
          clear h0
          repeat (first | (with_reducible exact H0.out) | (with_reducible refine Below.setCell ?_ ?_ _; rotate_left; (show w.heap.size ≤ _; exact Nat.le_refl _)))
        · simp; omega
      case measure => simp [intOf]; omega
    · have hkn : L.length = rs.length := by omega
      rw [hkn, Nat.sub_self, List.replicate_zero, List.append_nil] at ho
      have HO := Lib.hid ho
      have HL := Lib.hid hL
      clear ho hown2 hL
      go_wp2_with fail
      go_ret
      rw [← hkn]
      refine ⟨_, L, rfl, ?_, ⟨⟨?_, fun b off e => by cases e; exact Nat.le_refl _⟩, fun r hr => (hF r hr).mono (by omega)⟩, hbel⟩
      · rw [HL.out, hkn, List.take_length]
      · exact Sl.of_own (fun _ => rfl) (by rw [hkn]; exact HO.out)
set_option maxRecDepth 100000 in
set_option maxHeartbeats 4000000 in
theorem toNodeS_c (a : Option Addr) (ca : Nat) (rs : List NodeA) (w : World) (ha : NodeS w a rs) (hs : ∀ r ∈ rs, NodeSz r.N 1048576) (la : rs.length ≤ 1048576) :
    Calls Try.prog 37 #[.slice a rs.length ca] w (NodeSR rs w) := by
  have HS := Lib.hid hs
  clear hs
  obtain ⟨i0, hi, hz0, hz1, hz2⟩ := info_parts Try.infoNode
  go_enter Try.func37, Try.ntmps37
  go_wp2_with (at_make; refine wpList_make_full _ rfl _ _ 30 rfl w.heap.size 54 i0 (.agg #[.int .i64 0, .int .i64 0, .int .i64 0, .int .i64 0, .int .i64 0, .bool false, .slice none 0 0, .int .i64 0, .int .i64 0, .int .i64 0, .slice none 0 0, .slice none 0 0, .slice none 0 0]) 13 Try.underlying30 hi hz0 hz1 .i64 .i64 _ _ rs.length rfl rfl rfl rfl ?c1 ?c2 ?c3 ?_)
  case c1 => rw [hz2]; omega
  case c2 => unfold maxLen; omega
  case c3 => exact Nat.le_refl _
  intro w1 hown hg
  have hm := madeCells_flat nodeE 13 nodeZ #[.int .i64 0, .int .i64 0, .int .i64 0, .int .i64 0, .int .i64 0, .bool false, .slice none 0 0, .int .i64 0, .int .i64 0, .int .i64 0, .slice none 0 0, .slice none 0 0, .slice none 0 0] rfl (fun _ => rfl) rs.length
  have hown2 : w1.ownsRow w.heap.size 54 13 (.slice (some ⟨w.heap.size, 0, none⟩) rs.length rs.length) rs.length ((List.replicate rs.length nodeZ).flatMap nodeE) := by rw [← hm]; exact hown
  clear hm hown
  go_wp2_with fail
  go_loopw [4] (fun i wr => ∃ L : List NodeA, L.length ≤ rs.length ∧ i = .int .i64 L.length ∧ L.map (·.N) = (rs.take L.length).map (·.N) ∧ (∀ r ∈ L, r.okF (w.heap.size + 1) wr) ∧ wr.ownsRow w.heap.size 54 13 (.slice (some ⟨w.heap.size, 0, none⟩) rs.length rs.length) rs.length ((L ++ List.replicate (rs.length - L.length) nodeZ).flatMap nodeE) ∧ Below w.heap.size w wr ∧ w.heap.size < wr.heap.size) (fun i _ => rs.length - (intOf i).toNat)
  case atStart => exact ⟨[], Nat.zero_le _, rfl, rfl, (by simp), by simpa using hown2, (Below.refl _ _).grown hg (Nat.le_refl _) (by simp), own_lt hown2⟩
  case round =>
    obtain ⟨L, hk, rfl, hL, hF, ho, hbel, hsz⟩ := hrel
    by_cases hlt : L.length < rs.length
    · obtain ⟨b1, o1, rfl, hb1, hc1⟩ := (ha.1.keep hbel).at hlt
      have c0 := hc1 L.length hlt 0 (by omega)
      have c1 := hc1 L.length hlt 1 (by omega)
      have c2 := hc1 L.length hlt 2 (by omega)
      have c3 := hc1 L.length hlt 3 (by omega)
      have c4 := hc1 L.length hlt 4 (by omega)
      have c5 := hc1 L.length hlt 5 (by omega)
      have c6 := hc1 L.length hlt 6 (by omega)
      have c7 := hc1 L.length hlt 7 (by omega)
      have c8 := hc1 L.length hlt 8 (by omega)
      have c9 := hc1 L.length hlt 9 (by omega)
      have c10 := hc1 L.length hlt 10 (by omega)
      have c11 := hc1 L.length hlt 11 (by omega)
      have c12 := hc1 L.length hlt 12 (by omega)
      simp only [nodeE, Nat.add_zero, List.getElem?_cons_zero, List.getElem?_cons_succ] at c0 c1 c2 c3 c4 c5 c6 c7 c8 c9 c10 c11 c12
      clear hc1
      have HTS := Lib.hid (List.take_succ_eq_append_getElem hlt)
      have hsz2 := HS.out rs[L.length] (List.getElem_mem _)
      have hok := (ha.2 rs[L.length] (List.getElem_mem _)).keep hbel
      generalize rs[L.length] = r at *
      have HO := Lib.hid ho
      have HL := Lib.hid hL
      clear ho hown2 hL
      have HF := Lib.hid hF
      clear hF
      go_wp2_with fail
      refine (toNode_c r.al r.cl r.av r.cv r.an r.cn r.am r.cm r.N _ hok.1 hsz2).mono ?_
      rintro e w2 ⟨al2, cl2, av2, cv2, an2, cn2, am2, cm2, rfl, hf2, hb2⟩
      obtain ⟨t, ht⟩ : ∃ t : NodeA, t = ⟨r.N, al2, cl2, av2, cv2, an2, cn2, am2, cm2⟩ := ⟨_, rfl⟩
      have HQ : Hid (t.okF (w.heap.size + 1) w2) := by
        subst ht
        obtain ⟨x1, x2, x3, y1, y2, y3, y4, f1, f2, f3, f4⟩ := hf2
        exact ⟨SlFrom.of_fresh (fun _ => rfl) f1 (by omega), SlFrom.of_fresh (fun _ => rfl) f2 (by omega), SlFrom.of_fresh (fun _ => rfl) f3 (by omega), SlFrom.of_fresh (fun _ => rfl) f4 (by omega), fit_of_own f1⟩
      have hrw : Hid (t.N = r.N) := by rw [ht]; rfl
      have hz2' := hb2.size
      have ho2 := HO.out.kept (grownBy_of_below hb2) (.inr (by simp [Value.ownBlock]))
      have f0 := ho2.frozenAt (L.length * 13 + 0)
      have g0 := ho2.cellAt (L.length * 13 + 0) (by omega)
      have f1 := ho2.frozenAt (L.length * 13 + 1)
      have g1 := ho2.cellAt (L.length * 13 + 1) (by omega)
      have f2 := ho2.frozenAt (L.length * 13 + 2)
      have g2 := ho2.cellAt (L.length * 13 + 2) (by omega)
      have f3 := ho2.frozenAt (L.length * 13 + 3)
      have g3 := ho2.cellAt (L.length * 13 + 3) (by omega)
      have f4 := ho2.frozenAt (L.length * 13 + 4)
      have g4 := ho2.cellAt (L.length * 13 + 4) (by omega)
      have f5 := ho2.frozenAt (L.length * 13 + 5)
      have g5 := ho2.cellAt (L.length * 13 + 5) (by omega)
      have f6 := ho2.frozenAt (L.length * 13 + 6)
      have g6 := ho2.cellAt (L.length * 13 + 6) (by omega)
      have f7 := ho2.frozenAt (L.length * 13 + 7)
      have g7 := ho2.cellAt (L.length * 13 + 7) (by omega)
      have f8 := ho2.frozenAt (L.length * 13 + 8)
      have g8 := ho2.cellAt (L.length * 13 + 8) (by omega)
      have f9 := ho2.frozenAt (L.length * 13 + 9)
      have g9 := ho2.cellAt (L.length * 13 + 9) (by omega)
      have f10 := ho2.frozenAt (L.length * 13 + 10)
      have g10 := ho2.cellAt (L.length * 13 + 10) (by omega)
      have f11 := ho2.frozenAt (L.length * 13 + 11)
      have g11 := ho2.cellAt (L.length * 13 + 11) (by omega)
      have f12 := ho2.frozenAt (L.length * 13 + 12)
      have g12 := ho2.cellAt (L.length * 13 + 12) (by omega)
      have hlen : ((L ++ List.replicate (rs.length - L.length) nodeZ).flatMap nodeE).length = rs.length * 13 := by rw [flat_length nodeE 13 (fun _ => rfl)]; congr 1; simp; omega
      rw [List.getElem?_eq_getElem (by omega)] at g0 g1 g2 g3 g4 g5 g6 g7 g8 g9 g10 g11 g12
      generalize ((L ++ List.replicate (rs.length - L.length) nodeZ).flatMap nodeE)[L.length * 13 + 0]'(by omega) = v0 at g0
      generalize ((L ++ List.replicate (rs.length - L.length) nodeZ).flatMap nodeE)[L.length * 13 + 1]'(by omega) = v1 at g1
      generalize ((L ++ List.replicate (rs.length - L.length) nodeZ).flatMap nodeE)[L.length * 13 + 2]'(by omega) = v2 at g2
      generalize ((L ++ List.replicate (rs.length - L.length) nodeZ).flatMap nodeE)[L.length * 13 + 3]'(by omega) = v3 at g3
      generalize ((L ++ List.replicate (rs.length - L.length) nodeZ).flatMap nodeE)[L.length * 13 + 4]'(by omega) = v4 at g4
      generalize ((L ++ List.replicate (rs.length - L.length) nodeZ).flatMap nodeE)[L.length * 13 + 5]'(by omega) = v5 at g5
      generalize ((L ++ List.replicate (rs.length - L.length) nodeZ).flatMap nodeE)[L.length * 13 + 6]'(by omega) = v6 at g6
      generalize ((L ++ List.replicate (rs.length - L.length) nodeZ).flatMap nodeE)[L.length * 13 + 7]'(by omega) = v7 at g7
      generalize ((L ++ List.replicate (rs.length - L.length) nodeZ).flatMap nodeE)[L.length * 13 + 8]'(by omega) = v8 at g8
      generalize ((L ++ List.replicate (rs.length - L.length) nodeZ).flatMap nodeE)[L.length * 13 + 9]'(by omega) = v9 at g9
      generalize ((L ++ List.replicate (rs.length - L.length) nodeZ).flatMap nodeE)[L.length * 13 + 10]'(by omega) = v10 at g10
      generalize ((L ++ List.replicate (rs.length - L.length) nodeZ).flatMap nodeE)[L.length * 13 + 11]'(by omega) = v11 at g11
      generalize ((L ++ List.replicate (rs.length - L.length) nodeZ).flatMap nodeE)[L.length * 13 + 12]'(by omega) = v12 at g12
      simp only [Nat.add_zero] at f0 g0
      have HO2 := Lib.hid ho2
      clear ho2 hlen
      go_wp2_with fail
      go_roundw
      case rel =>
        subst ht
        have ho := HO2.out
        have hs := (((((((((((((ho.stored (L.length * 13) (.int .i64 (⟨r.N, al2, cl2, av2, cv2, an2, cn2, am2, cm2⟩ : NodeA).N.id)).1.stored (L.length * 13 + 1) (.int .i64 (⟨r.N, al2, cl2, av2, cv2, an2, cn2, am2, cm2⟩ : NodeA).N.nodes)).1.stored (L.length * 13 + 2) (.int .i64 (⟨r.N, al2, cl2, av2, cv2, an2, cn2, am2, cm2⟩ : NodeA).N.term)).1.stored (L.length * 13 + 3) (.int .i64 (⟨r.N, al2, cl2, av2, cv2, an2, cn2, am2, cm2⟩ : NodeA).N.vote)).1.stored (L.length * 13 + 4) (.int .i64 (⟨r.N, al2, cl2, av2, cv2, an2, cn2, am2, cm2⟩ : NodeA).N.role)).1.stored (L.length * 13 + 5) (.bool (⟨r.N, al2, cl2, av2, cv2, an2, cn2, am2, cm2⟩ : NodeA).N.up)).1.stored (L.length * 13 + 6) (.slice (⟨r.N, al2, cl2, av2, cv2, an2, cn2, am2, cm2⟩ : NodeA).al (⟨r.N, al2, cl2, av2, cv2, an2, cn2, am2, cm2⟩ : NodeA).N.log.length (⟨r.N, al2, cl2, av2, cv2, an2, cn2, am2, cm2⟩ : NodeA).cl)).1.stored (L.length * 13 + 7) (.int .i64 (⟨r.N, al2, cl2, av2, cv2, an2, cn2, am2, cm2⟩ : NodeA).N.commit)).1.stored (L.length * 13 + 8) (.int .i64 (⟨r.N, al2, cl2, av2, cv2, an2, cn2, am2, cm2⟩ : NodeA).N.elapsed)).1.stored (L.length * 13 + 9) (.int .i64 (⟨r.N, al2, cl2, av2, cv2, an2, cn2, am2, cm2⟩ : NodeA).N.wait)).1.stored (L.length * 13 + 10) (.slice (⟨r.N, al2, cl2, av2, cv2, an2, cn2, am2, cm2⟩ : NodeA).av (⟨r.N, al2, cl2, av2, cv2, an2, cn2, am2, cm2⟩ : NodeA).N.votes.length (⟨r.N, al2, cl2, av2, cv2, an2, cn2, am2, cm2⟩ : NodeA).cv)).1.stored (L.length * 13 + 11) (.slice (⟨r.N, al2, cl2, av2, cv2, an2, cn2, am2, cm2⟩ : NodeA).an (⟨r.N, al2, cl2, av2, cv2, an2, cn2, am2, cm2⟩ : NodeA).N.next.length (⟨r.N, al2, cl2, av2, cv2, an2, cn2, am2, cm2⟩ : NodeA).cn)).1.stored (L.length * 13 + 12) (.slice (⟨r.N, al2, cl2, av2, cv2, an2, cn2, am2, cm2⟩ : NodeA).am (⟨r.N, al2, cl2, av2, cv2, an2, cn2, am2, cm2⟩ : NodeA).N.mtch.length (⟨r.N, al2, cl2, av2, cv2, an2, cn2, am2, cm2⟩ : NodeA).cm)).1
        have hs2 := own_list (l' := ((L ++ [(⟨r.N, al2, cl2, av2, cv2, an2, cn2, am2, cm2⟩ : NodeA)]) ++ List.replicate (rs.length - (L ++ [(⟨r.N, al2, cl2, av2, cv2, an2, cn2, am2, cm2⟩ : NodeA)]).length) nodeZ).flatMap nodeE) hs (by
          rw [← app_set L rs.length nodeZ (⟨r.N, al2, cl2, av2, cv2, an2, cn2, am2, cm2⟩ : NodeA) hlt, ← flat_setR nodeE 13 (fun _ => rfl) _ L.length (by simp; omega) (⟨r.N, al2, cl2, av2, cv2, an2, cn2, am2, cm2⟩ : NodeA)]
          rfl)
        refine ⟨L ++ [(⟨r.N, al2, cl2, av2, cv2, an2, cn2, am2, cm2⟩ : NodeA)], (by (try simp) <;> (try omega)), (by simp), ?_, ?_, hs2, ?_, ?_⟩
        · rw [List.length_append, List.length_singleton, HTS.out, List.map_append, List.map_append, HL.out]; rfl
        · intro y hy
          have h0 : y.okF (w.heap.size + 1) w2 := by
            rcases List.mem_append.1 hy with h | h
            · exact (HF.out y h).keep hb2
            · simp at h; subst h; exact HQ.out
          have H0 := Lib.hid h0
          clear h0
          repeat (first | (with_reducible exact H0.out) | (with_reducible refine NodeA.okF.setCell ?_ ?_ _; rotate_left; (show w.heap.size < _; omega)))
        · have h0 := hbel.trans (hb2.mono hbel.size)
          have H0 := Lib.hid h0
          clear h0
          repeat (first | (with_reducible exact H0.out) | (with_reducible refine Below.setCell ?_ ?_ _; rotate_left; (show w.heap.size ≤ _; exact Nat.le_refl _)))
        · simp; omega
      case measure => simp [intOf]; omega
    · have hkn : L.length = rs.length := by omega
      rw [hkn, Nat.sub_self, List.replicate_zero, List.append_nil] at ho
      have HO := Lib.hid ho
      have HL := Lib.hid hL
      clear ho hown2 hL
      go_wp2_with fail
      go_ret
      rw [← hkn]
      refine ⟨_, L, rfl, ?_, ⟨⟨?_, fun b off e => by cases e; exact Nat.le_refl _⟩, fun r hr => (hF r hr).mono (by omega)⟩, hbel⟩
      · rw [HL.out, hkn, List.take_length]
      · exact Sl.of_own (fun _ => rfl) (by rw [hkn]; exact HO.out)
end
section
open Go.RowKit
/-- The copy of a cluster. -/
def ToCluR (C : CluA) (w : World) (e : Ending) (w' : World) : Prop := ∃ D : CluA, e = .returned (.agg #[.slice D.an D.nodes.length D.cn, .slice D.ast D.stores.length D.cst, .slice D.aw D.wire.length D.cw, .slice D.ad D.done.length D.cd]) ∧ CluSame D C ∧ CluOK w' D ∧ Below w.heap.size w w'
set_option maxRecDepth 100000 in
set_option maxHeartbeats 4000000 in
theorem eqMessage_same (r t : MsgA) (w : World) (h1 : r.okM w) (h2 : Sl entE 2 w t.ae r.M.ents) (hZ : MsgSz r.M 1048576) :
    Calls Try.prog 82 #[.agg #[.int .i64 r.M.kind, .int .i64 r.M.src, .int .i64 r.M.dst, .int .i64 r.M.term, .int .i64 r.M.index, .int .i64 r.M.lterm, .int .i64 r.M.commit, .bool r.M.ok, .slice r.ae r.M.ents.length r.ce], .agg #[.int .i64 r.M.kind, .int .i64 r.M.src, .int .i64 r.M.dst, .int .i64 r.M.term, .int .i64 r.M.index, .int .i64 r.M.lterm, .int .i64 r.M.commit, .bool r.M.ok, .slice t.ae r.M.ents.length t.ce]] w fun e w' => e = .returned (.bool true) ∧ Below w.heap.size w w' := by
  have HZ := Lib.hid hZ
  unfold MsgA.okM at h1
  clear hZ
  go_enter Try.func82, Try.ntmps82
  go_wp2_with (first
    | (go_at_call 106
       refine (eqEntryS_c r.ae t.ae r.ce t.ce r.M.ents r.M.ents _ ((h1.alloc _).alloc _) ((h2.alloc _).alloc _) HZ.out.ents HZ.out.ents).mono ?_
       rintro e w1 ⟨rfl, hb1⟩
       simp only [decide_true]
       have HB1 : Hid (Below w.heap.size w w1) := ((((Below.refl _ _).alloc (Nat.le_refl _) _).alloc (by simp) _).trans (hb1.mono (by simp; try omega)))))
  go_ret
  exact ⟨rfl, HB1.out⟩
set_option maxRecDepth 100000 in
set_option maxHeartbeats 4000000 in
theorem eqStoreS_same (a b : Option Addr) (ca cb : Nat) (rs : List Sto) (w : World) (ha : StoS w a rs) (hb : StoS w b rs) (la : rs.length ≤ 1048576) :
    Calls Try.prog 43 #[.slice a rs.length ca, .slice b rs.length cb] w fun e w' => e = .returned (.bool true) ∧ Below w.heap.size w w' := by
  go_enter Try.func43, Try.ntmps43
  go_wp2_with fail
  go_loopw [5] (fun i wr => ∃ k : Nat, k ≤ rs.length ∧ i = .int .i64 k ∧ Below w.heap.size w wr) (fun i _ => rs.length - (intOf i).toNat)
  case atStart => exact ⟨0, Nat.zero_le _, rfl, Below.refl _ _⟩
  case round =>
    obtain ⟨k, hk, rfl, hbel⟩ := hrel
    by_cases hlt : k < rs.length
    · obtain ⟨b1, o1, rfl, hb1, hc1⟩ := (ha.keep hbel).at hlt
      obtain ⟨b2, o2, rfl, hb2, hc2⟩ := (hb.keep hbel).at hlt
      have c0 := hc1 k hlt 0 (by omega)
      have c1 := hc1 k hlt 1 (by omega)
      simp only [stoE, Nat.add_zero, List.getElem?_cons_zero, List.getElem?_cons_succ] at c0 c1
      have d0 := hc2 k hlt 0 (by omega)
      have d1 := hc2 k hlt 1 (by omega)
      simp only [stoE, Nat.add_zero, List.getElem?_cons_zero, List.getElem?_cons_succ] at d0 d1
      clear hc1 hc2
      generalize rs[k] = r at *
      have hee := eqStore_c r.1 r.1 r.2 r.2
      simp only [decide_true, Bool.and_true] at hee
      have HC := Lib.hid hee
      clear hee
      go_wp2_with fail
      go_still_tail 8, (by kernel_rfl)
      change wpList _ _ _ _ _ wr.drew
      have hb0 := hbel.drew
      generalize wr.drew = wd at *
      go_wp2_with fail
      refine (HC.out _).mono ?_
      rintro e w1 ⟨rfl, hb1'⟩
      go_wp2_with fail
      go_roundw
      case rel => exact ⟨k + 1, by omega, by go_num, hb0.trans (hb1'.mono hb0.size)⟩
      case measure => simp [intOf]; omega
    · obtain rfl : k = rs.length := by omega
      go_wp2_with fail
      go_ret
      exact ⟨rfl, hbel⟩
set_option maxRecDepth 100000 in
set_option maxHeartbeats 4000000 in
theorem eqMessageS_same (a b : Option Addr) (ca cb : Nat) (rs ts : List MsgA) (w : World) (ha : MsgS w a rs) (hb : MsgS w b ts) (he : ts.map (·.M) = rs.map (·.M)) (hs : ∀ r ∈ rs, MsgSz r.M 1048576) (la : rs.length ≤ 1048576) :
    Calls Try.prog 44 #[.slice a rs.length ca, .slice b ts.length cb] w fun e w' => e = .returned (.bool true) ∧ Below w.heap.size w w' := by
  have hl : ts.length = rs.length := map_len he
  rw [hl]
  have HS := Lib.hid hs
  have HE := Lib.hid he
  have HL := Lib.hid hl
  clear hs he hl
  go_enter Try.func44, Try.ntmps44
  go_wp2_with fail
  go_loopw [5] (fun i wr => ∃ k : Nat, k ≤ rs.length ∧ i = .int .i64 k ∧ Below w.heap.size w wr) (fun i _ => rs.length - (intOf i).toNat)
  case atStart => exact ⟨0, Nat.zero_le _, rfl, Below.refl _ _⟩
  case round =>
    obtain ⟨k, hk, rfl, hbel⟩ := hrel
    by_cases hlt : k < rs.length
    · obtain ⟨b1, o1, rfl, hb1, hc1⟩ := (ha.1.keep hbel).at hlt
      have hlt2 : k < ts.length := by have := HL.out; omega
      obtain ⟨b2, o2, rfl, hb2, hc2⟩ := (hb.1.keep hbel).at hlt2
      have c0 := hc1 k hlt 0 (by omega)
      have c1 := hc1 k hlt 1 (by omega)
      have c2 := hc1 k hlt 2 (by omega)
      have c3 := hc1 k hlt 3 (by omega)
      have c4 := hc1 k hlt 4 (by omega)
      have c5 := hc1 k hlt 5 (by omega)
      have c6 := hc1 k hlt 6 (by omega)
      have c7 := hc1 k hlt 7 (by omega)
      have c8 := hc1 k hlt 8 (by omega)
      simp only [msgE, Nat.add_zero, List.getElem?_cons_zero, List.getElem?_cons_succ] at c0 c1 c2 c3 c4 c5 c6 c7 c8
      have d0 := hc2 k hlt2 0 (by omega)
      have d1 := hc2 k hlt2 1 (by omega)
      have d2 := hc2 k hlt2 2 (by omega)
      have d3 := hc2 k hlt2 3 (by omega)
      have d4 := hc2 k hlt2 4 (by omega)
      have d5 := hc2 k hlt2 5 (by omega)
      have d6 := hc2 k hlt2 6 (by omega)
      have d7 := hc2 k hlt2 7 (by omega)
      have d8 := hc2 k hlt2 8 (by omega)
      simp only [msgE, Nat.add_zero, List.getElem?_cons_zero, List.getElem?_cons_succ] at d0 d1 d2 d3 d4 d5 d6 d7 d8
      clear hc1 hc2
      have hsz := HS.out rs[k] (List.getElem_mem _)
      have ok1 := (ha.2 rs[k] (List.getElem_mem _)).keep hbel
      have ok2 := (hb.2 ts[k] (List.getElem_mem _)).keep hbel
      have hm := map_at HE.out k hlt2 hlt
      generalize rs[k] = r at *
      generalize ts[k] = t at *
      replace hm : t.M = r.M := hm
      rw [hm] at d0 d1 d2 d3 d4 d5 d6 d7 d8
      have hM2 : Sl entE 2 wr t.ae r.M.ents := by have h : Sl entE 2 wr t.ae t.M.ents := ok2; rw [hm] at h; exact h
      clear hm ok2
      go_wp2_with fail
      go_still_tail 8, (by kernel_rfl)
      change wpList _ _ _ _ _ wr.drew
      have hb0 := hbel.drew
      have ok1 := MsgA.okM.keep ok1 ((Below.refl wr.heap.size wr).drew)
      have hM2 := hM2.keep ((Below.refl wr.heap.size wr).drew)
      generalize wr.drew = wd at *
      go_wp2_with fail
      refine (eqMessage_same r t _ ok1 hM2 hsz).mono ?_
      rintro e w1 ⟨rfl, hb1'⟩
      go_wp2_with fail
      go_roundw
      case rel => exact ⟨k + 1, by omega, by go_num, hb0.trans (hb1'.mono hb0.size)⟩
      case measure => simp [intOf]; omega
    · obtain rfl : k = rs.length := by omega
      go_wp2_with fail
      go_ret
      exact ⟨rfl, hbel⟩
set_option maxRecDepth 100000 in
set_option maxHeartbeats 4000000 in
theorem eqNodeS_same (a b : Option Addr) (ca cb : Nat) (rs ts : List NodeA) (w : World) (ha : NodeS w a rs) (hb : NodeS w b ts) (he : ts.map (·.N) = rs.map (·.N)) (hs : ∀ r ∈ rs, NodeSz r.N 1048576) (la : rs.length ≤ 1048576) :
    Calls Try.prog 42 #[.slice a rs.length ca, .slice b ts.length cb] w fun e w' => e = .returned (.bool true) ∧ Below w.heap.size w w' := by
  have hl : ts.length = rs.length := map_len he
  rw [hl]
  have HS := Lib.hid hs
  have HE := Lib.hid he
  have HL := Lib.hid hl
  clear hs he hl
  go_enter Try.func42, Try.ntmps42
  go_wp2_with fail
  go_loopw [5] (fun i wr => ∃ k : Nat, k ≤ rs.length ∧ i = .int .i64 k ∧ Below w.heap.size w wr) (fun i _ => rs.length - (intOf i).toNat)
  case atStart => exact ⟨0, Nat.zero_le _, rfl, Below.refl _ _⟩
  case round =>
    obtain ⟨k, hk, rfl, hbel⟩ := hrel
    by_cases hlt : k < rs.length
    · obtain ⟨b1, o1, rfl, hb1, hc1⟩ := (ha.1.keep hbel).at hlt
      have hlt2 : k < ts.length := by have := HL.out; omega
      obtain ⟨b2, o2, rfl, hb2, hc2⟩ := (hb.1.keep hbel).at hlt2
      have c0 := hc1 k hlt 0 (by omega)
      have c1 := hc1 k hlt 1 (by omega)
      have c2 := hc1 k hlt 2 (by omega)
      have c3 := hc1 k hlt 3 (by omega)
      have c4 := hc1 k hlt 4 (by omega)
      have c5 := hc1 k hlt 5 (by omega)
      have c6 := hc1 k hlt 6 (by omega)
      have c7 := hc1 k hlt 7 (by omega)
      have c8 := hc1 k hlt 8 (by omega)
      have c9 := hc1 k hlt 9 (by omega)
      have c10 := hc1 k hlt 10 (by omega)
      have c11 := hc1 k hlt 11 (by omega)
      have c12 := hc1 k hlt 12 (by omega)
      simp only [nodeE, Nat.add_zero, List.getElem?_cons_zero, List.getElem?_cons_succ] at c0 c1 c2 c3 c4 c5 c6 c7 c8 c9 c10 c11 c12
      have d0 := hc2 k hlt2 0 (by omega)
      have d1 := hc2 k hlt2 1 (by omega)
      have d2 := hc2 k hlt2 2 (by omega)
      have d3 := hc2 k hlt2 3 (by omega)
      have d4 := hc2 k hlt2 4 (by omega)
      have d5 := hc2 k hlt2 5 (by omega)
      have d6 := hc2 k hlt2 6 (by omega)
      have d7 := hc2 k hlt2 7 (by omega)
      have d8 := hc2 k hlt2 8 (by omega)
      have d9 := hc2 k hlt2 9 (by omega)
      have d10 := hc2 k hlt2 10 (by omega)
      have d11 := hc2 k hlt2 11 (by omega)
      have d12 := hc2 k hlt2 12 (by omega)
      simp only [nodeE, Nat.add_zero, List.getElem?_cons_zero, List.getElem?_cons_succ] at d0 d1 d2 d3 d4 d5 d6 d7 d8 d9 d10 d11 d12
      clear hc1 hc2
      have hsz := HS.out rs[k] (List.getElem_mem _)
      have ok1 := (ha.2 rs[k] (List.getElem_mem _)).keep hbel
      have ok2 := (hb.2 ts[k] (List.getElem_mem _)).keep hbel
      have hm := map_at HE.out k hlt2 hlt
      generalize rs[k] = r at *
      generalize ts[k] = t at *
      replace hm : t.N = r.N := hm
      rw [hm] at d0 d1 d2 d3 d4 d5 d6 d7 d8 d9 d10 d11 d12
      have hN2 : NodeSl wr t.al t.av t.an t.am r.N := by have := ok2.1; rw [hm] at this; exact this
      clear hm ok2
      go_wp2_with fail
      go_still_tail 8, (by kernel_rfl)
      change wpList _ _ _ _ _ wr.drew
      have hb0 := hbel.drew
      have ok1 := ok1.1.keep ((Below.refl wr.heap.size wr).drew)
      have hN2 := hN2.keep ((Below.refl wr.heap.size wr).drew)
      generalize wr.drew = wd at *
      go_wp2_with fail
      refine (eqNode_same r.al r.cl r.av r.cv r.an r.cn r.am r.cm t.al t.cl t.av t.cv t.an t.cn t.am t.cm r.N _ ok1 hN2 hsz).mono ?_
      rintro e w1 ⟨rfl, hb1'⟩
      go_wp2_with fail
      go_roundw
      case rel => exact ⟨k + 1, by omega, by go_num, hb0.trans (hb1'.mono hb0.size)⟩
      case measure => simp [intOf]; omega
    · obtain rfl : k = rs.length := by omega
      go_wp2_with fail
      go_ret
      exact ⟨rfl, hbel⟩
set_option maxRecDepth 100000 in
set_option maxHeartbeats 4000000 in
theorem szCluster_c (C : CluA) (left : Int) (w : World) (hC : CluOK w C) (hZ : CluSz C 9223372036854775807) (h0 : 0 ≤ left) (h1 : left ≤ 1048576) :
    Calls Try.prog 8 #[.agg #[.slice C.an C.nodes.length C.cn, .slice C.ast C.stores.length C.cst, .slice C.aw C.wire.length C.cw, .slice C.ad C.done.length C.cd], .int .i64 left] w (SzRes (CluSz C 1048576) w) := by
  have HZ := Lib.hid hZ
  clear hZ
  go_enter Try.func8, Try.ntmps8
  go_wp2_with fail
  refine (szNodeS_c C.an C.cn C.nodes left _ ((hC.alloc _).nodes) HZ.out.nl HZ.out.nodes h0 h1).mono ?_
  rintro e w1 ⟨⟨n1, rfl, hn1, himp1⟩, hb1⟩
  have HI1 := Lib.hid himp1
  clear himp1
  have hz1 := hb1.size
  try simp at hz1
  have q1_0_0 : w1.cell? ⟨w.heap.size, 0, none⟩ = some (.slice C.an C.nodes.length C.cn) := by
    rw [hb1.cell (p := ⟨w.heap.size, 0, none⟩) (show w.heap.size < _ by (try simp) <;> (try omega))]
    first | assumption | (simp [go_sem, *])
  have q1_0_1 : w1.cell? ⟨w.heap.size, 1, none⟩ = some (.slice C.ast C.stores.length C.cst) := by
    rw [hb1.cell (p := ⟨w.heap.size, 1, none⟩) (show w.heap.size < _ by (try simp) <;> (try omega))]
    first | assumption | (simp [go_sem, *])
  have q1_0_2 : w1.cell? ⟨w.heap.size, 2, none⟩ = some (.slice C.aw C.wire.length C.cw) := by
    rw [hb1.cell (p := ⟨w.heap.size, 2, none⟩) (show w.heap.size < _ by (try simp) <;> (try omega))]
    first | assumption | (simp [go_sem, *])
  have q1_0_3 : w1.cell? ⟨w.heap.size, 3, none⟩ = some (.slice C.ad C.done.length C.cd) := by
    rw [hb1.cell (p := ⟨w.heap.size, 3, none⟩) (show w.heap.size < _ by (try simp) <;> (try omega))]
    first | assumption | (simp [go_sem, *])
  have hl1_0 : w.heap.size < w1.heap.size := by omega
  have HB1 : Hid (Below w.heap.size w w1) := ((Below.refl _ _).alloc (Nat.le_refl _) _).trans (hb1.mono (by simp))
  by_cases hneg1 : n1 < 0
  · go_wp2_with fail
    go_ret
    exact ⟨⟨_, rfl, by omega, fun h => by omega⟩, HB1.out⟩
  go_wp2_with fail
  refine (szStoreS_c C.ast C.cst C.stores n1 _ ((hC.keep HB1.out).stores) HZ.out.sl HZ.out.stores (by omega) (by omega)).mono ?_
  rintro e w2 ⟨⟨n2, rfl, hn2, himp2⟩, hb2⟩
  have HI2 := Lib.hid himp2
  clear himp2
  have hz2 := hb2.size
  try simp at hz2
  have q2_0_0 : w2.cell? ⟨w.heap.size, 0, none⟩ = some (.slice C.an C.nodes.length C.cn) := by
    rw [hb2.cell (p := ⟨w.heap.size, 0, none⟩) (show w.heap.size < _ by (try simp) <;> (try omega))]
    first | assumption | (simp [go_sem, *])
  have q2_0_1 : w2.cell? ⟨w.heap.size, 1, none⟩ = some (.slice C.ast C.stores.length C.cst) := by
    rw [hb2.cell (p := ⟨w.heap.size, 1, none⟩) (show w.heap.size < _ by (try simp) <;> (try omega))]
    first | assumption | (simp [go_sem, *])
  have q2_0_2 : w2.cell? ⟨w.heap.size, 2, none⟩ = some (.slice C.aw C.wire.length C.cw) := by
    rw [hb2.cell (p := ⟨w.heap.size, 2, none⟩) (show w.heap.size < _ by (try simp) <;> (try omega))]
    first | assumption | (simp [go_sem, *])
  have q2_0_3 : w2.cell? ⟨w.heap.size, 3, none⟩ = some (.slice C.ad C.done.length C.cd) := by
    rw [hb2.cell (p := ⟨w.heap.size, 3, none⟩) (show w.heap.size < _ by (try simp) <;> (try omega))]
    first | assumption | (simp [go_sem, *])
  have hl2_0 : w.heap.size < w2.heap.size := by omega
  clear q1_0_0 q1_0_1 q1_0_2 q1_0_3
  have HB2 : Hid (Below w.heap.size w w2) := HB1.out.trans (hb2.mono (by omega))
  by_cases hneg2 : n2 < 0
  · go_wp2_with fail
    go_ret
    exact ⟨⟨_, rfl, by omega, fun h => by omega⟩, HB2.out⟩
  go_wp2_with fail
  refine (szMessageS_c C.aw C.cw C.wire n2 _ ((hC.keep HB2.out).wire) HZ.out.wl HZ.out.wire (by omega) (by omega)).mono ?_
  rintro e w3 ⟨⟨n3, rfl, hn3, himp3⟩, hb3⟩
  have HI3 := Lib.hid himp3
  clear himp3
  have hz3 := hb3.size
  try simp at hz3
  have q3_0_0 : w3.cell? ⟨w.heap.size, 0, none⟩ = some (.slice C.an C.nodes.length C.cn) := by
    rw [hb3.cell (p := ⟨w.heap.size, 0, none⟩) (show w.heap.size < _ by (try simp) <;> (try omega))]
    first | assumption | (simp [go_sem, *])
  have q3_0_1 : w3.cell? ⟨w.heap.size, 1, none⟩ = some (.slice C.ast C.stores.length C.cst) := by
    rw [hb3.cell (p := ⟨w.heap.size, 1, none⟩) (show w.heap.size < _ by (try simp) <;> (try omega))]
    first | assumption | (simp [go_sem, *])
  have q3_0_2 : w3.cell? ⟨w.heap.size, 2, none⟩ = some (.slice C.aw C.wire.length C.cw) := by
    rw [hb3.cell (p := ⟨w.heap.size, 2, none⟩) (show w.heap.size < _ by (try simp) <;> (try omega))]
    first | assumption | (simp [go_sem, *])
  have q3_0_3 : w3.cell? ⟨w.heap.size, 3, none⟩ = some (.slice C.ad C.done.length C.cd) := by
    rw [hb3.cell (p := ⟨w.heap.size, 3, none⟩) (show w.heap.size < _ by (try simp) <;> (try omega))]
    first | assumption | (simp [go_sem, *])
  have hl3_0 : w.heap.size < w3.heap.size := by omega
  clear q2_0_0 q2_0_1 q2_0_2 q2_0_3
  have HB3 : Hid (Below w.heap.size w w3) := HB2.out.trans (hb3.mono (by omega))
  by_cases hneg3 : n3 < 0
  · go_wp2_with fail
    go_ret
    exact ⟨⟨_, rfl, by omega, fun h => by omega⟩, HB3.out⟩
  go_wp2_with fail
  refine (szStringS_c C.ad C.cd C.done n3 _ ((hC.keep HB3.out).done) HZ.out.dl HZ.out.done (by omega) (by omega)).mono ?_
  rintro e w4 ⟨⟨n4, rfl, hn4, himp4⟩, hb4⟩
  have HI4 := Lib.hid himp4
  clear himp4
  have hz4 := hb4.size
  try simp at hz4
  have q4_0_0 : w4.cell? ⟨w.heap.size, 0, none⟩ = some (.slice C.an C.nodes.length C.cn) := by
    rw [hb4.cell (p := ⟨w.heap.size, 0, none⟩) (show w.heap.size < _ by (try simp) <;> (try omega))]
    first | assumption | (simp [go_sem, *])
  have q4_0_1 : w4.cell? ⟨w.heap.size, 1, none⟩ = some (.slice C.ast C.stores.length C.cst) := by
    rw [hb4.cell (p := ⟨w.heap.size, 1, none⟩) (show w.heap.size < _ by (try simp) <;> (try omega))]
    first | assumption | (simp [go_sem, *])
  have q4_0_2 : w4.cell? ⟨w.heap.size, 2, none⟩ = some (.slice C.aw C.wire.length C.cw) := by
    rw [hb4.cell (p := ⟨w.heap.size, 2, none⟩) (show w.heap.size < _ by (try simp) <;> (try omega))]
    first | assumption | (simp [go_sem, *])
  have q4_0_3 : w4.cell? ⟨w.heap.size, 3, none⟩ = some (.slice C.ad C.done.length C.cd) := by
    rw [hb4.cell (p := ⟨w.heap.size, 3, none⟩) (show w.heap.size < _ by (try simp) <;> (try omega))]
    first | assumption | (simp [go_sem, *])
  have hl4_0 : w.heap.size < w4.heap.size := by omega
  clear q3_0_0 q3_0_1 q3_0_2 q3_0_3
  have HB4 : Hid (Below w.heap.size w w4) := HB3.out.trans (hb4.mono (by omega))
  by_cases hneg4 : n4 < 0
  · go_wp2_with fail
    go_ret
    exact ⟨⟨_, rfl, by omega, fun h => by omega⟩, HB4.out⟩
  go_wp2_with fail
  go_ret
  exact ⟨⟨_, rfl, by omega, fun h => ⟨(HI1.out (by omega)).1, (HI1.out (by omega)).2, (HI2.out (by omega)).1, (HI2.out (by omega)).2, (HI3.out (by omega)).1, (HI3.out (by omega)).2, (HI4.out (by omega)).1, (HI4.out (by omega)).2⟩⟩, HB4.out⟩
set_option maxRecDepth 100000 in
set_option maxHeartbeats 4000000 in
theorem eqCluster_same (C D : CluA) (w : World) (hC : CluOK w C) (hD : CluOK w D) (hE : CluSame D C) (hZ : CluSz C 1048576) :
    Calls Try.prog 12 #[.agg #[.slice C.an C.nodes.length C.cn, .slice C.ast C.stores.length C.cst, .slice C.aw C.wire.length C.cw, .slice C.ad C.done.length C.cd], .agg #[.slice D.an D.nodes.length D.cn, .slice D.ast D.stores.length D.cst, .slice D.aw D.wire.length D.cw, .slice D.ad D.done.length D.cd]] w fun e w' => e = .returned (.bool true) ∧ Below w.heap.size w w' := by
  have HZ := Lib.hid hZ
  have HE := Lib.hid hE
  have hst : StoS w D.ast C.stores := by have := hD.stores; rw [hE.stores] at this; exact this
  have hdo : Sl strE 1 w D.ad C.done := by have := hD.done; rw [hE.done] at this; exact this
  have HST := Lib.hid hst
  have HDO := Lib.hid hdo
  rw [hE.stores, hE.done]
  clear hZ hE hst hdo
  go_enter Try.func12, Try.ntmps12
  go_wp2_with (first
    | (go_at_call 42
       refine (eqNodeS_same C.an D.an C.cn D.cn C.nodes D.nodes _ (hC.keep (((Below.refl _ _).alloc (Nat.le_refl _) _).alloc (by simp) _)).nodes (hD.keep (((Below.refl _ _).alloc (Nat.le_refl _) _).alloc (by simp) _)).nodes HE.out.nodes HZ.out.nodes HZ.out.nl).mono ?_
       rintro e w1 ⟨rfl, hb1⟩
       have hz1 := hb1.size
       try simp at hz1
       have q1_0_0 : w1.cell? ⟨w.heap.size, 0, none⟩ = some (.slice C.an C.nodes.length C.cn) := by
         rw [hb1.cell (p := ⟨w.heap.size, 0, none⟩) (show w.heap.size < _ by (try simp) <;> (try omega))]
         first | assumption | (simp [go_sem, *])
       have q1_0_1 : w1.cell? ⟨w.heap.size, 1, none⟩ = some (.slice C.ast C.stores.length C.cst) := by
         rw [hb1.cell (p := ⟨w.heap.size, 1, none⟩) (show w.heap.size < _ by (try simp) <;> (try omega))]
         first | assumption | (simp [go_sem, *])
       have q1_0_2 : w1.cell? ⟨w.heap.size, 2, none⟩ = some (.slice C.aw C.wire.length C.cw) := by
         rw [hb1.cell (p := ⟨w.heap.size, 2, none⟩) (show w.heap.size < _ by (try simp) <;> (try omega))]
         first | assumption | (simp [go_sem, *])
       have q1_0_3 : w1.cell? ⟨w.heap.size, 3, none⟩ = some (.slice C.ad C.done.length C.cd) := by
         rw [hb1.cell (p := ⟨w.heap.size, 3, none⟩) (show w.heap.size < _ by (try simp) <;> (try omega))]
         first | assumption | (simp [go_sem, *])
       have hl1_0 : w.heap.size < w1.heap.size := by omega
       have q1_1_0 : w1.cell? ⟨w.heap.size + 1, 0, none⟩ = some (.slice D.an D.nodes.length D.cn) := by
         rw [hb1.cell (p := ⟨w.heap.size + 1, 0, none⟩) (show w.heap.size + 1 < _ by (try simp) <;> (try omega))]
         first | assumption | (simp [go_sem, *])
       have q1_1_1 : w1.cell? ⟨w.heap.size + 1, 1, none⟩ = some (.slice D.ast C.stores.length D.cst) := by
         rw [hb1.cell (p := ⟨w.heap.size + 1, 1, none⟩) (show w.heap.size + 1 < _ by (try simp) <;> (try omega))]
         first | assumption | (simp [go_sem, *])
       have q1_1_2 : w1.cell? ⟨w.heap.size + 1, 2, none⟩ = some (.slice D.aw D.wire.length D.cw) := by
         rw [hb1.cell (p := ⟨w.heap.size + 1, 2, none⟩) (show w.heap.size + 1 < _ by (try simp) <;> (try omega))]
         first | assumption | (simp [go_sem, *])
       have q1_1_3 : w1.cell? ⟨w.heap.size + 1, 3, none⟩ = some (.slice D.ad C.done.length D.cd) := by
         rw [hb1.cell (p := ⟨w.heap.size + 1, 3, none⟩) (show w.heap.size + 1 < _ by (try simp) <;> (try omega))]
         first | assumption | (simp [go_sem, *])
       have hl1_1 : w.heap.size + 1 < w1.heap.size := by omega
       have HB1 : Hid (Below w.heap.size w w1) := (((Below.refl _ _).alloc (Nat.le_refl _) _).alloc (by simp) _).trans (hb1.mono (by simp; try omega)))
    | (go_at_call 43
       refine (eqStoreS_same C.ast D.ast C.cst D.cst C.stores _ (hC.keep HB1.out).stores (HST.out.keep HB1.out) HZ.out.sl).mono ?_
       rintro e w2 ⟨rfl, hb2⟩
       have hz2 := hb2.size
       try simp at hz2
       have q2_0_0 : w2.cell? ⟨w.heap.size, 0, none⟩ = some (.slice C.an C.nodes.length C.cn) := by
         rw [hb2.cell (p := ⟨w.heap.size, 0, none⟩) (show w.heap.size < _ by (try simp) <;> (try omega))]
         first | assumption | (simp [go_sem, *])
       have q2_0_1 : w2.cell? ⟨w.heap.size, 1, none⟩ = some (.slice C.ast C.stores.length C.cst) := by
         rw [hb2.cell (p := ⟨w.heap.size, 1, none⟩) (show w.heap.size < _ by (try simp) <;> (try omega))]
         first | assumption | (simp [go_sem, *])
       have q2_0_2 : w2.cell? ⟨w.heap.size, 2, none⟩ = some (.slice C.aw C.wire.length C.cw) := by
         rw [hb2.cell (p := ⟨w.heap.size, 2, none⟩) (show w.heap.size < _ by (try simp) <;> (try omega))]
         first | assumption | (simp [go_sem, *])
       have q2_0_3 : w2.cell? ⟨w.heap.size, 3, none⟩ = some (.slice C.ad C.done.length C.cd) := by
         rw [hb2.cell (p := ⟨w.heap.size, 3, none⟩) (show w.heap.size < _ by (try simp) <;> (try omega))]
         first | assumption | (simp [go_sem, *])
       have hl2_0 : w.heap.size < w2.heap.size := by omega
       have q2_1_0 : w2.cell? ⟨w.heap.size + 1, 0, none⟩ = some (.slice D.an D.nodes.length D.cn) := by
         rw [hb2.cell (p := ⟨w.heap.size + 1, 0, none⟩) (show w.heap.size + 1 < _ by (try simp) <;> (try omega))]
         first | assumption | (simp [go_sem, *])
       have q2_1_1 : w2.cell? ⟨w.heap.size + 1, 1, none⟩ = some (.slice D.ast C.stores.length D.cst) := by
         rw [hb2.cell (p := ⟨w.heap.size + 1, 1, none⟩) (show w.heap.size + 1 < _ by (try simp) <;> (try omega))]
         first | assumption | (simp [go_sem, *])
       have q2_1_2 : w2.cell? ⟨w.heap.size + 1, 2, none⟩ = some (.slice D.aw D.wire.length D.cw) := by
         rw [hb2.cell (p := ⟨w.heap.size + 1, 2, none⟩) (show w.heap.size + 1 < _ by (try simp) <;> (try omega))]
         first | assumption | (simp [go_sem, *])
       have q2_1_3 : w2.cell? ⟨w.heap.size + 1, 3, none⟩ = some (.slice D.ad C.done.length D.cd) := by
         rw [hb2.cell (p := ⟨w.heap.size + 1, 3, none⟩) (show w.heap.size + 1 < _ by (try simp) <;> (try omega))]
         first | assumption | (simp [go_sem, *])
       have hl2_1 : w.heap.size + 1 < w2.heap.size := by omega
       clear q1_0_0 q1_0_1 q1_0_2 q1_0_3 q1_1_0 q1_1_1 q1_1_2 q1_1_3
       have HB2 : Hid (Below w.heap.size w w2) := HB1.out.trans (hb2.mono (by omega)))
    | (go_at_call 44
       refine (eqMessageS_same C.aw D.aw C.cw D.cw C.wire D.wire _ (hC.keep HB2.out).wire (hD.keep HB2.out).wire HE.out.wire HZ.out.wire HZ.out.wl).mono ?_
       rintro e w3 ⟨rfl, hb3⟩
       have hz3 := hb3.size
       try simp at hz3
       have q3_0_0 : w3.cell? ⟨w.heap.size, 0, none⟩ = some (.slice C.an C.nodes.length C.cn) := by
         rw [hb3.cell (p := ⟨w.heap.size, 0, none⟩) (show w.heap.size < _ by (try simp) <;> (try omega))]
         first | assumption | (simp [go_sem, *])
       have q3_0_1 : w3.cell? ⟨w.heap.size, 1, none⟩ = some (.slice C.ast C.stores.length C.cst) := by
         rw [hb3.cell (p := ⟨w.heap.size, 1, none⟩) (show w.heap.size < _ by (try simp) <;> (try omega))]
         first | assumption | (simp [go_sem, *])
       have q3_0_2 : w3.cell? ⟨w.heap.size, 2, none⟩ = some (.slice C.aw C.wire.length C.cw) := by
         rw [hb3.cell (p := ⟨w.heap.size, 2, none⟩) (show w.heap.size < _ by (try simp) <;> (try omega))]
         first | assumption | (simp [go_sem, *])
       have q3_0_3 : w3.cell? ⟨w.heap.size, 3, none⟩ = some (.slice C.ad C.done.length C.cd) := by
         rw [hb3.cell (p := ⟨w.heap.size, 3, none⟩) (show w.heap.size < _ by (try simp) <;> (try omega))]
         first | assumption | (simp [go_sem, *])
       have hl3_0 : w.heap.size < w3.heap.size := by omega
       have q3_1_0 : w3.cell? ⟨w.heap.size + 1, 0, none⟩ = some (.slice D.an D.nodes.length D.cn) := by
         rw [hb3.cell (p := ⟨w.heap.size + 1, 0, none⟩) (show w.heap.size + 1 < _ by (try simp) <;> (try omega))]
         first | assumption | (simp [go_sem, *])
       have q3_1_1 : w3.cell? ⟨w.heap.size + 1, 1, none⟩ = some (.slice D.ast C.stores.length D.cst) := by
         rw [hb3.cell (p := ⟨w.heap.size + 1, 1, none⟩) (show w.heap.size + 1 < _ by (try simp) <;> (try omega))]
         first | assumption | (simp [go_sem, *])
       have q3_1_2 : w3.cell? ⟨w.heap.size + 1, 2, none⟩ = some (.slice D.aw D.wire.length D.cw) := by
         rw [hb3.cell (p := ⟨w.heap.size + 1, 2, none⟩) (show w.heap.size + 1 < _ by (try simp) <;> (try omega))]
         first | assumption | (simp [go_sem, *])
       have q3_1_3 : w3.cell? ⟨w.heap.size + 1, 3, none⟩ = some (.slice D.ad C.done.length D.cd) := by
         rw [hb3.cell (p := ⟨w.heap.size + 1, 3, none⟩) (show w.heap.size + 1 < _ by (try simp) <;> (try omega))]
         first | assumption | (simp [go_sem, *])
       have hl3_1 : w.heap.size + 1 < w3.heap.size := by omega
       clear q2_0_0 q2_0_1 q2_0_2 q2_0_3 q2_1_0 q2_1_1 q2_1_2 q2_1_3
       have HB3 : Hid (Below w.heap.size w w3) := HB2.out.trans (hb3.mono (by omega)))
    | (go_at_call 19
       refine (eqStringS_c C.ad D.ad C.cd D.cd C.done C.done _ (hC.keep HB3.out).done (HDO.out.keep HB3.out) HZ.out.dl HZ.out.dl).mono ?_
       rintro e w4 ⟨rfl, hb4⟩
       simp only [decide_true]
       have hz4 := hb4.size
       try simp at hz4
       have q4_0_0 : w4.cell? ⟨w.heap.size, 0, none⟩ = some (.slice C.an C.nodes.length C.cn) := by
         rw [hb4.cell (p := ⟨w.heap.size, 0, none⟩) (show w.heap.size < _ by (try simp) <;> (try omega))]
         first | assumption | (simp [go_sem, *])
       have q4_0_1 : w4.cell? ⟨w.heap.size, 1, none⟩ = some (.slice C.ast C.stores.length C.cst) := by
         rw [hb4.cell (p := ⟨w.heap.size, 1, none⟩) (show w.heap.size < _ by (try simp) <;> (try omega))]
         first | assumption | (simp [go_sem, *])
       have q4_0_2 : w4.cell? ⟨w.heap.size, 2, none⟩ = some (.slice C.aw C.wire.length C.cw) := by
         rw [hb4.cell (p := ⟨w.heap.size, 2, none⟩) (show w.heap.size < _ by (try simp) <;> (try omega))]
         first | assumption | (simp [go_sem, *])
       have q4_0_3 : w4.cell? ⟨w.heap.size, 3, none⟩ = some (.slice C.ad C.done.length C.cd) := by
         rw [hb4.cell (p := ⟨w.heap.size, 3, none⟩) (show w.heap.size < _ by (try simp) <;> (try omega))]
         first | assumption | (simp [go_sem, *])
       have hl4_0 : w.heap.size < w4.heap.size := by omega
       have q4_1_0 : w4.cell? ⟨w.heap.size + 1, 0, none⟩ = some (.slice D.an D.nodes.length D.cn) := by
         rw [hb4.cell (p := ⟨w.heap.size + 1, 0, none⟩) (show w.heap.size + 1 < _ by (try simp) <;> (try omega))]
         first | assumption | (simp [go_sem, *])
       have q4_1_1 : w4.cell? ⟨w.heap.size + 1, 1, none⟩ = some (.slice D.ast C.stores.length D.cst) := by
         rw [hb4.cell (p := ⟨w.heap.size + 1, 1, none⟩) (show w.heap.size + 1 < _ by (try simp) <;> (try omega))]
         first | assumption | (simp [go_sem, *])
       have q4_1_2 : w4.cell? ⟨w.heap.size + 1, 2, none⟩ = some (.slice D.aw D.wire.length D.cw) := by
         rw [hb4.cell (p := ⟨w.heap.size + 1, 2, none⟩) (show w.heap.size + 1 < _ by (try simp) <;> (try omega))]
         first | assumption | (simp [go_sem, *])
       have q4_1_3 : w4.cell? ⟨w.heap.size + 1, 3, none⟩ = some (.slice D.ad C.done.length D.cd) := by
         rw [hb4.cell (p := ⟨w.heap.size + 1, 3, none⟩) (show w.heap.size + 1 < _ by (try simp) <;> (try omega))]
         first | assumption | (simp [go_sem, *])
       have hl4_1 : w.heap.size + 1 < w4.heap.size := by omega
       clear q3_0_0 q3_0_1 q3_0_2 q3_0_3 q3_1_0 q3_1_1 q3_1_2 q3_1_3
       have HB4 : Hid (Below w.heap.size w w4) := HB3.out.trans (hb4.mono (by omega))))
  go_ret
  exact ⟨rfl, HB4.out⟩
set_option maxRecDepth 100000 in
set_option maxHeartbeats 4000000 in
theorem toCluster_c (C : CluA) (w : World) (hC : CluOK w C) (hZ : CluSz C 1048576) :
    Calls Try.prog 10 #[.agg #[.slice C.an C.nodes.length C.cn, .slice C.ast C.stores.length C.cst, .slice C.aw C.wire.length C.cw, .slice C.ad C.done.length C.cd]] w (ToCluR C w) := by
  have HZ := Lib.hid hZ
  clear hZ
  go_enter Try.func10, Try.ntmps10
  go_wp2_with fail
  refine (toNodeS_c C.an C.cn C.nodes _ (hC.keep ((((Below.refl _ _).alloc (Nat.le_refl _) _).alloc (by simp) _).alloc (by simp; try omega) _)).nodes HZ.out.nodes HZ.out.nl).mono ?_
  rintro e w1 ⟨g1, L1, rfl, he1, hf1, hb1⟩
  have hz1 := hb1.size
  simp at hz1
  have HB1 : Hid (Below w.heap.size w w1) := ((((Below.refl _ _).alloc (Nat.le_refl _) _).alloc (by simp) _).alloc (by simp; try omega) _).trans (hb1.mono (by simp; try omega))
  have s1_0 : w1.cell? ⟨w.heap.size, 0, none⟩ = some (.slice C.an C.nodes.length C.cn) := (hb1.cell (p := ⟨w.heap.size, 0, none⟩) (by show w.heap.size < _; simp; try omega)).trans (by simp [go_sem])
  have s1_1 : w1.cell? ⟨w.heap.size, 1, none⟩ = some (.slice C.ast C.stores.length C.cst) := (hb1.cell (p := ⟨w.heap.size, 1, none⟩) (by show w.heap.size < _; simp; try omega)).trans (by simp [go_sem])
  have s1_2 : w1.cell? ⟨w.heap.size, 2, none⟩ = some (.slice C.aw C.wire.length C.cw) := (hb1.cell (p := ⟨w.heap.size, 2, none⟩) (by show w.heap.size < _; simp; try omega)).trans (by simp [go_sem])
  have s1_3 : w1.cell? ⟨w.heap.size, 3, none⟩ = some (.slice C.ad C.done.length C.cd) := (hb1.cell (p := ⟨w.heap.size, 3, none⟩) (by show w.heap.size < _; simp; try omega)).trans (by simp [go_sem])
  have sf1 : ∀ o, w1.frozen? ⟨w.heap.size, o, none⟩ = false := fun o => (hb1.frozen (p := ⟨w.heap.size, o, none⟩) (by show w.heap.size < _; simp; try omega)).trans (by simp [go_sem])
  have z1_0 : w1.cell? ⟨w.heap.size + 1, 0, none⟩ = some (.slice none 0 0) := (hb1.cell (p := ⟨w.heap.size + 1, 0, none⟩) (by show w.heap.size + 1 < _; simp; try omega)).trans (by simp [go_sem])
  have z1_1 : w1.cell? ⟨w.heap.size + 1, 1, none⟩ = some (.slice none 0 0) := (hb1.cell (p := ⟨w.heap.size + 1, 1, none⟩) (by show w.heap.size + 1 < _; simp; try omega)).trans (by simp [go_sem])
  have z1_2 : w1.cell? ⟨w.heap.size + 1, 2, none⟩ = some (.slice none 0 0) := (hb1.cell (p := ⟨w.heap.size + 1, 2, none⟩) (by show w.heap.size + 1 < _; simp; try omega)).trans (by simp [go_sem])
  have z1_3 : w1.cell? ⟨w.heap.size + 1, 3, none⟩ = some (.slice none 0 0) := (hb1.cell (p := ⟨w.heap.size + 1, 3, none⟩) (by show w.heap.size + 1 < _; simp; try omega)).trans (by simp [go_sem])
  have zf1 : ∀ o, w1.frozen? ⟨w.heap.size + 1, o, none⟩ = false := fun o => (hb1.frozen (p := ⟨w.heap.size + 1, o, none⟩) (by show w.heap.size + 1 < _; simp; try omega)).trans (by simp [go_sem])
  have m1_0 : w1.cell? ⟨w.heap.size + 1 + 1, 0, none⟩ = some (.slice none 0 0) := (hb1.cell (p := ⟨w.heap.size + 1 + 1, 0, none⟩) (by show w.heap.size + 1 + 1 < _; simp; try omega)).trans (by simp [go_sem])
  have m1_1 : w1.cell? ⟨w.heap.size + 1 + 1, 1, none⟩ = some (.slice none 0 0) := (hb1.cell (p := ⟨w.heap.size + 1 + 1, 1, none⟩) (by show w.heap.size + 1 + 1 < _; simp; try omega)).trans (by simp [go_sem])
  have m1_2 : w1.cell? ⟨w.heap.size + 1 + 1, 2, none⟩ = some (.slice none 0 0) := (hb1.cell (p := ⟨w.heap.size + 1 + 1, 2, none⟩) (by show w.heap.size + 1 + 1 < _; simp; try omega)).trans (by simp [go_sem])
  have m1_3 : w1.cell? ⟨w.heap.size + 1 + 1, 3, none⟩ = some (.slice none 0 0) := (hb1.cell (p := ⟨w.heap.size + 1 + 1, 3, none⟩) (by show w.heap.size + 1 + 1 < _; simp; try omega)).trans (by simp [go_sem])
  have mf1 : ∀ o, w1.frozen? ⟨w.heap.size + 1 + 1, o, none⟩ = false := fun o => (hb1.frozen (p := ⟨w.heap.size + 1 + 1, o, none⟩) (by show w.heap.size + 1 + 1 < _; simp; try omega)).trans (by simp [go_sem])
  have hl1 : w.heap.size + 1 + 1 < w1.heap.size := by omega
  have hf1' := hf1.mono (B' := w.heap.size + 3) (by simp; try omega)
  have HF1_1 := Lib.hid hf1'
  clear hf1 hf1' hb1
  go_wp2_with fail
  refine (toStoreS_c C.ast C.cst C.stores _ (hC.keep (HB1.out.setCell (p := ⟨w.heap.size + 1 + 1, 0, none⟩) (by show _ ≤ w.heap.size + 1 + 1; omega) _)).stores HZ.out.sl).mono ?_
  rintro e w2 ⟨g2, rfl, hf2, hb2⟩
  have hz2 := hb2.size
  simp at hz2
  have HB2 : Hid (Below w.heap.size w w2) := (HB1.out.setCell (p := ⟨w.heap.size + 1 + 1, 0, none⟩) (by show _ ≤ w.heap.size + 1 + 1; omega) _).trans (hb2.mono (by simp; try omega))
  have s2_0 : w2.cell? ⟨w.heap.size, 0, none⟩ = some (.slice C.an C.nodes.length C.cn) := (hb2.cell (p := ⟨w.heap.size, 0, none⟩) (by show w.heap.size < _; simp; try omega)).trans (by simp [go_sem, s1_0])
  have s2_1 : w2.cell? ⟨w.heap.size, 1, none⟩ = some (.slice C.ast C.stores.length C.cst) := (hb2.cell (p := ⟨w.heap.size, 1, none⟩) (by show w.heap.size < _; simp; try omega)).trans (by simp [go_sem, s1_1])
  have s2_2 : w2.cell? ⟨w.heap.size, 2, none⟩ = some (.slice C.aw C.wire.length C.cw) := (hb2.cell (p := ⟨w.heap.size, 2, none⟩) (by show w.heap.size < _; simp; try omega)).trans (by simp [go_sem, s1_2])
  have s2_3 : w2.cell? ⟨w.heap.size, 3, none⟩ = some (.slice C.ad C.done.length C.cd) := (hb2.cell (p := ⟨w.heap.size, 3, none⟩) (by show w.heap.size < _; simp; try omega)).trans (by simp [go_sem, s1_3])
  have sf2 : ∀ o, w2.frozen? ⟨w.heap.size, o, none⟩ = false := fun o => (hb2.frozen (p := ⟨w.heap.size, o, none⟩) (by show w.heap.size < _; simp; try omega)).trans (by simp [go_sem, sf1])
  have z2_0 : w2.cell? ⟨w.heap.size + 1, 0, none⟩ = some (.slice none 0 0) := (hb2.cell (p := ⟨w.heap.size + 1, 0, none⟩) (by show w.heap.size + 1 < _; simp; try omega)).trans (by simp [go_sem, z1_0])
  have z2_1 : w2.cell? ⟨w.heap.size + 1, 1, none⟩ = some (.slice none 0 0) := (hb2.cell (p := ⟨w.heap.size + 1, 1, none⟩) (by show w.heap.size + 1 < _; simp; try omega)).trans (by simp [go_sem, z1_1])
  have z2_2 : w2.cell? ⟨w.heap.size + 1, 2, none⟩ = some (.slice none 0 0) := (hb2.cell (p := ⟨w.heap.size + 1, 2, none⟩) (by show w.heap.size + 1 < _; simp; try omega)).trans (by simp [go_sem, z1_2])
  have z2_3 : w2.cell? ⟨w.heap.size + 1, 3, none⟩ = some (.slice none 0 0) := (hb2.cell (p := ⟨w.heap.size + 1, 3, none⟩) (by show w.heap.size + 1 < _; simp; try omega)).trans (by simp [go_sem, z1_3])
  have zf2 : ∀ o, w2.frozen? ⟨w.heap.size + 1, o, none⟩ = false := fun o => (hb2.frozen (p := ⟨w.heap.size + 1, o, none⟩) (by show w.heap.size + 1 < _; simp; try omega)).trans (by simp [go_sem, zf1])
  have m2_0 : w2.cell? ⟨w.heap.size + 1 + 1, 0, none⟩ = some (.slice (some ⟨g1, 0, none⟩) L1.length L1.length) := (hb2.cell (p := ⟨w.heap.size + 1 + 1, 0, none⟩) (by show w.heap.size + 1 + 1 < _; simp; try omega)).trans (by simp [go_sem, m1_0])
  have m2_1 : w2.cell? ⟨w.heap.size + 1 + 1, 1, none⟩ = some (.slice none 0 0) := (hb2.cell (p := ⟨w.heap.size + 1 + 1, 1, none⟩) (by show w.heap.size + 1 + 1 < _; simp; try omega)).trans (by simp [go_sem, m1_1])
  have m2_2 : w2.cell? ⟨w.heap.size + 1 + 1, 2, none⟩ = some (.slice none 0 0) := (hb2.cell (p := ⟨w.heap.size + 1 + 1, 2, none⟩) (by show w.heap.size + 1 + 1 < _; simp; try omega)).trans (by simp [go_sem, m1_2])
  have m2_3 : w2.cell? ⟨w.heap.size + 1 + 1, 3, none⟩ = some (.slice none 0 0) := (hb2.cell (p := ⟨w.heap.size + 1 + 1, 3, none⟩) (by show w.heap.size + 1 + 1 < _; simp; try omega)).trans (by simp [go_sem, m1_3])
  have mf2 : ∀ o, w2.frozen? ⟨w.heap.size + 1 + 1, o, none⟩ = false := fun o => (hb2.frozen (p := ⟨w.heap.size + 1 + 1, o, none⟩) (by show w.heap.size + 1 + 1 < _; simp; try omega)).trans (by simp [go_sem, mf1])
  have hl2 : w.heap.size + 1 + 1 < w2.heap.size := by omega
  clear s1_0 s1_1 s1_2 s1_3 z1_0 z1_1 z1_2 z1_3 m1_0 m1_1 m1_2 m1_3 sf1 zf1 mf1
  have hf2' := hf2.mono (B' := w.heap.size + 3) (by simp; try omega)
  have HF1_2 := Lib.hid ((HF1_1.out.setCell (p := ⟨w.heap.size + 1 + 1, 0, none⟩) (by show w.heap.size + 1 + 1 < _; omega) _).keep hb2)
  clear HF1_1
  have HF2_2 := Lib.hid hf2'
  clear hf2 hf2' hb2
  go_wp2_with fail
  refine (toMessageS_c C.aw C.cw C.wire _ (hC.keep (HB2.out.setCell (p := ⟨w.heap.size + 1 + 1, 1, none⟩) (by show _ ≤ w.heap.size + 1 + 1; omega) _)).wire HZ.out.wire HZ.out.wl).mono ?_
  rintro e w3 ⟨g3, L3, rfl, he3, hf3, hb3⟩
  have hz3 := hb3.size
  simp at hz3
  have HB3 : Hid (Below w.heap.size w w3) := (HB2.out.setCell (p := ⟨w.heap.size + 1 + 1, 1, none⟩) (by show _ ≤ w.heap.size + 1 + 1; omega) _).trans (hb3.mono (by simp; try omega))
  have s3_0 : w3.cell? ⟨w.heap.size, 0, none⟩ = some (.slice C.an C.nodes.length C.cn) := (hb3.cell (p := ⟨w.heap.size, 0, none⟩) (by show w.heap.size < _; simp; try omega)).trans (by simp [go_sem, s2_0])
  have s3_1 : w3.cell? ⟨w.heap.size, 1, none⟩ = some (.slice C.ast C.stores.length C.cst) := (hb3.cell (p := ⟨w.heap.size, 1, none⟩) (by show w.heap.size < _; simp; try omega)).trans (by simp [go_sem, s2_1])
  have s3_2 : w3.cell? ⟨w.heap.size, 2, none⟩ = some (.slice C.aw C.wire.length C.cw) := (hb3.cell (p := ⟨w.heap.size, 2, none⟩) (by show w.heap.size < _; simp; try omega)).trans (by simp [go_sem, s2_2])
  have s3_3 : w3.cell? ⟨w.heap.size, 3, none⟩ = some (.slice C.ad C.done.length C.cd) := (hb3.cell (p := ⟨w.heap.size, 3, none⟩) (by show w.heap.size < _; simp; try omega)).trans (by simp [go_sem, s2_3])
  have sf3 : ∀ o, w3.frozen? ⟨w.heap.size, o, none⟩ = false := fun o => (hb3.frozen (p := ⟨w.heap.size, o, none⟩) (by show w.heap.size < _; simp; try omega)).trans (by simp [go_sem, sf2])
  have z3_0 : w3.cell? ⟨w.heap.size + 1, 0, none⟩ = some (.slice none 0 0) := (hb3.cell (p := ⟨w.heap.size + 1, 0, none⟩) (by show w.heap.size + 1 < _; simp; try omega)).trans (by simp [go_sem, z2_0])
  have z3_1 : w3.cell? ⟨w.heap.size + 1, 1, none⟩ = some (.slice none 0 0) := (hb3.cell (p := ⟨w.heap.size + 1, 1, none⟩) (by show w.heap.size + 1 < _; simp; try omega)).trans (by simp [go_sem, z2_1])
  have z3_2 : w3.cell? ⟨w.heap.size + 1, 2, none⟩ = some (.slice none 0 0) := (hb3.cell (p := ⟨w.heap.size + 1, 2, none⟩) (by show w.heap.size + 1 < _; simp; try omega)).trans (by simp [go_sem, z2_2])
  have z3_3 : w3.cell? ⟨w.heap.size + 1, 3, none⟩ = some (.slice none 0 0) := (hb3.cell (p := ⟨w.heap.size + 1, 3, none⟩) (by show w.heap.size + 1 < _; simp; try omega)).trans (by simp [go_sem, z2_3])
  have zf3 : ∀ o, w3.frozen? ⟨w.heap.size + 1, o, none⟩ = false := fun o => (hb3.frozen (p := ⟨w.heap.size + 1, o, none⟩) (by show w.heap.size + 1 < _; simp; try omega)).trans (by simp [go_sem, zf2])
  have m3_0 : w3.cell? ⟨w.heap.size + 1 + 1, 0, none⟩ = some (.slice (some ⟨g1, 0, none⟩) L1.length L1.length) := (hb3.cell (p := ⟨w.heap.size + 1 + 1, 0, none⟩) (by show w.heap.size + 1 + 1 < _; simp; try omega)).trans (by simp [go_sem, m2_0])
  have m3_1 : w3.cell? ⟨w.heap.size + 1 + 1, 1, none⟩ = some (.slice (some ⟨g2, 0, none⟩) C.stores.length C.stores.length) := (hb3.cell (p := ⟨w.heap.size + 1 + 1, 1, none⟩) (by show w.heap.size + 1 + 1 < _; simp; try omega)).trans (by simp [go_sem, m2_1])
  have m3_2 : w3.cell? ⟨w.heap.size + 1 + 1, 2, none⟩ = some (.slice none 0 0) := (hb3.cell (p := ⟨w.heap.size + 1 + 1, 2, none⟩) (by show w.heap.size + 1 + 1 < _; simp; try omega)).trans (by simp [go_sem, m2_2])
  have m3_3 : w3.cell? ⟨w.heap.size + 1 + 1, 3, none⟩ = some (.slice none 0 0) := (hb3.cell (p := ⟨w.heap.size + 1 + 1, 3, none⟩) (by show w.heap.size + 1 + 1 < _; simp; try omega)).trans (by simp [go_sem, m2_3])
  have mf3 : ∀ o, w3.frozen? ⟨w.heap.size + 1 + 1, o, none⟩ = false := fun o => (hb3.frozen (p := ⟨w.heap.size + 1 + 1, o, none⟩) (by show w.heap.size + 1 + 1 < _; simp; try omega)).trans (by simp [go_sem, mf2])
  have hl3 : w.heap.size + 1 + 1 < w3.heap.size := by omega
  clear s2_0 s2_1 s2_2 s2_3 z2_0 z2_1 z2_2 z2_3 m2_0 m2_1 m2_2 m2_3 sf2 zf2 mf2
  have hf3' := hf3.mono (B' := w.heap.size + 3) (by simp; try omega)
  have HF1_3 := Lib.hid ((HF1_2.out.setCell (p := ⟨w.heap.size + 1 + 1, 1, none⟩) (by show w.heap.size + 1 + 1 < _; omega) _).keep hb3)
  clear HF1_2
  have HF2_3 := Lib.hid ((HF2_2.out.setCell (p := ⟨w.heap.size + 1 + 1, 1, none⟩) (by show w.heap.size + 1 + 1 < _; omega) _).keep hb3)
  clear HF2_2
  have HF3_3 := Lib.hid hf3'
  clear hf3 hf3' hb3
  go_wp2_with fail
  refine (toStringS_c C.ad C.cd C.done _ (hC.keep (HB3.out.setCell (p := ⟨w.heap.size + 1 + 1, 2, none⟩) (by show _ ≤ w.heap.size + 1 + 1; omega) _)).done HZ.out.dl).mono ?_
  rintro e w4 ⟨v4, rfl, hf4, hb4⟩
  obtain ⟨a4, c4, rfl, hc4, ho4⟩ := hf4
  have hz4 := hb4.size
  simp at hz4
  have HB4 : Hid (Below w.heap.size w w4) := (HB3.out.setCell (p := ⟨w.heap.size + 1 + 1, 2, none⟩) (by show _ ≤ w.heap.size + 1 + 1; omega) _).trans (hb4.mono (by simp; try omega))
  have s4_0 : w4.cell? ⟨w.heap.size, 0, none⟩ = some (.slice C.an C.nodes.length C.cn) := (hb4.cell (p := ⟨w.heap.size, 0, none⟩) (by show w.heap.size < _; simp; try omega)).trans (by simp [go_sem, s3_0])
  have s4_1 : w4.cell? ⟨w.heap.size, 1, none⟩ = some (.slice C.ast C.stores.length C.cst) := (hb4.cell (p := ⟨w.heap.size, 1, none⟩) (by show w.heap.size < _; simp; try omega)).trans (by simp [go_sem, s3_1])
  have s4_2 : w4.cell? ⟨w.heap.size, 2, none⟩ = some (.slice C.aw C.wire.length C.cw) := (hb4.cell (p := ⟨w.heap.size, 2, none⟩) (by show w.heap.size < _; simp; try omega)).trans (by simp [go_sem, s3_2])
  have s4_3 : w4.cell? ⟨w.heap.size, 3, none⟩ = some (.slice C.ad C.done.length C.cd) := (hb4.cell (p := ⟨w.heap.size, 3, none⟩) (by show w.heap.size < _; simp; try omega)).trans (by simp [go_sem, s3_3])
  have sf4 : ∀ o, w4.frozen? ⟨w.heap.size, o, none⟩ = false := fun o => (hb4.frozen (p := ⟨w.heap.size, o, none⟩) (by show w.heap.size < _; simp; try omega)).trans (by simp [go_sem, sf3])
  have z4_0 : w4.cell? ⟨w.heap.size + 1, 0, none⟩ = some (.slice none 0 0) := (hb4.cell (p := ⟨w.heap.size + 1, 0, none⟩) (by show w.heap.size + 1 < _; simp; try omega)).trans (by simp [go_sem, z3_0])
  have z4_1 : w4.cell? ⟨w.heap.size + 1, 1, none⟩ = some (.slice none 0 0) := (hb4.cell (p := ⟨w.heap.size + 1, 1, none⟩) (by show w.heap.size + 1 < _; simp; try omega)).trans (by simp [go_sem, z3_1])
  have z4_2 : w4.cell? ⟨w.heap.size + 1, 2, none⟩ = some (.slice none 0 0) := (hb4.cell (p := ⟨w.heap.size + 1, 2, none⟩) (by show w.heap.size + 1 < _; simp; try omega)).trans (by simp [go_sem, z3_2])
  have z4_3 : w4.cell? ⟨w.heap.size + 1, 3, none⟩ = some (.slice none 0 0) := (hb4.cell (p := ⟨w.heap.size + 1, 3, none⟩) (by show w.heap.size + 1 < _; simp; try omega)).trans (by simp [go_sem, z3_3])
  have zf4 : ∀ o, w4.frozen? ⟨w.heap.size + 1, o, none⟩ = false := fun o => (hb4.frozen (p := ⟨w.heap.size + 1, o, none⟩) (by show w.heap.size + 1 < _; simp; try omega)).trans (by simp [go_sem, zf3])
  have m4_0 : w4.cell? ⟨w.heap.size + 1 + 1, 0, none⟩ = some (.slice (some ⟨g1, 0, none⟩) L1.length L1.length) := (hb4.cell (p := ⟨w.heap.size + 1 + 1, 0, none⟩) (by show w.heap.size + 1 + 1 < _; simp; try omega)).trans (by simp [go_sem, m3_0])
  have m4_1 : w4.cell? ⟨w.heap.size + 1 + 1, 1, none⟩ = some (.slice (some ⟨g2, 0, none⟩) C.stores.length C.stores.length) := (hb4.cell (p := ⟨w.heap.size + 1 + 1, 1, none⟩) (by show w.heap.size + 1 + 1 < _; simp; try omega)).trans (by simp [go_sem, m3_1])
  have m4_2 : w4.cell? ⟨w.heap.size + 1 + 1, 2, none⟩ = some (.slice (some ⟨g3, 0, none⟩) L3.length L3.length) := (hb4.cell (p := ⟨w.heap.size + 1 + 1, 2, none⟩) (by show w.heap.size + 1 + 1 < _; simp; try omega)).trans (by simp [go_sem, m3_2])
  have m4_3 : w4.cell? ⟨w.heap.size + 1 + 1, 3, none⟩ = some (.slice none 0 0) := (hb4.cell (p := ⟨w.heap.size + 1 + 1, 3, none⟩) (by show w.heap.size + 1 + 1 < _; simp; try omega)).trans (by simp [go_sem, m3_3])
  have mf4 : ∀ o, w4.frozen? ⟨w.heap.size + 1 + 1, o, none⟩ = false := fun o => (hb4.frozen (p := ⟨w.heap.size + 1 + 1, o, none⟩) (by show w.heap.size + 1 + 1 < _; simp; try omega)).trans (by simp [go_sem, mf3])
  have hl4 : w.heap.size + 1 + 1 < w4.heap.size := by omega
  clear s3_0 s3_1 s3_2 s3_3 z3_0 z3_1 z3_2 z3_3 m3_0 m3_1 m3_2 m3_3 sf3 zf3 mf3
  have hf4' : SlFrom strE 1 (w.heap.size + 3) w4 a4 C.done := SlFrom.of_fresh (e := 9) (fun _ => rfl) (Fresh.here ⟨_, _, rfl, hc4, ho4⟩) (by simp; try omega)
  have HF1_4 := Lib.hid ((HF1_3.out.setCell (p := ⟨w.heap.size + 1 + 1, 2, none⟩) (by show w.heap.size + 1 + 1 < _; omega) _).keep hb4)
  clear HF1_3
  have HF2_4 := Lib.hid ((HF2_3.out.setCell (p := ⟨w.heap.size + 1 + 1, 2, none⟩) (by show w.heap.size + 1 + 1 < _; omega) _).keep hb4)
  clear HF2_3
  have HF3_4 := Lib.hid ((HF3_3.out.setCell (p := ⟨w.heap.size + 1 + 1, 2, none⟩) (by show w.heap.size + 1 + 1 < _; omega) _).keep hb4)
  clear HF3_3
  have HF4_4 := Lib.hid hf4'
  clear ho4 hf4' hb4
  go_wp2_with fail
  refine bodyPost_ret (v := .agg #[.slice (some ⟨g1, 0, none⟩) L1.length L1.length, .slice (some ⟨g2, 0, none⟩) C.stores.length C.stores.length, .slice (some ⟨g3, 0, none⟩) L3.length L3.length, .slice a4 C.done.length c4]) (by simp [results, Try.results10, go_sem, z4_0, z4_1, z4_2, z4_3, zf4]) rfl ?_
  refine ⟨⟨L1, _, _, C.stores, _, _, L3, _, _, C.done, _, _⟩, rfl, ⟨he1, rfl, he3, rfl⟩, ⟨NodeF.s (B := w.heap.size + 3) ?_, And.left (b := ∀ b off, some (⟨g2, 0, none⟩ : Addr) = some ⟨b, off, none⟩ → w.heap.size + 3 ≤ b) ?_, MsgF.s (B := w.heap.size + 3) ?_, And.left (b := ∀ b off, a4 = some ⟨b, off, none⟩ → w.heap.size + 3 ≤ b) ?_⟩, ?_⟩
  · repeat (first | (with_reducible exact HF1_4.out) | (with_reducible refine NodeF.setCell ?_ ?_ _; rotate_left; (show _ < w.heap.size + 3; (try simp) <;> (try omega))))
  · show SlFrom stoE 2 (w.heap.size + 3) _ _ _
    repeat (first | (with_reducible exact HF2_4.out) | (with_reducible refine SlFrom.setCell ?_ ?_ _; rotate_left; (show _ < w.heap.size + 3; (try simp) <;> (try omega))))
  · repeat (first | (with_reducible exact HF3_4.out) | (with_reducible refine MsgF.setCell ?_ ?_ _; rotate_left; (show _ < w.heap.size + 3; (try simp) <;> (try omega))))
  · show SlFrom strE 1 (w.heap.size + 3) _ _ _
    repeat (first | (with_reducible exact HF4_4.out) | (with_reducible refine SlFrom.setCell ?_ ?_ _; rotate_left; (show _ < w.heap.size + 3; (try simp) <;> (try omega))))
  · repeat (first | (with_reducible exact HB4.out) | (with_reducible refine Below.setCell ?_ ?_ _; rotate_left; (show w.heap.size ≤ _; (try simp) <;> (try omega))))
end
section
open Go.RowKit
def ToCluR2 (C : CluA) (w : World) (e : Ending) (w' : World) : Prop := ∃ D : CluA, e = .returned (.agg #[.slice D.an D.nodes.length D.cn, .slice D.ast D.stores.length D.cst, .slice D.aw D.wire.length D.cw, .slice D.ad D.done.length D.cd]) ∧ CluSame D C ∧ CluOK w' D ∧ D.done.length ≤ D.cd ∧ Below w.heap.size w w'
set_option maxRecDepth 100000 in
set_option maxHeartbeats 4000000 in
theorem toCluster2_c (C : CluA) (w : World) (hC : CluOK w C) (hZ : CluSz C 1048576) :
    Calls Try.prog 10 #[.agg #[.slice C.an C.nodes.length C.cn, .slice C.ast C.stores.length C.cst, .slice C.aw C.wire.length C.cw, .slice C.ad C.done.length C.cd]] w (ToCluR2 C w) := by
  have HZ := Lib.hid hZ
  clear hZ
  go_enter Try.func10, Try.ntmps10
  go_wp2_with fail
  refine (toNodeS_c C.an C.cn C.nodes _ (hC.keep ((((Below.refl _ _).alloc (Nat.le_refl _) _).alloc (by simp) _).alloc (by simp; try omega) _)).nodes HZ.out.nodes HZ.out.nl).mono ?_
  rintro e w1 ⟨g1, L1, rfl, he1, hf1, hb1⟩
  have hz1 := hb1.size
  simp at hz1
  have HB1 : Hid (Below w.heap.size w w1) := ((((Below.refl _ _).alloc (Nat.le_refl _) _).alloc (by simp) _).alloc (by simp; try omega) _).trans (hb1.mono (by simp; try omega))
  have s1_0 : w1.cell? ⟨w.heap.size, 0, none⟩ = some (.slice C.an C.nodes.length C.cn) := (hb1.cell (p := ⟨w.heap.size, 0, none⟩) (by show w.heap.size < _; simp; try omega)).trans (by simp [go_sem])
  have s1_1 : w1.cell? ⟨w.heap.size, 1, none⟩ = some (.slice C.ast C.stores.length C.cst) := (hb1.cell (p := ⟨w.heap.size, 1, none⟩) (by show w.heap.size < _; simp; try omega)).trans (by simp [go_sem])
  have s1_2 : w1.cell? ⟨w.heap.size, 2, none⟩ = some (.slice C.aw C.wire.length C.cw) := (hb1.cell (p := ⟨w.heap.size, 2, none⟩) (by show w.heap.size < _; simp; try omega)).trans (by simp [go_sem])
  have s1_3 : w1.cell? ⟨w.heap.size, 3, none⟩ = some (.slice C.ad C.done.length C.cd) := (hb1.cell (p := ⟨w.heap.size, 3, none⟩) (by show w.heap.size < _; simp; try omega)).trans (by simp [go_sem])
  have sf1 : ∀ o, w1.frozen? ⟨w.heap.size, o, none⟩ = false := fun o => (hb1.frozen (p := ⟨w.heap.size, o, none⟩) (by show w.heap.size < _; simp; try omega)).trans (by simp [go_sem])
  have z1_0 : w1.cell? ⟨w.heap.size + 1, 0, none⟩ = some (.slice none 0 0) := (hb1.cell (p := ⟨w.heap.size + 1, 0, none⟩) (by show w.heap.size + 1 < _; simp; try omega)).trans (by simp [go_sem])
  have z1_1 : w1.cell? ⟨w.heap.size + 1, 1, none⟩ = some (.slice none 0 0) := (hb1.cell (p := ⟨w.heap.size + 1, 1, none⟩) (by show w.heap.size + 1 < _; simp; try omega)).trans (by simp [go_sem])
  have z1_2 : w1.cell? ⟨w.heap.size + 1, 2, none⟩ = some (.slice none 0 0) := (hb1.cell (p := ⟨w.heap.size + 1, 2, none⟩) (by show w.heap.size + 1 < _; simp; try omega)).trans (by simp [go_sem])
  have z1_3 : w1.cell? ⟨w.heap.size + 1, 3, none⟩ = some (.slice none 0 0) := (hb1.cell (p := ⟨w.heap.size + 1, 3, none⟩) (by show w.heap.size + 1 < _; simp; try omega)).trans (by simp [go_sem])
  have zf1 : ∀ o, w1.frozen? ⟨w.heap.size + 1, o, none⟩ = false := fun o => (hb1.frozen (p := ⟨w.heap.size + 1, o, none⟩) (by show w.heap.size + 1 < _; simp; try omega)).trans (by simp [go_sem])
  have m1_0 : w1.cell? ⟨w.heap.size + 1 + 1, 0, none⟩ = some (.slice none 0 0) := (hb1.cell (p := ⟨w.heap.size + 1 + 1, 0, none⟩) (by show w.heap.size + 1 + 1 < _; simp; try omega)).trans (by simp [go_sem])
  have m1_1 : w1.cell? ⟨w.heap.size + 1 + 1, 1, none⟩ = some (.slice none 0 0) := (hb1.cell (p := ⟨w.heap.size + 1 + 1, 1, none⟩) (by show w.heap.size + 1 + 1 < _; simp; try omega)).trans (by simp [go_sem])
  have m1_2 : w1.cell? ⟨w.heap.size + 1 + 1, 2, none⟩ = some (.slice none 0 0) := (hb1.cell (p := ⟨w.heap.size + 1 + 1, 2, none⟩) (by show w.heap.size + 1 + 1 < _; simp; try omega)).trans (by simp [go_sem])
  have m1_3 : w1.cell? ⟨w.heap.size + 1 + 1, 3, none⟩ = some (.slice none 0 0) := (hb1.cell (p := ⟨w.heap.size + 1 + 1, 3, none⟩) (by show w.heap.size + 1 + 1 < _; simp; try omega)).trans (by simp [go_sem])
  have mf1 : ∀ o, w1.frozen? ⟨w.heap.size + 1 + 1, o, none⟩ = false := fun o => (hb1.frozen (p := ⟨w.heap.size + 1 + 1, o, none⟩) (by show w.heap.size + 1 + 1 < _; simp; try omega)).trans (by simp [go_sem])
  have hl1 : w.heap.size + 1 + 1 < w1.heap.size := by omega
  have hf1' := hf1.mono (B' := w.heap.size + 3) (by simp; try omega)
  have HF1_1 := Lib.hid hf1'
  clear hf1 hf1' hb1
  go_wp2_with fail
  refine (toStoreS_c C.ast C.cst C.stores _ (hC.keep (HB1.out.setCell (p := ⟨w.heap.size + 1 + 1, 0, none⟩) (by show _ ≤ w.heap.size + 1 + 1; omega) _)).stores HZ.out.sl).mono ?_
  rintro e w2 ⟨g2, rfl, hf2, hb2⟩
  have hz2 := hb2.size
  simp at hz2
  have HB2 : Hid (Below w.heap.size w w2) := (HB1.out.setCell (p := ⟨w.heap.size + 1 + 1, 0, none⟩) (by show _ ≤ w.heap.size + 1 + 1; omega) _).trans (hb2.mono (by simp; try omega))
  have s2_0 : w2.cell? ⟨w.heap.size, 0, none⟩ = some (.slice C.an C.nodes.length C.cn) := (hb2.cell (p := ⟨w.heap.size, 0, none⟩) (by show w.heap.size < _; simp; try omega)).trans (by simp [go_sem, s1_0])
  have s2_1 : w2.cell? ⟨w.heap.size, 1, none⟩ = some (.slice C.ast C.stores.length C.cst) := (hb2.cell (p := ⟨w.heap.size, 1, none⟩) (by show w.heap.size < _; simp; try omega)).trans (by simp [go_sem, s1_1])
  have s2_2 : w2.cell? ⟨w.heap.size, 2, none⟩ = some (.slice C.aw C.wire.length C.cw) := (hb2.cell (p := ⟨w.heap.size, 2, none⟩) (by show w.heap.size < _; simp; try omega)).trans (by simp [go_sem, s1_2])
  have s2_3 : w2.cell? ⟨w.heap.size, 3, none⟩ = some (.slice C.ad C.done.length C.cd) := (hb2.cell (p := ⟨w.heap.size, 3, none⟩) (by show w.heap.size < _; simp; try omega)).trans (by simp [go_sem, s1_3])
  have sf2 : ∀ o, w2.frozen? ⟨w.heap.size, o, none⟩ = false := fun o => (hb2.frozen (p := ⟨w.heap.size, o, none⟩) (by show w.heap.size < _; simp; try omega)).trans (by simp [go_sem, sf1])
  have z2_0 : w2.cell? ⟨w.heap.size + 1, 0, none⟩ = some (.slice none 0 0) := (hb2.cell (p := ⟨w.heap.size + 1, 0, none⟩) (by show w.heap.size + 1 < _; simp; try omega)).trans (by simp [go_sem, z1_0])
  have z2_1 : w2.cell? ⟨w.heap.size + 1, 1, none⟩ = some (.slice none 0 0) := (hb2.cell (p := ⟨w.heap.size + 1, 1, none⟩) (by show w.heap.size + 1 < _; simp; try omega)).trans (by simp [go_sem, z1_1])
  have z2_2 : w2.cell? ⟨w.heap.size + 1, 2, none⟩ = some (.slice none 0 0) := (hb2.cell (p := ⟨w.heap.size + 1, 2, none⟩) (by show w.heap.size + 1 < _; simp; try omega)).trans (by simp [go_sem, z1_2])
  have z2_3 : w2.cell? ⟨w.heap.size + 1, 3, none⟩ = some (.slice none 0 0) := (hb2.cell (p := ⟨w.heap.size + 1, 3, none⟩) (by show w.heap.size + 1 < _; simp; try omega)).trans (by simp [go_sem, z1_3])
  have zf2 : ∀ o, w2.frozen? ⟨w.heap.size + 1, o, none⟩ = false := fun o => (hb2.frozen (p := ⟨w.heap.size + 1, o, none⟩) (by show w.heap.size + 1 < _; simp; try omega)).trans (by simp [go_sem, zf1])
  have m2_0 : w2.cell? ⟨w.heap.size + 1 + 1, 0, none⟩ = some (.slice (some ⟨g1, 0, none⟩) L1.length L1.length) := (hb2.cell (p := ⟨w.heap.size + 1 + 1, 0, none⟩) (by show w.heap.size + 1 + 1 < _; simp; try omega)).trans (by simp [go_sem, m1_0])
  have m2_1 : w2.cell? ⟨w.heap.size + 1 + 1, 1, none⟩ = some (.slice none 0 0) := (hb2.cell (p := ⟨w.heap.size + 1 + 1, 1, none⟩) (by show w.heap.size + 1 + 1 < _; simp; try omega)).trans (by simp [go_sem, m1_1])
  have m2_2 : w2.cell? ⟨w.heap.size + 1 + 1, 2, none⟩ = some (.slice none 0 0) := (hb2.cell (p := ⟨w.heap.size + 1 + 1, 2, none⟩) (by show w.heap.size + 1 + 1 < _; simp; try omega)).trans (by simp [go_sem, m1_2])
  have m2_3 : w2.cell? ⟨w.heap.size + 1 + 1, 3, none⟩ = some (.slice none 0 0) := (hb2.cell (p := ⟨w.heap.size + 1 + 1, 3, none⟩) (by show w.heap.size + 1 + 1 < _; simp; try omega)).trans (by simp [go_sem, m1_3])
  have mf2 : ∀ o, w2.frozen? ⟨w.heap.size + 1 + 1, o, none⟩ = false := fun o => (hb2.frozen (p := ⟨w.heap.size + 1 + 1, o, none⟩) (by show w.heap.size + 1 + 1 < _; simp; try omega)).trans (by simp [go_sem, mf1])
  have hl2 : w.heap.size + 1 + 1 < w2.heap.size := by omega
  clear s1_0 s1_1 s1_2 s1_3 z1_0 z1_1 z1_2 z1_3 m1_0 m1_1 m1_2 m1_3 sf1 zf1 mf1
  have hf2' := hf2.mono (B' := w.heap.size + 3) (by simp; try omega)
  have HF1_2 := Lib.hid ((HF1_1.out.setCell (p := ⟨w.heap.size + 1 + 1, 0, none⟩) (by show w.heap.size + 1 + 1 < _; omega) _).keep hb2)
  clear HF1_1
  have HF2_2 := Lib.hid hf2'
  clear hf2 hf2' hb2
  go_wp2_with fail
  refine (toMessageS_c C.aw C.cw C.wire _ (hC.keep (HB2.out.setCell (p := ⟨w.heap.size + 1 + 1, 1, none⟩) (by show _ ≤ w.heap.size + 1 + 1; omega) _)).wire HZ.out.wire HZ.out.wl).mono ?_
  rintro e w3 ⟨g3, L3, rfl, he3, hf3, hb3⟩
  have hz3 := hb3.size
  simp at hz3
  have HB3 : Hid (Below w.heap.size w w3) := (HB2.out.setCell (p := ⟨w.heap.size + 1 + 1, 1, none⟩) (by show _ ≤ w.heap.size + 1 + 1; omega) _).trans (hb3.mono (by simp; try omega))
  have s3_0 : w3.cell? ⟨w.heap.size, 0, none⟩ = some (.slice C.an C.nodes.length C.cn) := (hb3.cell (p := ⟨w.heap.size, 0, none⟩) (by show w.heap.size < _; simp; try omega)).trans (by simp [go_sem, s2_0])
  have s3_1 : w3.cell? ⟨w.heap.size, 1, none⟩ = some (.slice C.ast C.stores.length C.cst) := (hb3.cell (p := ⟨w.heap.size, 1, none⟩) (by show w.heap.size < _; simp; try omega)).trans (by simp [go_sem, s2_1])
  have s3_2 : w3.cell? ⟨w.heap.size, 2, none⟩ = some (.slice C.aw C.wire.length C.cw) := (hb3.cell (p := ⟨w.heap.size, 2, none⟩) (by show w.heap.size < _; simp; try omega)).trans (by simp [go_sem, s2_2])
  have s3_3 : w3.cell? ⟨w.heap.size, 3, none⟩ = some (.slice C.ad C.done.length C.cd) := (hb3.cell (p := ⟨w.heap.size, 3, none⟩) (by show w.heap.size < _; simp; try omega)).trans (by simp [go_sem, s2_3])
  have sf3 : ∀ o, w3.frozen? ⟨w.heap.size, o, none⟩ = false := fun o => (hb3.frozen (p := ⟨w.heap.size, o, none⟩) (by show w.heap.size < _; simp; try omega)).trans (by simp [go_sem, sf2])
  have z3_0 : w3.cell? ⟨w.heap.size + 1, 0, none⟩ = some (.slice none 0 0) := (hb3.cell (p := ⟨w.heap.size + 1, 0, none⟩) (by show w.heap.size + 1 < _; simp; try omega)).trans (by simp [go_sem, z2_0])
  have z3_1 : w3.cell? ⟨w.heap.size + 1, 1, none⟩ = some (.slice none 0 0) := (hb3.cell (p := ⟨w.heap.size + 1, 1, none⟩) (by show w.heap.size + 1 < _; simp; try omega)).trans (by simp [go_sem, z2_1])
  have z3_2 : w3.cell? ⟨w.heap.size + 1, 2, none⟩ = some (.slice none 0 0) := (hb3.cell (p := ⟨w.heap.size + 1, 2, none⟩) (by show w.heap.size + 1 < _; simp; try omega)).trans (by simp [go_sem, z2_2])
  have z3_3 : w3.cell? ⟨w.heap.size + 1, 3, none⟩ = some (.slice none 0 0) := (hb3.cell (p := ⟨w.heap.size + 1, 3, none⟩) (by show w.heap.size + 1 < _; simp; try omega)).trans (by simp [go_sem, z2_3])
  have zf3 : ∀ o, w3.frozen? ⟨w.heap.size + 1, o, none⟩ = false := fun o => (hb3.frozen (p := ⟨w.heap.size + 1, o, none⟩) (by show w.heap.size + 1 < _; simp; try omega)).trans (by simp [go_sem, zf2])
  have m3_0 : w3.cell? ⟨w.heap.size + 1 + 1, 0, none⟩ = some (.slice (some ⟨g1, 0, none⟩) L1.length L1.length) := (hb3.cell (p := ⟨w.heap.size + 1 + 1, 0, none⟩) (by show w.heap.size + 1 + 1 < _; simp; try omega)).trans (by simp [go_sem, m2_0])
  have m3_1 : w3.cell? ⟨w.heap.size + 1 + 1, 1, none⟩ = some (.slice (some ⟨g2, 0, none⟩) C.stores.length C.stores.length) := (hb3.cell (p := ⟨w.heap.size + 1 + 1, 1, none⟩) (by show w.heap.size + 1 + 1 < _; simp; try omega)).trans (by simp [go_sem, m2_1])
  have m3_2 : w3.cell? ⟨w.heap.size + 1 + 1, 2, none⟩ = some (.slice none 0 0) := (hb3.cell (p := ⟨w.heap.size + 1 + 1, 2, none⟩) (by show w.heap.size + 1 + 1 < _; simp; try omega)).trans (by simp [go_sem, m2_2])
  have m3_3 : w3.cell? ⟨w.heap.size + 1 + 1, 3, none⟩ = some (.slice none 0 0) := (hb3.cell (p := ⟨w.heap.size + 1 + 1, 3, none⟩) (by show w.heap.size + 1 + 1 < _; simp; try omega)).trans (by simp [go_sem, m2_3])
  have mf3 : ∀ o, w3.frozen? ⟨w.heap.size + 1 + 1, o, none⟩ = false := fun o => (hb3.frozen (p := ⟨w.heap.size + 1 + 1, o, none⟩) (by show w.heap.size + 1 + 1 < _; simp; try omega)).trans (by simp [go_sem, mf2])
  have hl3 : w.heap.size + 1 + 1 < w3.heap.size := by omega
  clear s2_0 s2_1 s2_2 s2_3 z2_0 z2_1 z2_2 z2_3 m2_0 m2_1 m2_2 m2_3 sf2 zf2 mf2
  have hf3' := hf3.mono (B' := w.heap.size + 3) (by simp; try omega)
  have HF1_3 := Lib.hid ((HF1_2.out.setCell (p := ⟨w.heap.size + 1 + 1, 1, none⟩) (by show w.heap.size + 1 + 1 < _; omega) _).keep hb3)
  clear HF1_2
  have HF2_3 := Lib.hid ((HF2_2.out.setCell (p := ⟨w.heap.size + 1 + 1, 1, none⟩) (by show w.heap.size + 1 + 1 < _; omega) _).keep hb3)
  clear HF2_2
  have HF3_3 := Lib.hid hf3'
  clear hf3 hf3' hb3
  go_wp2_with fail
  refine (toStringS_c C.ad C.cd C.done _ (hC.keep (HB3.out.setCell (p := ⟨w.heap.size + 1 + 1, 2, none⟩) (by show _ ≤ w.heap.size + 1 + 1; omega) _)).done HZ.out.dl).mono ?_
  rintro e w4 ⟨v4, rfl, hf4, hb4⟩
  obtain ⟨a4, c4, rfl, hc4, ho4⟩ := hf4
  have hz4 := hb4.size
  simp at hz4
  have HB4 : Hid (Below w.heap.size w w4) := (HB3.out.setCell (p := ⟨w.heap.size + 1 + 1, 2, none⟩) (by show _ ≤ w.heap.size + 1 + 1; omega) _).trans (hb4.mono (by simp; try omega))
  have s4_0 : w4.cell? ⟨w.heap.size, 0, none⟩ = some (.slice C.an C.nodes.length C.cn) := (hb4.cell (p := ⟨w.heap.size, 0, none⟩) (by show w.heap.size < _; simp; try omega)).trans (by simp [go_sem, s3_0])
  have s4_1 : w4.cell? ⟨w.heap.size, 1, none⟩ = some (.slice C.ast C.stores.length C.cst) := (hb4.cell (p := ⟨w.heap.size, 1, none⟩) (by show w.heap.size < _; simp; try omega)).trans (by simp [go_sem, s3_1])
  have s4_2 : w4.cell? ⟨w.heap.size, 2, none⟩ = some (.slice C.aw C.wire.length C.cw) := (hb4.cell (p := ⟨w.heap.size, 2, none⟩) (by show w.heap.size < _; simp; try omega)).trans (by simp [go_sem, s3_2])
  have s4_3 : w4.cell? ⟨w.heap.size, 3, none⟩ = some (.slice C.ad C.done.length C.cd) := (hb4.cell (p := ⟨w.heap.size, 3, none⟩) (by show w.heap.size < _; simp; try omega)).trans (by simp [go_sem, s3_3])
  have sf4 : ∀ o, w4.frozen? ⟨w.heap.size, o, none⟩ = false := fun o => (hb4.frozen (p := ⟨w.heap.size, o, none⟩) (by show w.heap.size < _; simp; try omega)).trans (by simp [go_sem, sf3])
  have z4_0 : w4.cell? ⟨w.heap.size + 1, 0, none⟩ = some (.slice none 0 0) := (hb4.cell (p := ⟨w.heap.size + 1, 0, none⟩) (by show w.heap.size + 1 < _; simp; try omega)).trans (by simp [go_sem, z3_0])
  have z4_1 : w4.cell? ⟨w.heap.size + 1, 1, none⟩ = some (.slice none 0 0) := (hb4.cell (p := ⟨w.heap.size + 1, 1, none⟩) (by show w.heap.size + 1 < _; simp; try omega)).trans (by simp [go_sem, z3_1])
  have z4_2 : w4.cell? ⟨w.heap.size + 1, 2, none⟩ = some (.slice none 0 0) := (hb4.cell (p := ⟨w.heap.size + 1, 2, none⟩) (by show w.heap.size + 1 < _; simp; try omega)).trans (by simp [go_sem, z3_2])
  have z4_3 : w4.cell? ⟨w.heap.size + 1, 3, none⟩ = some (.slice none 0 0) := (hb4.cell (p := ⟨w.heap.size + 1, 3, none⟩) (by show w.heap.size + 1 < _; simp; try omega)).trans (by simp [go_sem, z3_3])
  have zf4 : ∀ o, w4.frozen? ⟨w.heap.size + 1, o, none⟩ = false := fun o => (hb4.frozen (p := ⟨w.heap.size + 1, o, none⟩) (by show w.heap.size + 1 < _; simp; try omega)).trans (by simp [go_sem, zf3])
  have m4_0 : w4.cell? ⟨w.heap.size + 1 + 1, 0, none⟩ = some (.slice (some ⟨g1, 0, none⟩) L1.length L1.length) := (hb4.cell (p := ⟨w.heap.size + 1 + 1, 0, none⟩) (by show w.heap.size + 1 + 1 < _; simp; try omega)).trans (by simp [go_sem, m3_0])
  have m4_1 : w4.cell? ⟨w.heap.size + 1 + 1, 1, none⟩ = some (.slice (some ⟨g2, 0, none⟩) C.stores.length C.stores.length) := (hb4.cell (p := ⟨w.heap.size + 1 + 1, 1, none⟩) (by show w.heap.size + 1 + 1 < _; simp; try omega)).trans (by simp [go_sem, m3_1])
  have m4_2 : w4.cell? ⟨w.heap.size + 1 + 1, 2, none⟩ = some (.slice (some ⟨g3, 0, none⟩) L3.length L3.length) := (hb4.cell (p := ⟨w.heap.size + 1 + 1, 2, none⟩) (by show w.heap.size + 1 + 1 < _; simp; try omega)).trans (by simp [go_sem, m3_2])
  have m4_3 : w4.cell? ⟨w.heap.size + 1 + 1, 3, none⟩ = some (.slice none 0 0) := (hb4.cell (p := ⟨w.heap.size + 1 + 1, 3, none⟩) (by show w.heap.size + 1 + 1 < _; simp; try omega)).trans (by simp [go_sem, m3_3])
  have mf4 : ∀ o, w4.frozen? ⟨w.heap.size + 1 + 1, o, none⟩ = false := fun o => (hb4.frozen (p := ⟨w.heap.size + 1 + 1, o, none⟩) (by show w.heap.size + 1 + 1 < _; simp; try omega)).trans (by simp [go_sem, mf3])
  have hl4 : w.heap.size + 1 + 1 < w4.heap.size := by omega
  clear s3_0 s3_1 s3_2 s3_3 z3_0 z3_1 z3_2 z3_3 m3_0 m3_1 m3_2 m3_3 sf3 zf3 mf3
  have hf4' : SlFrom strE 1 (w.heap.size + 3) w4 a4 C.done := SlFrom.of_fresh (e := 9) (fun _ => rfl) (Fresh.here ⟨_, _, rfl, hc4, ho4⟩) (by simp; try omega)
  have HF1_4 := Lib.hid ((HF1_3.out.setCell (p := ⟨w.heap.size + 1 + 1, 2, none⟩) (by show w.heap.size + 1 + 1 < _; omega) _).keep hb4)
  clear HF1_3
  have HF2_4 := Lib.hid ((HF2_3.out.setCell (p := ⟨w.heap.size + 1 + 1, 2, none⟩) (by show w.heap.size + 1 + 1 < _; omega) _).keep hb4)
  clear HF2_3
  have HF3_4 := Lib.hid ((HF3_3.out.setCell (p := ⟨w.heap.size + 1 + 1, 2, none⟩) (by show w.heap.size + 1 + 1 < _; omega) _).keep hb4)
  clear HF3_3
  have HF4_4 := Lib.hid hf4'
  clear ho4 hf4' hb4
  go_wp2_with fail
  refine bodyPost_ret (v := .agg #[.slice (some ⟨g1, 0, none⟩) L1.length L1.length, .slice (some ⟨g2, 0, none⟩) C.stores.length C.stores.length, .slice (some ⟨g3, 0, none⟩) L3.length L3.length, .slice a4 C.done.length c4]) (by simp [results, Try.results10, go_sem, z4_0, z4_1, z4_2, z4_3, zf4]) rfl ?_
  refine ⟨⟨L1, _, _, C.stores, _, _, L3, _, _, C.done, _, _⟩, rfl, ⟨he1, rfl, he3, rfl⟩, ⟨NodeF.s (B := w.heap.size + 3) ?_, And.left (b := ∀ b off, some (⟨g2, 0, none⟩ : Addr) = some ⟨b, off, none⟩ → w.heap.size + 3 ≤ b) ?_, MsgF.s (B := w.heap.size + 3) ?_, And.left (b := ∀ b off, a4 = some ⟨b, off, none⟩ → w.heap.size + 3 ≤ b) ?_⟩, hc4, ?_⟩
  · repeat (first | (with_reducible exact HF1_4.out) | (with_reducible refine NodeF.setCell ?_ ?_ _; rotate_left; (show _ < w.heap.size + 3; (try simp) <;> (try omega))))
  · show SlFrom stoE 2 (w.heap.size + 3) _ _ _
    repeat (first | (with_reducible exact HF2_4.out) | (with_reducible refine SlFrom.setCell ?_ ?_ _; rotate_left; (show _ < w.heap.size + 3; (try simp) <;> (try omega))))
  · repeat (first | (with_reducible exact HF3_4.out) | (with_reducible refine MsgF.setCell ?_ ?_ _; rotate_left; (show _ < w.heap.size + 3; (try simp) <;> (try omega))))
  · show SlFrom strE 1 (w.heap.size + 3) _ _ _
    repeat (first | (with_reducible exact HF4_4.out) | (with_reducible refine SlFrom.setCell ?_ ?_ _; rotate_left; (show _ < w.heap.size + 3; (try simp) <;> (try omega))))
  · repeat (first | (with_reducible exact HB4.out) | (with_reducible refine Below.setCell ?_ ?_ _; rotate_left; (show w.heap.size ≤ _; (try simp) <;> (try omega))))
end
end Go.Proofs.Ytckaccadgbcohaa
