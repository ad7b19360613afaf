/- A cluster in memory of its own: toCluster's result. -/
import Derived.Test.YtcakldgbhjkkfaaClu2r
import Derived.Test.YtcakldgbhjkkfaaClu3
namespace Go.Proofs.Ytcakldgbhjkkfaa
set_option linter.unusedVariables false
set_option linter.unusedSimpArgs false
open Go.RowKit
section
variable {R : Type} {enc : R → List Value} {sz : Nat} {ok : Nat → World → R → Prop} {blk : R → List Nat} {B : Nat} {w w' : World} {g : Nat} {rs : List R}
theorem RowsR.setC (h : RowsR enc sz ok blk B w g rs) {p : Addr} (hp : p.block < B) (u : Value) (hk : ∀ r, ok B w r → ok B (w.setCell p u) r) : RowsR enc sz ok blk B (w.setCell p u) g rs where
  low := h.low
  lt := by simpa [World.setCell] using h.lt
  sl := h.sl.setCell (fun b off e => by cases e; have := h.low; omega) u
  fz := fun o => (World.frozen?_setCell _ _ _ _).trans (h.fz o)
  ok := fun i hi => hk _ (h.ok i hi)
  sep := h.sep
theorem RowsR.lowB {B' : Nat} (h : RowsR enc sz ok blk B w g rs) (hB : B' ≤ B) (hk : ∀ r, ok B w r → ok B' w r) : RowsR enc sz ok blk B' w g rs := ⟨Nat.le_trans hB h.low, h.lt, h.sl, h.fz, fun i hi => hk _ (h.ok i hi), h.sep⟩
end
/-- Rows of their own, all in blocks from lo on and below hi. -/
structure Part {R : Type} (enc : R → List Value) (sz : Nat) (ok : Nat → World → R → Prop) (blk : R → List Nat) (lo hi : Nat) (w : World) (a : Option Addr) (rs : List R) : Prop where
  ex : ∃ g, a = some ⟨g, 0, none⟩ ∧ g < hi ∧ RowsR enc sz ok blk lo w g rs
  bd : ∀ r ∈ rs, ∀ b ∈ blk r, lo ≤ b ∧ b < hi
section
variable {R : Type} {enc : R → List Value} {sz : Nat} {ok : Nat → World → R → Prop} {blk : R → List Nat} {lo hi : Nat} {w w' : World} {a : Option Addr} {rs : List R}
theorem Part.keepK (h : Part enc sz ok blk lo hi w a rs) (hb : Below w.heap.size w w') (hk : ∀ r, ok lo w r → ok lo w' r) : Part enc sz ok blk lo hi w' a rs := by
  obtain ⟨⟨g, e, hg, hr⟩, hbd⟩ := h
  exact ⟨⟨g, e, hg, hr.below hb hk⟩, hbd⟩
theorem Part.setK (h : Part enc sz ok blk lo hi w a rs) {p : Addr} (hp : p.block < lo) (u : Value) (hk : ∀ r, ok lo w r → ok lo (w.setCell p u) r) : Part enc sz ok blk lo hi (w.setCell p u) a rs := by
  obtain ⟨⟨g, e, hg, hr⟩, hbd⟩ := h
  exact ⟨⟨g, e, hg, hr.setC hp u hk⟩, hbd⟩
/-- .. as it was, behind a call that changes only blocks elsewhere. -/
theorem Part.midK {l r : Nat} (h : Part enc sz ok blk lo hi w a rs) (hm : Mid l r w w') (hd : hi ≤ l ∨ r ≤ lo) (hk : ∀ x, ok lo w x → (∀ b ∈ blk x, lo ≤ b ∧ b < hi) → ok lo w' x) : Part enc sz ok blk lo hi w' a rs := by
  obtain ⟨⟨g, e, hg, hr⟩, hbd⟩ := h
  have hgl := hr.low
  have hgd : g < l ∨ r ≤ g := by omega
  refine ⟨⟨g, e, hg, ⟨hr.low, Nat.lt_of_lt_of_le hr.lt hm.size, ?_, fun o => (hm.frozen (p := ⟨g, o, none⟩) hr.lt hgd).trans (hr.fz o), fun i hi => hk _ (hr.ok i hi) (hbd _ (List.getElem_mem hi)), hr.sep⟩⟩, hbd⟩
  rcases hr.sl with h1 | ⟨b, off, e1, hlt, hc⟩
  · exact .inl h1
  · cases e1
    exact .inr ⟨g, 0, rfl, Nat.lt_of_lt_of_le hlt hm.size, fun i hi j hj => by rw [hm.cell (p := ⟨g, _, none⟩) hlt hgd]; exact hc i hi j hj⟩
end
abbrev NodeP := Part nodeE 13 nodeOwn nodeBlk
abbrev StoP := Part stoE 2 storeOwn storeBlk
abbrev MsgP := Part msgE 9 messageOwn messageBlk
section
variable {lo hi l r : Nat} {w w' : World} {a : Option Addr} {ns : List NodeA} {ss : List Sto} {ms : List MsgA}
theorem nodeOwn.bd {B : Nat} {r : NodeA} (h : nodeOwn B w r) : ∀ b ∈ nodeBlk r, B ≤ b ∧ b < w.heap.size := by
  intro b hb
  simp only [nodeBlk, List.mem_append] at hb
  rcases hb with ((hb | hb) | hb) | hb
  · exact h.1.blks b hb
  · exact h.2.1.blks b hb
  · exact h.2.2.1.blks b hb
  · exact h.2.2.2.blks b hb
theorem messageOwn.bd {B : Nat} {r : MsgA} (h : messageOwn B w r) : ∀ b ∈ messageBlk r, B ≤ b ∧ b < w.heap.size := fun b hb => FreshIn.blks h b hb
theorem FreshIn.midO {α : Type} {enc : α → List Value} {sz : Nat} {e : TypeId} {B n c : Nat} {ad : Option Addr} {xs : List α} (h : FreshIn enc e sz B w.heap.size (.slice ad n c) xs w) (hm : Mid l r w w') (hd : ∀ b ∈ blkOf ad, b < l ∨ r ≤ b) : FreshIn enc e sz B w'.heap.size (.slice ad n c) xs w' := by
  obtain ⟨⟨a', cap', hv, h1, h2, h3⟩, h4⟩ := h
  refine ⟨⟨a', cap', hv, h1, h2, ?_⟩, fun k hk => Nat.lt_of_lt_of_le (h4 k hk) hm.size⟩
  cases hv
  rcases h3 with h3 | ⟨b, cap, cur, hv, hg, hb, r'⟩
  · exact .inl h3
  · refine .inr ⟨b, cap, cur, hv, hg, ?_, r'⟩
    cases hv
    rw [hm.block b (Array.getElem?_eq_some_iff.1 hb).1 (hd b (by simp [blkOf]))]
    exact hb
theorem nodeOwn.mid {B : Nat} {x : NodeA} (h : nodeOwn B w x) (hm : Mid l r w w') (hd : ∀ b ∈ nodeBlk x, b < l ∨ r ≤ b) : nodeOwn B w' x :=
  ⟨h.1.midO hm (fun b hb => hd b (by simp [nodeBlk, hb])), h.2.1.midO hm (fun b hb => hd b (by simp [nodeBlk, hb])), h.2.2.1.midO hm (fun b hb => hd b (by simp [nodeBlk, hb])), h.2.2.2.midO hm (fun b hb => hd b (by simp [nodeBlk, hb]))⟩
theorem messageOwn.mid {B : Nat} {x : MsgA} (h : messageOwn B w x) (hm : Mid l r w w') (hd : ∀ b ∈ messageBlk x, b < l ∨ r ≤ b) : messageOwn B w' x := FreshIn.midO h hm hd
theorem NodeP.keep (h : NodeP lo hi w a ns) (hb : Below w.heap.size w w') : NodeP lo hi w' a ns := Part.keepK h hb (fun _ k => k.keep hb)
theorem StoP.keep (h : StoP lo hi w a ss) (hb : Below w.heap.size w w') : StoP lo hi w' a ss := Part.keepK h hb (fun _ _ => trivial)
theorem MsgP.keep (h : MsgP lo hi w a ms) (hb : Below w.heap.size w w') : MsgP lo hi w' a ms := Part.keepK h hb (fun _ k => k.keep hb)
theorem NodeP.setCell (h : NodeP lo hi w a ns) {p : Addr} (hp : p.block < lo) (u : Value) : NodeP lo hi (w.setCell p u) a ns := Part.setK h hp u (fun _ k => k.setCell hp u)
theorem StoP.setCell (h : StoP lo hi w a ss) {p : Addr} (hp : p.block < lo) (u : Value) : StoP lo hi (w.setCell p u) a ss := Part.setK h hp u (fun _ _ => trivial)
theorem MsgP.setCell (h : MsgP lo hi w a ms) {p : Addr} (hp : p.block < lo) (u : Value) : MsgP lo hi (w.setCell p u) a ms := Part.setK h hp u (fun _ k => k.setCell hp u)
theorem NodeP.mid (h : NodeP lo hi w a ns) (hm : Mid l r w w') (hd : hi ≤ l ∨ r ≤ lo) : NodeP lo hi w' a ns := Part.midK h hm hd (fun _ k kb => k.mid hm (fun b hb => by have := kb b hb; omega))
theorem StoP.mid (h : StoP lo hi w a ss) (hm : Mid l r w w') (hd : hi ≤ l ∨ r ≤ lo) : StoP lo hi w' a ss := Part.midK h hm hd (fun _ _ _ => trivial)
theorem MsgP.mid (h : MsgP lo hi w a ms) (hm : Mid l r w w') (hd : hi ≤ l ∨ r ≤ lo) : MsgP lo hi w' a ms := Part.midK h hm hd (fun _ k kb => k.mid hm (fun b hb => by have := kb b hb; omega))
theorem NodeP.of {B g : Nat} (h : RowsR nodeE 13 nodeOwn nodeBlk B w g ns) (hB : lo ≤ B) : NodeP lo w.heap.size w (some ⟨g, 0, none⟩) ns :=
  ⟨⟨g, rfl, h.lt, h.lowB hB (fun _ k => k.low hB)⟩, fun r hr b hb => by
    obtain ⟨i, hi, rfl⟩ := List.getElem_of_mem hr
    have := (h.ok i hi).bd b hb
    omega⟩
theorem NodeP.lowP {lo' : Nat} (h : NodeP lo' hi w a ns) (hl : lo ≤ lo') : NodeP lo hi w a ns := by
  obtain ⟨⟨g, e, hg, hr⟩, hbd⟩ := h
  exact ⟨⟨g, e, hg, hr.lowB hl (fun _ k => k.low hl)⟩, fun r hr b hb => by have := hbd r hr b hb; omega⟩
theorem StoP.of {B g : Nat} (h : RowsR stoE 2 storeOwn storeBlk B w g ss) (hB : lo ≤ B) : StoP lo w.heap.size w (some ⟨g, 0, none⟩) ss :=
  ⟨⟨g, rfl, h.lt, h.lowB hB (fun _ k => k)⟩, fun r _ b hb => by simp [storeBlk] at hb⟩
theorem MsgP.of {B g : Nat} (h : RowsR msgE 9 messageOwn messageBlk B w g ms) (hB : lo ≤ B) : MsgP lo w.heap.size w (some ⟨g, 0, none⟩) ms :=
  ⟨⟨g, rfl, h.lt, h.lowB hB (fun _ k => k.low hB)⟩, fun r hr b hb => by
    obtain ⟨i, hi, rfl⟩ := List.getElem_of_mem hr
    have := (h.ok i hi).bd b hb
    omega⟩
theorem NodeP.s (h : NodeP lo hi w a ns) (hc : ∀ r ∈ ns, r.N.log.length ≤ r.cl) : NodeS w a ns := by
  obtain ⟨⟨g, rfl, _, hr⟩, _⟩ := h
  refine ⟨hr.sl, fun r hm => ?_⟩
  obtain ⟨i, hi, rfl⟩ := List.getElem_of_mem hm
  have h1 := hr.ok i hi
  exact ⟨⟨h1.1.sl (fun _ => rfl), h1.2.1.sl (fun _ => rfl), h1.2.2.1.sl (fun _ => rfl), h1.2.2.2.sl (fun _ => rfl)⟩, hc _ hm⟩
theorem StoP.s (h : StoP lo hi w a ss) : Sl stoE 2 w a ss := by
  obtain ⟨⟨g, rfl, _, hr⟩, _⟩ := h
  exact hr.sl
theorem MsgP.s (h : MsgP lo hi w a ms) : MsgS w a ms := by
  obtain ⟨⟨g, rfl, _, hr⟩, _⟩ := h
  refine ⟨hr.sl, fun r hm => ?_⟩
  obtain ⟨i, hi, rfl⟩ := List.getElem_of_mem hm
  exact FreshIn.sl (fun _ => rfl) (hr.ok i hi)
end
/-- A cluster in memory of its own. -/
structure CluM (lo hi : Nat) (w : World) (D : CluA) : Prop where
  ex : ∃ m1 m2 m3, lo ≤ m1 ∧ m1 ≤ m2 ∧ m2 ≤ m3 ∧ m3 ≤ hi ∧ NodeP lo m1 w D.an D.nodes ∧ StoP m1 m2 w D.ast D.stores ∧ MsgP m2 m3 w D.aw D.wire ∧ FreshIn strE 9 1 m3 hi (.slice D.ad D.done.length D.cd) D.done w
  cap : ∀ r ∈ D.nodes, r.N.log.length ≤ r.cl
theorem CluM.below {lo hi : Nat} {w w' : World} {D : CluA} (h : CluM lo hi w D) (hb : Below w.heap.size w w') : CluM lo hi w' D := by
  obtain ⟨⟨m1, m2, m3, h1, h2, h3, h4, a, b, c, d⟩, hc⟩ := h
  exact ⟨⟨m1, m2, m3, h1, h2, h3, h4, NodeP.keep a hb, StoP.keep b hb, MsgP.keep c hb, d.below hb⟩, hc⟩
theorem CluM.mid {lo hi l r : Nat} {w w' : World} {D : CluA} (h : CluM lo hi w D) (hm : Mid l r w w') (hd : hi ≤ l ∨ r ≤ lo) : CluM lo hi w' D := by
  obtain ⟨⟨m1, m2, m3, h1, h2, h3, h4, a, b, c, d⟩, hc⟩ := h
  exact ⟨⟨m1, m2, m3, h1, h2, h3, h4, NodeP.mid a hm (by omega), StoP.mid b hm (by omega), MsgP.mid c hm (by omega), d.mid hm (by omega)⟩, hc⟩
theorem CluM.alloc {lo hi : Nat} {w : World} {D : CluA} (h : CluM lo hi w D) (o : Obj) : CluM lo hi (w.alloc o) D := h.below ((Below.refl _ _).alloc (Nat.le_refl _) _)
theorem CluM.drew {lo hi : Nat} {w : World} {D : CluA} (h : CluM lo hi w D) : CluM lo hi w.drew D := h.below ((Below.refl _ _).drew)
theorem CluM.ok {lo hi : Nat} {w : World} {D : CluA} (h : CluM lo hi w D) : CluOK w D := by
  obtain ⟨⟨m1, m2, m3, h1, h2, h3, h4, a, b, c, d⟩, hc⟩ := h
  exact ⟨NodeP.s a hc, StoP.s b, MsgP.s c, d.sl (fun _ => rfl)⟩
theorem CluM.dcap {lo hi : Nat} {w : World} {D : CluA} (h : CluM lo hi w D) : D.done.length ≤ D.cd := by
  obtain ⟨⟨m1, m2, m3, h1, h2, h3, h4, a, b, c, d⟩, hc⟩ := h
  exact fit_of_own d
def ToCluR3 (C : CluA) (w : World) (e : Ending) (w' : World) : Prop := ∃ D : CluA, e = .returned (.agg #[.slice D.an D.nodes.length D.cn, .slice D.ast D.stores.length D.cst, .slice D.aw D.wire.length D.cw, .slice D.ad D.done.length D.cd]) ∧ CluSame D C ∧ CluM w.heap.size w'.heap.size w' D ∧ Below w.heap.size w w'
end Go.Proofs.Ytcakldgbhjkkfaa
