/- Worlds that differ only in named blocks and new ones; rows with memory of their own. Plain lemmas, no program. -/
import Derived.Test.YtlhhlmalihajcaaDoorRg
import Derived.Test.YtlhhlmalihajcaaDoorOwn2
namespace Go.Proofs.YtlhhlmalihajcaaDoor
set_option linter.unusedVariables false
set_option linter.unusedSimpArgs false
open Go.RowKit
/-- Only blocks of M may have changed, and new ones may have come. -/
structure Ch (M : Nat → Prop) (w w' : World) : Prop where
  os : w'.os = w.os
  tape : w'.tape = w.tape
  output : w'.output = w.output
  size : w.heap.size ≤ w'.heap.size
  block : ∀ k, k < w.heap.size → ¬ M k → w'.heap[k]? = w.heap[k]?
section
variable {M N : Nat → Prop} {a w w' : World}
theorem Ch.refl : Ch M w w := ⟨rfl, rfl, rfl, Nat.le_refl _, fun _ _ _ => rfl⟩
theorem Ch.trans (h : Ch M a w) (k : Ch N w w') (hN : ∀ i, N i → M i ∨ a.heap.size ≤ i) : Ch M a w' :=
  ⟨k.os.trans h.os, k.tape.trans h.tape, k.output.trans h.output, Nat.le_trans h.size k.size, fun i h1 h2 => (k.block i (Nat.lt_of_lt_of_le h1 h.size) (fun t => by
    rcases hN i t with h4 | h4
    · exact h2 h4
    · omega)).trans (h.block i h1 h2)⟩
theorem Ch.mono (h : Ch N w w') (hN : ∀ i, N i → M i ∨ w.heap.size ≤ i) : Ch M w w' := Ch.trans Ch.refl h hN
theorem Ch.of_below (h : Below w.heap.size w w') : Ch M w w' := ⟨h.os, h.tape, h.output, h.size, fun k hk _ => h.block k hk⟩
theorem Ch.of_mid {l r : Nat} (h : Mid l r w w') (hM : ∀ k, l ≤ k → k < r → k < w.heap.size → M k) : Ch M w w' :=
  ⟨h.os, h.tape, h.output, h.size, fun k hk hn => h.block k hk (by
    rcases Nat.lt_or_ge k l with h1 | h1
    · exact .inl h1
    · rcases Nat.lt_or_ge k r with h2 | h2
      · exact absurd (hM k h1 h2 hk) hn
      · exact .inr h2)⟩
theorem Ch.setCell (h : Ch M a w) {p : Addr} (hp : M p.block ∨ a.heap.size ≤ p.block) (u : Value) : Ch M a (w.setCell p u) :=
  h.trans (N := fun k => k = p.block) ⟨rfl, rfl, rfl, by simp [World.setCell], fun k _ hk => Below.heap_setCell _ _ _ _ hk⟩ (fun i hi => by subst hi; exact hp)
theorem Ch.alloc (h : Ch M a w) (o : Obj) : Ch M a (w.alloc o) := h.trans (N := fun _ => False) (Ch.of_below ((Below.refl _ _).alloc (Nat.le_refl _) _)) (fun _ h => h.elim)
theorem Ch.drew (h : Ch M a w) : Ch M a w.drew := h.trans (N := fun _ => False) (Ch.of_below ((Below.refl _ _).drew)) (fun _ h => h.elim)
theorem Ch.below1 (h : Ch M a w) (k : Below w.heap.size w w') : Ch M a w' := h.trans (N := fun _ => False) (Ch.of_below k) (fun _ h => h.elim)
theorem Ch.cell (h : Ch M w w') {p : Addr} (hp : p.block < w.heap.size) (hd : ¬ M p.block) : w'.cell? p = w.cell? p := World.cell?_of_block (w := w) (h.block p.block hp hd)
theorem Ch.frozen (h : Ch M w w') {p : Addr} (hp : p.block < w.heap.size) (hd : ¬ M p.block) : w'.frozen? p = w.frozen? p := World.frozen?_of_block (w := w) (h.block p.block hp hd)
theorem Ch.below {B : Nat} (h : Ch M w w') (hB : B ≤ w.heap.size) (hM : ∀ k, M k → B ≤ k) : Below B w w' :=
  ⟨h.os, h.tape, h.output, h.size, fun k hk => h.block k (by omega) (fun hm => by have := hM k hm; omega)⟩
theorem Ch.mid {l r : Nat} (h : Ch M w w') (hM : ∀ k, M k → l ≤ k ∧ k < r) : Mid l r w w' :=
  ⟨h.os, h.tape, h.output, h.size, fun k hk hd => h.block k hk (fun hm => by have := hM k hm; omega)⟩
variable {α : Type} {enc : α → List Value} {sz : Nat} {ad : Option Addr} {xs : List α}
theorem Sl.ch (h : Sl enc sz w ad xs) (hc : Ch M w w') (hd : ∀ k ∈ blkOf ad, ¬ M k) : Sl enc sz w' ad xs := by
  rcases h with h1 | ⟨b, off, rfl, hlt, hq⟩
  · exact .inl h1
  · exact .inr ⟨b, off, rfl, Nat.lt_of_lt_of_le hlt hc.size, fun i hi j hj => by
      rw [hc.cell (p := ⟨b, _, none⟩) hlt (hd b (by simp [blkOf]))]; exact hq i hi j hj⟩
theorem FreshIn.ch {e : TypeId} {B n c : Nat} (h : FreshIn enc e sz B w.heap.size (.slice ad n c) xs w) (hu : Ch M w w') (hd : ∀ k ∈ blkOf ad, ¬ M k) : FreshIn enc e sz B w'.heap.size (.slice ad n c) xs w' := by
  obtain ⟨⟨a', cap', hv, h1, h2, h3⟩, h4⟩ := h
  refine ⟨⟨a', cap', hv, h1, h2, ?_⟩, fun k hk => Nat.lt_of_lt_of_le (h4 k hk) hu.size⟩
  cases hv
  rcases h3 with h3 | ⟨b, cap, cur, hv, hg, hb, r'⟩
  · exact .inl h3
  · refine .inr ⟨b, cap, cur, hv, hg, ?_, r'⟩
    cases hv
    rw [hu.block b (Array.getElem?_eq_some_iff.1 hb).1 (hd b (by simp [blkOf]))]
    exact hb
end
/-- What a row owns: blocks blk, read by own. -/
structure OwnL {R : Type} (own : Nat → World → R → Prop) (blk : R → List Nat) : Prop where
  ch : ∀ {lo w w' r} {M : Nat → Prop}, own lo w r → Ch M w w' → (∀ k ∈ blk r, ¬ M k) → own lo w' r
  low : ∀ {lo lo' w r}, lo' ≤ lo → own lo w r → own lo' w r
  bd : ∀ {lo w r}, own lo w r → ∀ k ∈ blk r, lo ≤ k ∧ k < w.heap.size
  nd : ∀ {lo w r}, own lo w r → (blk r).Nodup
def roB {R : Type} (blk : R → List Nat) (am : Option Addr) (L : List R) : List Nat := blkOf am ++ L.flatMap blk
/-- A list of rows in memory of its own, each with what it owns. -/
structure RO {R : Type} (enc : R → List Value) (T : TypeId) (sz : Nat) (own : Nat → World → R → Prop) (blk : R → List Nat) (lo : Nat) (L : List R) (am : Option Addr) (cm : Nat) (w : World) : Prop where
  row : FreshIn enc T sz lo w.heap.size (.slice am L.length cm) L w
  ow : ∀ r ∈ L, own lo w r
  nd : (roB blk am L).Nodup
section
variable {R : Type} {enc : R → List Value} {T : TypeId} {sz : Nat} {own : Nat → World → R → Prop} {blk : R → List Nat} {lo : Nat} {L : List R} {am : Option Addr} {cm : Nat} {w w' : World} {M : Nat → Prop}
theorem RO.nil : RO enc T sz own blk lo [] none 0 w := ⟨FreshIn.nil _ _ _ _ _ _, by simp, by simp [roB, blkOf]⟩
theorem RO.ch (hO : OwnL own blk) (h : RO enc T sz own blk lo L am cm w) (hc : Ch M w w') (hd : ∀ k ∈ roB blk am L, ¬ M k) : RO enc T sz own blk lo L am cm w' :=
  ⟨h.row.ch hc (fun k hk => hd k (by simp [roB, hk])), fun r hr => hO.ch (h.ow r hr) hc (fun k hk => hd k (by simp only [roB, List.mem_append, List.mem_flatMap]; exact .inr ⟨r, hr, hk⟩)), h.nd⟩
theorem RO.keep (hO : OwnL own blk) (h : RO enc T sz own blk lo L am cm w) (hb : Below w.heap.size w w') : RO enc T sz own blk lo L am cm w' := h.ch hO (M := fun _ => False) (Ch.of_below hb) (fun _ _ h => h)
theorem RO.bd (hO : OwnL own blk) (h : RO enc T sz own blk lo L am cm w) : ∀ k ∈ roB blk am L, lo ≤ k ∧ k < w.heap.size := by
  intro k hk
  simp only [roB, List.mem_append, List.mem_flatMap] at hk
  rcases hk with hk | ⟨r, hr, hk⟩
  · exact FreshIn.blks h.row k hk
  · exact hO.bd (h.ow r hr) k hk
theorem RO.low (hO : OwnL own blk) {lo' : Nat} (h : RO enc T sz own blk lo L am cm w) (hl : lo' ≤ lo) : RO enc T sz own blk lo' L am cm w := ⟨h.row.mono hl (Nat.le_refl _), fun r hr => hO.low hl (h.ow r hr), h.nd⟩
/-- One row more. -/
theorem RO.push (hO : OwnL own blk) {x : R} {us : List R} {am' : Option Addr} {cm' : Nat} (h : RO enc T sz own blk lo L am cm w) (hx : own lo w x) (hd : ∀ k ∈ blk x, k ∉ roB blk am L)
    (hus : us = L ++ [x]) (hf : FreshIn enc T sz lo w'.heap.size (.slice am' us.length cm') us w') (hc : Ch (· ∈ blkOf am) w w') (hk : ∀ k ∈ blkOf am', k ∈ blkOf am ∨ k = w.heap.size) : RO enc T sz own blk lo us am' cm' w' := by
  have hnd := h.nd
  simp only [roB, List.nodup_append] at hnd
  obtain ⟨n1, n2, n3⟩ := hnd
  subst hus
  refine ⟨hf, fun r hr => ?_, ?_⟩
  · rcases List.mem_append.1 hr with hr | hr
    · exact hO.ch (h.ow r hr) hc (fun k hk1 hk2 => n3 k hk2 k (List.mem_flatMap.2 ⟨r, hr, hk1⟩) rfl)
    · simp at hr; subst hr
      exact hO.ch hx hc (fun k hk1 hk2 => hd k hk1 (by simp [roB, hk2]))
  · simp only [roB, List.flatMap_append, List.flatMap_cons, List.flatMap_nil, List.append_nil, List.nodup_append]
    refine ⟨blkOf_nodup _, ⟨n2, hO.nd hx, fun k hk1 j hj e => ?_⟩, fun k hk1 j hj e => ?_⟩
    · subst e
      exact hd k hj (by simp only [roB, List.mem_append]; exact .inr hk1)
    · subst e
      have hb : k ∈ L.flatMap blk ++ blk x → k < w.heap.size := fun hk2 => by
        rcases List.mem_append.1 hk2 with hk2 | hk2
        · obtain ⟨r, hr, hk3⟩ := List.mem_flatMap.1 hk2
          exact (hO.bd (h.ow r hr) k hk3).2
        · exact (hO.bd hx k hk2).2
      have hlt := hb (by simpa using hj)
      rcases hk k hk1 with h1 | h1
      · rcases List.mem_append.1 (by simpa using hj : k ∈ L.flatMap blk ++ blk x) with h2 | h2
        · exact n3 k h1 k h2 rfl
        · exact hd k h2 (by simp [roB, h1])
      · omega
end
section
variable {α : Type} {enc : α → List Value} {w : World}
theorem blkOf_own' {a : Option Addr} {n c : Nat} {k : Nat} : k ∈ blkOf a ↔ (Value.slice a n c).ownBlock = some k := by
  cases a with
  | none => simp [blkOf, Value.ownBlock]
  | some p => simp [blkOf, Value.ownBlock, eq_comm]
/-- append onto a slice of one's own. -/
theorem wpList_append_ch {P : Program} {ops : Array Oper} {rest : List Oper} {o : Oper} {a : Act} {Q : Exit → Act → World → Prop} (s x : Operand) (t tx : TypeId)
    (lo : Nat) (e : TypeId) (i : TypeInfo) (z : Value) (size bytes : Nat) (ht : P.underlying t = some (.slice e)) (hinfo : P.info? e = some i) (hz : i.zero = some z)
    (hsize : i.size = size) (hby : i.bytes = bytes) (hzs : z.cells.size = size) (hbp : 0 < bytes)
    (ad : Option Addr) (n c : Nat) (zs : List α) (hF : FreshIn enc e size lo w.heap.size (.slice ad n c) zs w)
    (xv : Value) (ys : List α) (hsrc : Src P size tx xv ys.length (ys.flatMap enc) w)
    (hbytes : (zs.length + ys.length) * bytes ≤ 140737488355328) (hlo : lo ≤ w.heap.size)
    (hgd : o.guard = none) (ho : o.op = .call { callee := .builtin .append, args := #[s, x], argTypes := #[t, tx] }) (hs : a.eval s = .slice ad n c) (hx : a.eval x = xv)
    (h : ∀ a' c' w' us, Hid (us = zs ++ ys) → FreshIn enc e size lo w'.heap.size (.slice a' us.length c') us w' → Ch (· ∈ blkOf ad) w w' → (∀ k ∈ blkOf a', k ∈ blkOf ad ∨ k = w.heap.size) → wpList P ops Q rest (a.put o.dst (.slice a' us.length c')) w') : wpList P ops Q (o :: rest) a w := by
  obtain ⟨b, t1, t2, t3, t4⟩ := hF.tight
  have hblk := FreshIn.blks hF
  have hrow := t1.row
  obtain ⟨⟨a', cap', hv, h1, h2⟩, h3⟩ := t1
  cases hv
  refine wpList_append_src w hgd s x t tx ho b e i z size bytes ht hinfo hz hsize hby hzs _ zs.length (zs.flatMap enc) hs h2 xv ys.length (ys.flatMap enc) hx hsrc ?_ hbytes t2 ?_
  · have : zs.length + ys.length ≤ (zs.length + ys.length) * bytes := Nat.le_mul_of_pos_right _ hbp
    unfold maxLen; omega
  · intro v' w' k1 k2 k3
    have hf : Fresh enc e size b v' (zs ++ ys) w' := Fresh.of_own k1 (by simp) (by simp)
    obtain ⟨a1, c1, rfl, _⟩ := id hf
    have hm : Mid b (b + 1) w w' := Mid.of_grown k2 hrow
    have hk : ∀ k ∈ blkOf a1, k ∈ blkOf ad ∨ k = w.heap.size := fun k hk => by
      have hk' := (blkOf_own' (n := (zs ++ ys).length) (c := c1)).1 hk
      rcases k3 with k3 | k3
      · exact .inl ((blkOf_own' (n := zs.length) (c := c)).2 (k3 ▸ hk'))
      · rw [k3] at hk'
        exact .inr (Option.some.inj hk').symm
    refine h a1 c1 w' _ rfl ?_ (Ch.of_mid hm t3) hk
    rcases Nat.lt_or_ge b w.heap.size with hb | hb
    · exact hf.here.mono (t4 hb).2 (Nat.le_refl _)
    · exact hf.here.mono (by omega) (Nat.le_refl _)
end
end Go.Proofs.YtlhhlmalihajcaaDoor
