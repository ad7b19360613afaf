/- NewCluster of both. No conditions but sizes. -/
import Derived.Test.YtckaccadgbcohaaCluZ
import Derived.Test.YtckaccadgbcohaaOwn2
import Derived.Test.YtckaccadgbcohaaNnAll
import Derived.Test.YtckaccadgbcohaaNodeOK3
import Derived.Test.YtckaccadgbcohaaCluX
namespace Go.Proofs.Ytckaccadgbcohaa
set_option linter.unusedVariables false
set_option linter.unusedSimpArgs false
section
open Go.RowKit
theorem blkOf_own {a : Option Addr} {n c : Nat} {k : Nat} : k ∈ blkOf a ↔ (Value.slice a n c).ownBlock = some k := by
  cases a with
  | none => simp [blkOf, Value.ownBlock]
  | some p => simp [blkOf, Value.ownBlock, eq_comm]
section
variable {α : Type} {enc : α → List Value} {w : World}
theorem step_append_freshG {P : Program} {ops : Array Oper} {o : Oper} {a : Act} {K : Act → World → Prop} {Q : Exit → Act → World → Prop} {E : Prop} (hgd : o.guard = none) (s x : Operand) (t tx : TypeId)
    (ho : o.op = .call { callee := .builtin .append, args := #[s, x], argTypes := #[t, tx] })
    (lo hi : Nat) (e : TypeId) (i : TypeInfo) (z : Value) (size bytes : Nat) (ht : P.underlying t = some (.slice e)) (hinfo : P.info? e = some i) (hz : i.zero = some z)
    (hsize : i.size = size) (hby : i.bytes = bytes) (hzs : z.cells.size = size) (hbp : 0 < bytes)
    (ad : Option Addr) (n c : Nat) (zs : List α) (hs : a.eval s = .slice ad n c) (hF : FreshIn enc e size lo hi (.slice ad n c) zs w)
    (xv : Value) (ys : List α) (hx : a.eval x = xv) (hsrc : Src P size tx xv ys.length (ys.flatMap enc) w)
    (hbytes : (zs.length + ys.length) * bytes ≤ 140737488355328) (hlo : lo ≤ w.heap.size)
    (h : ∀ a' c' w' us, Hid (us = zs ++ ys) → FreshIn enc e size lo w'.heap.size (.slice a' us.length c') us w' → Mid lo hi w w' → (∀ k ∈ blkOf a', k ∈ blkOf ad ∨ k = w.heap.size) → K (a.put o.dst (.slice a' us.length c')) w') :
    if Region.wanted o (yielded ops a.tmps) = true then Oper.wp P o a w K Q else E := by
  have hw : Region.wanted o (yielded ops a.tmps) = true := by simp [Region.wanted, hgd]
  rw [if_pos hw]
  have hrow := hF.row
  obtain ⟨⟨a', cap', hv, h1, h2⟩, h3⟩ := hF
  cases hv
  have h63 : zs.length + ys.length ≤ maxLen := by
    have : zs.length + ys.length ≤ (zs.length + ys.length) * bytes := Nat.le_mul_of_pos_right _ hbp
    unfold maxLen; omega
  obtain ⟨v', w', hr, k1, k2, k3⟩ := run_append_own_src (P := P) w lo t tx o.type e i z size bytes ht hinfo hz hsize hby hzs _ zs.length (zs.flatMap enc) h2 xv ys.length (ys.flatMap enc) hsrc h63 hbytes hlo
  have hf : Fresh enc e size lo v' (zs ++ ys) w' := Fresh.of_own k1 (by simp) (by simp)
  obtain ⟨a1, c1, rfl, _⟩ := id hf
  unfold Oper.wp execOp
  simp only [ho, resolve, invoke, builtin, Sem.run_bind, Sem.run_pure, Result.andThen_ok, List.map_toArray, List.map_cons, List.map_nil, hs, hx, hr]
  refine h a1 c1 w' _ rfl hf.here (Mid.of_grown k2 hrow) (fun k hk => ?_)
  have hk' := (blkOf_own (n := (zs ++ ys).length) (c := c1)).1 hk
  rcases k3 with k3 | k3
  · exact .inl ((blkOf_own (n := zs.length) (c := c)).2 (k3 ▸ hk'))
  · rw [k3] at hk'
    exact .inr (Option.some.inj hk').symm
end
theorem nodeOne : ∀ (x : NodeA), ∀ u ∈ nodeE x, u.oneCell' = true := by
  intro x u hu
  simp only [nodeE, List.mem_cons, List.not_mem_nil, or_false] at hu
  rcases hu with rfl | rfl | rfl | rfl | rfl | rfl | rfl | rfl | rfl | rfl | rfl | rfl | rfl <;> rfl
theorem stoOne : ∀ (x : Sto), ∀ u ∈ stoE x, u.oneCell' = true := by
  intro x u hu
  simp only [stoE, List.mem_cons, List.not_mem_nil, or_false] at hu
  rcases hu with rfl | rfl <;> rfl
theorem RowsG.toM {R : Type} {own : Nat → World → R → Prop} {blk : R → List Nat} {st : R → Prop} {B : Nat} {w w' : World} {L : List R} (h : RowsG own blk st B w L) (hz : w.heap.size ≤ w'.heap.size) (hk : ∀ r ∈ L, own B w r → own B w' r) : RowsG own blk st B w' L :=
  ⟨fun r hr => hk r hr (h.ow r hr), h.nd, fun r hr b hb => ⟨(h.bd r hr b hb).1, Nat.lt_of_lt_of_le (h.bd r hr b hb).2 hz⟩, h.sta, h.ap⟩
section
variable {R : Type} {enc : R → List Value} {sz : Nat} {ok : Nat → World → R → Prop} {blk : R → List Nat} {B g : Nat} {w w' : World} {rs : List R}
theorem RowsR.midR {l r : Nat} (h : RowsR enc sz ok blk B w g rs) (hm : Mid l r w w') (hd : g < l ∨ r ≤ g) (hk : ∀ x, ok B w x → ok B w' x) : RowsR enc sz ok blk B w' g rs := by
  refine ⟨h.low, Nat.lt_of_lt_of_le h.lt hm.size, ?_, fun o => (hm.frozen (p := ⟨g, o, none⟩) h.lt hd).trans (h.fz o), fun i hi => hk _ (h.ok i hi), h.sep⟩
  rcases h.sl with h1 | ⟨b, off, e1, hlt, hc⟩
  · exact .inl h1
  · cases e1
    exact .inr ⟨g, 0, rfl, Nat.lt_of_lt_of_le hlt hm.size, fun i hi j hj => by rw [hm.cell (p := ⟨g, _, none⟩) hlt hd]; exact hc i hi j hj⟩
theorem RowsR.setNe (h : RowsR enc sz ok blk B w g rs) {p : Addr} (hp : p.block ≠ g) (u : Value) (hk : ∀ x, ok B w x → ok B (w.setCell p u) x) : RowsR enc sz ok blk B (w.setCell p u) g rs where
  low := h.low
  lt := by simpa [World.setCell] using h.lt
  sl := h.sl.setCell (fun b off e => by cases e; exact fun e => hp e.symm) u
  fz := fun o => (World.frozen?_setCell _ _ _ _).trans (h.fz o)
  ok := fun i hi => hk _ (h.ok i hi)
  sep := h.sep
end
def stoZ : Sto := (⟨#[]⟩, 0)
/-- The new node of a number. -/
def newN (i n : Nat) : NodeV := ⟨i, n, 0, -1, 0, true, [], 0, 0, 5 + i, [], List.replicate n 1, List.replicate n 0⟩
structure NcI (n lo cb sb : Nat) (L : List NodeA) (an : Option Addr) (cn : Nat) (w : World) : Prop where
  c0 : w.cell? ⟨cb, 0, none⟩ = some (.slice an L.length cn)
  c1 : w.cell? ⟨cb, 1, none⟩ = some (.slice (some ⟨sb, 0, none⟩) n n)
  c2 : w.cell? ⟨cb, 2, none⟩ = some (.slice none 0 0)
  c3 : w.cell? ⟨cb, 3, none⟩ = some (.slice none 0 0)
  fz : ∀ o, w.frozen? ⟨cb, o, none⟩ = false
  lt : cb < w.heap.size
  vals : ∀ i (h : i < L.length), L[i].N = newN i n
  row : FreshIn nodeE 54 13 lo w.heap.size (.slice an L.length cn) L w
  gs : NodeG lo w L
  sep : ∀ r ∈ L, ∀ b ∈ nodeBlk r, b ∉ blkOf an
  sto : RowsR stoE 2 storeOwn storeBlk sb w sb (List.replicate n stoZ)
theorem NcI.step {n lo cb sb : Nat} {L us : List NodeA} {an an' : Option Addr} {cn cn' : Nat} {w w2 w4 : World} {x : NodeA} {B b : Nat} {o : Obj} (h : NcI n lo cb sb L an cn w) (hcb : cb < lo) (hsb : sb < lo) (hsc : sb ≠ cb) (hlo : lo ≤ w.heap.size)
    (hb : Below w.heap.size w w2) (hx : RowNew nodeOwn nodeBlk (fun r => r.N.log.length ≤ r.cl) w.heap.size w2 x) (hv : x.N = newN L.length n)
    (hb1 : ∀ k ∈ blkOf an, k ≤ b) (hb2 : b ≤ (w2.alloc o).heap.size) (hb3 : ∀ k, b ≤ k → k < b + 1 → k < (w2.alloc o).heap.size → k ∈ blkOf an) (hB : b = B) (hlB : lo ≤ b)
    (hus : us = L ++ [x]) (hf : FreshIn nodeE 54 13 b w4.heap.size (.slice an' us.length cn') us w4) (hm : Mid b (b + 1) (w2.alloc o) w4) (hk : ∀ k ∈ blkOf an', k ∈ blkOf an ∨ k = (w2.alloc o).heap.size) :
    NcI n lo cb sb us an' cn' (w4.setCell ⟨cb, 0, none⟩ (.slice an' us.length cn')) := by
  have hz2 := hb.size
  have hz4 := hm.size
  simp only [World.size_alloc] at hz4 hb2 hb3 hk
  have hclt : cb < w.heap.size := h.lt
  have hslt : sb < w.heap.size := h.sto.lt
  have hA : Below w.heap.size w (w2.alloc o) := hb.trans ((Below.refl _ _).alloc hz2 _)
  have hcell : ∀ j, w4.cell? ⟨cb, j, none⟩ = w.cell? ⟨cb, j, none⟩ := fun j =>
    (hm.cell (p := ⟨cb, j, none⟩) (by show cb < _; simp; omega) (.inl (by show cb < b; omega))).trans (hA.cell (p := ⟨cb, j, none⟩) hclt)
  have hfz : ∀ j, w4.frozen? ⟨cb, j, none⟩ = w.frozen? ⟨cb, j, none⟩ := fun j =>
    (hm.frozen (p := ⟨cb, j, none⟩) (by show cb < _; simp; omega) (.inl (by show cb < b; omega))).trans (hA.frozen (p := ⟨cb, j, none⟩) hclt)
  have hN0 : NodeG lo w2 L := RowsG.to h.gs hz2 (fun _ k => k.keep hb)
  have hN1 : NodeG lo w2 (L ++ [x]) := RowsG.snoc h.gs hz2 (fun _ k => k.keep hb) hlo hx (fun k => k.low hlo)
  have hba : Below w2.heap.size w2 (w2.alloc o) := (Below.refl _ _).alloc (Nat.le_refl _) _
  have hnb : ∀ r ∈ L ++ [x], ∀ k ∈ nodeBlk r, k < w2.heap.size ∧ k ∉ blkOf an := by
    intro r hr k hkr
    have h1 := (hN1.bd r hr k hkr).2
    refine ⟨h1, fun hka => ?_⟩
    rcases List.mem_append.1 hr with hr | hr
    · exact h.sep r hr k hkr hka
    · simp at hr; subst hr
      have h2 := (hx.bd k hkr).1
      have h3 := (h.row.blks k hka).2
      omega
  have hz4' : (w2.alloc o).heap.size ≤ w4.heap.size := by simp; omega
  have hN2 : NodeG lo w4 us := by
    subst hus
    refine RowsG.toM (RowsG.to hN1 (by simp) (fun _ k => k.keep hba)) hz4' (fun r hr k => k.mid hm (fun b' hb' => ?_))
    have h1 := hnb r hr b' hb'
    rcases Nat.lt_or_ge b' b with h2 | h2
    · exact .inl h2
    · rcases Nat.lt_or_ge b' (b + 1) with h3 | h3
      · exact absurd (hb3 b' h2 h3 (by omega)) h1.2
      · exact .inr h3
  have hlt4 : cb < w4.heap.size := by omega
  refine ⟨?_, ?_, ?_, ?_, ?_, ?_, ?_, ?_, ?_, ?_, ?_⟩
  · simp [go_sem, hcell 0, h.c0]
  · simp [go_sem, hcell 1, h.c1]
  · simp [go_sem, hcell 2, h.c2]
  · simp [go_sem, hcell 3, h.c3]
  · intro j
    rw [World.frozen?_setCell, hfz j]
    exact h.fz j
  · simpa [World.setCell] using hlt4
  · intro i hi
    subst hus
    by_cases hil : i < L.length
    · rw [List.getElem_append_left hil]
      exact h.vals i hil
    · have : i = L.length := by simp at hi; omega
      subst this
      simpa using hv
  · exact FreshIn.setB (FreshIn.mono hf hlB (Nat.le_refl _)) (by show cb < lo; exact hcb) _
  · exact NodeG.setCell hN2 (by show cb < lo; exact hcb) _
  · intro r hr k hkr hka
    subst hus
    have h1 := hnb r hr k hkr
    rcases hk k hka with h2 | h2
    · exact h1.2 h2
    · omega
  · refine RowsR.setNe ?_ (by show cb ≠ sb; exact fun e => hsc e.symm) _ (fun _ _ => trivial)
    refine RowsR.midR (RowsR.below (RowsR.below h.sto hb (fun _ _ => trivial)) hba (fun _ _ => trivial)) hm (.inl (by omega)) (fun _ _ => trivial)
end
section
open Go.RowKit
structure ResZ (H : Nat) (w : World) : Prop where
  r0 : w.cell? ⟨H, 0, none⟩ = some (.slice none 0 0)
  r1 : w.cell? ⟨H, 1, none⟩ = some (.slice none 0 0)
  r2 : w.cell? ⟨H, 2, none⟩ = some (.slice none 0 0)
  r3 : w.cell? ⟨H, 3, none⟩ = some (.slice none 0 0)
  fz : ∀ o, w.frozen? ⟨H, o, none⟩ = false
theorem ResZ.to {H : Nat} {w w' : World} (h : ResZ H w) (hc : ∀ j, w'.cell? ⟨H, j, none⟩ = w.cell? ⟨H, j, none⟩) (hf : ∀ j, w'.frozen? ⟨H, j, none⟩ = w.frozen? ⟨H, j, none⟩) : ResZ H w' :=
  ⟨(hc 0).trans h.r0, (hc 1).trans h.r1, (hc 2).trans h.r2, (hc 3).trans h.r3, fun o => (hf o).trans (h.fz o)⟩
theorem ResZ.step {H b cb : Nat} {w w2 w4 : World} {o : Obj} (h : ResZ H w) (hH : H < w.heap.size) (hb : Below w.heap.size w w2) (hm : Mid b (b + 1) (w2.alloc o) w4) (hHb : H < b) (hne : H ≠ cb) (v : Value) : ResZ H (w4.setCell ⟨cb, 0, none⟩ v) := by
  have hz := hb.size
  have hA : Below w.heap.size w (w2.alloc o) := hb.trans ((Below.refl _ _).alloc hz _)
  refine h.to (fun j => ?_) (fun j => ?_)
  · rw [World.cell?_setCell_other _ _ _ _ (fun e => by cases e; exact hne rfl)]
    exact (hm.cell (p := ⟨H, j, none⟩) (by show H < _; simp; omega) (.inl hHb)).trans (hA.cell (p := ⟨H, j, none⟩) hH)
  · rw [World.frozen?_setCell]
    exact (hm.frozen (p := ⟨H, j, none⟩) (by show H < _; simp; omega) (.inl hHb)).trans (hA.frozen (p := ⟨H, j, none⟩) hH)
theorem stoSet {B g : Nat} {w : World} {rs : List Sto} (h : RowsR stoE 2 storeOwn storeBlk B w g rs) {p : Addr} (hp : p.block ≠ g) (u : Value) : RowsR stoE 2 storeOwn storeBlk B (w.setCell p u) g rs := h.setNe hp u (fun _ _ => trivial)
def five (n : Nat) : Prop := (n : Int) = 1 ∨ (n : Int) = 2 ∨ (n : Int) = 3 ∨ (n : Int) = 4 ∨ (n : Int) = 5
structure NcO (n lo sb : Nat) (L : List NodeA) (an : Option Addr) (cn : Nat) (w : World) : Prop where
  len : L.length = n
  vals : ∀ i (h : i < L.length), L[i].N = newN i n
  row : FreshIn nodeE 54 13 lo w.heap.size (.slice an L.length cn) L w
  gs : NodeG lo w L
  sep : ∀ r ∈ L, ∀ b ∈ nodeBlk r, b ∉ blkOf an
  sto : RowsR stoE 2 storeOwn storeBlk sb w sb (List.replicate n stoZ)
def NcR (n : Nat) (w : World) (e : Ending) (w' : World) : Prop :=
  ∃ L an cn sb lo, e = .returned (.agg #[.slice an (List.length L) cn, .slice (some ⟨sb, 0, none⟩) n n, .slice none 0 0, .slice none 0 0]) ∧ NcO n lo sb L an cn w' ∧ w.heap.size ≤ sb ∧ sb < lo ∧ Below w.heap.size w w'
def nodeX (k n g1 g2 : Nat) : NodeA := ⟨newN k n, none, 0, none, 0, some ⟨g1, 0, none⟩, n, some ⟨g2, 0, none⟩, n⟩
theorem nodeX_new {k n g1 g2 lo : Nat} {w : World} (h1 : lo ≤ g1) (h2 : lo ≤ g2) (hne : g1 ≠ g2) (l1 : g1 < w.heap.size) (l2 : g2 < w.heap.size)
    (f1 : FreshIn intE 3 1 g1 (g1 + 1) (.slice (some ⟨g1, 0, none⟩) n n) (List.replicate n 1) w) (f2 : FreshIn intE 3 1 g2 (g2 + 1) (.slice (some ⟨g2, 0, none⟩) n n) (List.replicate n 0) w) : RowNew nodeOwn nodeBlk (fun r => r.N.log.length ≤ r.cl) lo w (nodeX k n g1 g2) := by
  refine ⟨⟨FreshIn.nil _ _ _ _ _ _, FreshIn.nil _ _ _ _ _ _, ?_, ?_⟩, ?_, ?_, Nat.le_refl _⟩
  · have := f1.mono h1 l1
    simpa [nodeX, newN] using this
  · have := f2.mono h2 l2
    simpa [nodeX, newN] using this
  · simp [nodeBlk, nodeX, blkOf]
    exact hne
  · intro b hb
    simp [nodeBlk, nodeX, blkOf] at hb
    omega
set_option maxRecDepth 100000 in
set_option maxHeartbeats 4000000 in
theorem newCluster_c (n : Nat) (hc : five n) (w : World) :
    Calls Try.prog 56 #[.int .i64 n] w (NcR n w) := by
  have hn : 1 ≤ n ∧ n ≤ 5 := by unfold five at hc; omega
  have HC := Lib.hid hc
  clear hc
  obtain ⟨i0, hi, hz0, hz1, hz2⟩ := info_parts Try.infoStore
  obtain ⟨i1, hi', hz0', hz1', hz2'⟩ := info_parts Try.infoNode
  go_enter Try.func56, Try.ntmps56
  go_wp2_with (at_make; refine wpList_make_full _ rfl _ _ 31 rfl w.heap.size 58 i0 (.agg #[.string ⟨#[]⟩, .int .i64 0]) 2 Try.underlying31 hi hz0 hz1 .i64 .i64 _ _ n rfl rfl rfl rfl ?c1 ?c2 ?c3 ?_)
  case c1 => rw [hz2]; omega
  case c2 => unfold maxLen; omega
  case c3 => simp
  intro w1 hown hg
  have hm := madeCells_flat stoE 2 stoZ #[.string ⟨#[]⟩, .int .i64 0] rfl (fun _ => rfl) n
  have hown2 : w1.ownsRow w.heap.size 58 2 (.slice (some ⟨w.heap.size + 1, 0, none⟩) n n) n ((List.replicate n stoZ).flatMap stoE) := by rw [← hm]; simpa using hown
  have hsl := own_lt hown2
  have hgs := hg.size
  simp only [World.size_alloc] at hgs
  have HB1 : Hid (Below w.heap.size w w1) := Lib.hid (((Below.refl w.heap.size w).alloc (Nat.le_refl _) _).grown hg (by simp) (by simp))
  have HST : Hid (RowsR stoE 2 storeOwn storeBlk (w.heap.size + 1) w1 (w.heap.size + 1) (List.replicate n stoZ)) := Lib.hid (by
    refine ⟨Nat.le_refl _, hsl, ?_, fun o => hown2.frozenAt o, fun _ _ => trivial, ⟨fun i hi => ⟨by rw [List.getElem_map]; simp [storeBlk], by rw [List.getElem_map]; simp [storeBlk]⟩, fun i j hi hj _ b hb => by rw [List.getElem_map] at hb; simp [storeBlk] at hb⟩⟩
    have h2 : w1.ownsRow w.heap.size 58 2 (.slice (some ⟨w.heap.size + 1, 0, none⟩) n n) (List.replicate n stoZ).length ((List.replicate n stoZ).flatMap stoE) := by simpa using hown2
    exact Sl.of_own (n := n) (fun _ => rfl) h2)
  have HRZ : Hid (ResZ w.heap.size w1) := Lib.hid (by
    refine ResZ.to (w := w.alloc (.cells #[.slice none 0 0, .slice none 0 0, .slice none 0 0, .slice none 0 0] 34)) ⟨by simp [go_sem], by simp [go_sem], by simp [go_sem], by simp [go_sem], fun o => by simp [go_sem]⟩ (fun j => ?_) (fun j => ?_)
    · exact World.cell?_of_block (a := ⟨w.heap.size, j, none⟩) (hg.block w.heap.size (by simp) (by simp))
    · exact World.frozen?_of_block (a := ⟨w.heap.size, j, none⟩) (hg.block w.heap.size (by simp) (by simp)))
  clear hm hown hown2 hg
  go_wp2_with fail
  go_loopw [9] (fun i wr => ∃ (L : List NodeA) (an : Option Addr) (cn : Nat), L.length ≤ n ∧ i = .int .i64 L.length ∧ NcI n (w1.heap.size + 1) w1.heap.size (w.heap.size + 1) L an cn wr ∧ ResZ w.heap.size wr ∧ Below w.heap.size w wr) (fun i _ => n - (intOf i).toNat)
  case atStart =>
    refine ⟨[], none, 0, Nat.zero_le _, rfl, ⟨by simp [go_sem], by simp [go_sem], by simp [go_sem], by simp [go_sem], fun o => by simp [go_sem], by simp, fun i hi => absurd hi (Nat.not_lt_zero _), FreshIn.nil _ _ _ _ _ _, RowsG.nil, by simp, ?_⟩, ?_, HB1.out.alloc (by omega) _⟩
    · exact RowsR.below HST.out ((Below.refl _ _).alloc (Nat.le_refl _) _) (fun _ _ => trivial)
    · exact ResZ.to HRZ.out (fun j => (World.cell?_alloc_lt _ _ _ (by show w.heap.size < _; omega))) (fun j => ((Below.refl _ _).alloc (Nat.le_refl _) _ : Below w1.heap.size w1 _).frozen (p := ⟨w.heap.size, j, none⟩) (by show w.heap.size < _; omega))
  case round =>
    obtain ⟨L, an, cn, hk, rfl, hI, hR, hbel⟩ := hrel
    have HR := Lib.hid hR
    have HI := Lib.hid hI
    have HBL := Lib.hid hbel
    have c_0 := hI.c0
    have c_1 := hI.c1
    have c_2 := hI.c2
    have c_3 := hI.c3
    have c_f := hI.fz
    have c_l := hI.lt
    clear hI
    by_cases hlt : L.length < n
    · go_wp2_with fail
      refine wp_region_G (fun w' => w'.cell? ⟨w1.heap.size, 0, none⟩ = some (.slice an L.length cn)) (fun i => i == 8) (by kernel_rfl) c_0 ?_
      refine wpAnyG_takeW (i := 0) (v := ?_) rfl (by kernel_rfl) (by kernel_rfl) (by kernel_rfl) (fun _ _ _ h => h) (Or.inl ⟨by rfl, ?_⟩) ?_
      rotate_left
      · intro w' hSw
        go_simp
        try (with_reducible rfl)
      try simp only [Act.put, List.getElem_toArray, List.getElem_cons_zero, List.getElem_cons_succ, List.setIfInBounds_toArray, List.set_cons_zero, List.set_cons_succ]
      refine wpAnyG_take (i := 1) (v := ?_) rfl (by kernel_rfl) (by kernel_rfl) (by kernel_rfl) (by kernel_rfl) (fun _ _ _ h => h) c_0 (Or.inl ⟨by rfl, ?_⟩) ?_
      rotate_left
      · intro w' hSw
        go_simp
        try (with_reducible rfl)
      try simp only [Act.put, List.getElem_toArray, List.getElem_cons_zero, List.getElem_cons_succ, List.setIfInBounds_toArray, List.set_cons_zero, List.set_cons_succ]
      refine wpAnyG_takeW (i := 2) (v := ?_) rfl (by kernel_rfl) (by kernel_rfl) (by kernel_rfl) (fun _ _ _ h => h) (Or.inl ⟨by rfl, ?_⟩) ?_
      rotate_left
      · intro w' hSw
        go_simp
        try (with_reducible rfl)
      try simp only [Act.put, List.getElem_toArray, List.getElem_cons_zero, List.getElem_cons_succ, List.setIfInBounds_toArray, List.set_cons_zero, List.set_cons_succ]
      refine wpAnyG_takeW (i := 3) (v := ?_) rfl (by kernel_rfl) (by kernel_rfl) (by kernel_rfl) (fun _ _ _ h => h) (Or.inl ⟨by rfl, ?_⟩) ?_
      rotate_left
      · intro w' hSw
        go_simp
        try (with_reducible rfl)
      try simp only [Act.put, List.getElem_toArray, List.getElem_cons_zero, List.getElem_cons_succ, List.setIfInBounds_toArray, List.set_cons_zero, List.set_cons_succ]
      refine wpAnyG_one (i := 4) (by kernel_rfl) rfl c_0 (fun K' hK => ?_)
      simp only [List.getElem_toArray, List.getElem_cons_zero, List.getElem_cons_succ]
      go_simp
      go_at_call 87
      refine (newNode_c (L.length : Int) n HC.out _ (by omega) (by omega)).mono ?_
      rintro e w2 ⟨v, rfl, g1, g2, rfl, y1, y2, y3, y4, y5, f1, f2, hb2⟩
      have hzb := hb2.size
      simp only [World.size_drew] at hzb y1 y2
      have d_0 : w2.cell? ⟨w1.heap.size, 0, none⟩ = some (.slice an L.length cn) := (hb2.cell (p := ⟨w1.heap.size, 0, none⟩) (by show w1.heap.size < _; simp; omega)).trans c_0
      simp only []
      refine hK.out _ _ (Or.inr d_0) ?_
      clear hK K'
      try simp only [Act.put, List.getElem_toArray, List.getElem_cons_zero, List.getElem_cons_succ, List.setIfInBounds_toArray, List.set_cons_zero, List.set_cons_succ]
      refine wpAnyG_one (i := 5) (by kernel_rfl) rfl d_0 (fun K' hK => ?_)
      simp only [List.getElem_toArray, List.getElem_cons_zero, List.getElem_cons_succ]
      go_simp
      refine hK.out _ _ (Or.inr ?_) ?_
      · show World.cell? _ _ = _
        exact (World.cell?_alloc_lt _ _ _ (by show w1.heap.size < _; omega)).trans d_0
      clear hK K'
      try simp only [Act.put, List.getElem_toArray, List.getElem_cons_zero, List.getElem_cons_succ, List.setIfInBounds_toArray, List.set_cons_zero, List.set_cons_succ]
      have hxn := nodeX_new (k := L.length) y1 y2 y3 y4 y5 f1 f2
      have hbw : Below wr.heap.size wr w2 := by simpa using ((Below.refl wr.heap.size wr).drew).trans (hb2.mono (by simp))
      have HBW := Lib.hid hbw
      have HXN := Lib.hid hxn
      have hrow := HI.out.row.keepB hbw
      have d2 : ∀ x, (w2.alloc x).cell? ⟨w1.heap.size, 0, none⟩ = some (.slice an L.length cn) := fun x => (World.cell?_alloc_lt _ _ _ (by show w1.heap.size < _; omega)).trans d_0
      have D2 := Lib.hid d2
      have hz2w := hbw.size
      obtain ⟨OB, hOB⟩ : ∃ o : Obj, o = .cells #[.int .i64 (L.length : Int), .int .i64 (n : Int), .int .i64 0, .int .i64 (-1), .int .i64 0, .bool true, .slice none 0 0, .int .i64 0, .int .i64 0, .int .i64 (5 + (L.length : Int)), .slice none 0 0, .slice (some ⟨g1, 0, none⟩) n n, .slice (some ⟨g2, 0, none⟩) n n] 54 := ⟨_, rfl⟩
      have hsrc : Src Try.prog 13 30 (.slice (some ⟨w2.heap.size, 0, none⟩) 1 1) [nodeX L.length n g1 g2].length ([nodeX L.length n g1 g2].flatMap nodeE) (w2.alloc OB) := by
        subst hOB
        exact Src.ofBox (enc := nodeE) Try.underlying30 (fun _ => rfl) nodeOne (nodeX L.length n g1 g2) _ _ (by simp [nodeE, nodeX, newN]) _ rfl
      rw [← hOB]
      have hrow2 := hrow.keepB (w' := w2.alloc OB) ((Below.refl _ _).alloc (Nat.le_refl _) _)
      obtain ⟨b, t2, t3, t4, t5⟩ := hrow2.tight
      have HT4 := Lib.hid t4
      have HT5 := Lib.hid t5
      have HT2 := Lib.hid t2
      have HSRC := Lib.hid hsrc
      clear t2 t4 t5 hrow hrow2 hsrc hxn hbw d2 hOB
      simp only [World.size_alloc] at t3
      refine wpAnyG_one (i := 6) (by kernel_rfl) rfl (D2.out _) (fun K' hK => ?_)
      refine step_append_freshG (by rfl) (.tmp 13) (.tmp 17) 30 30 (by rfl) b (b + 1) 54 i1 (.agg #[.int .i64 0, .int .i64 0, .int .i64 0, .int .i64 0, .int .i64 0, .bool false, .slice none 0 0, .int .i64 0, .int .i64 0, .int .i64 0, .slice none 0 0, .slice none 0 0, .slice none 0 0]) 13 168 Try.underlying30 hi' hz0' hz1' hz2' rfl (by decide) an L.length cn L (by rfl) HT2.out (.slice (some ⟨w2.heap.size, 0, none⟩) 1 1) [nodeX L.length n g1 g2] (by rfl) HSRC.out (by simp; omega) (by simp; omega) ?_
      intro a3 c3 w4 us hus hf4 hm4 hk4
      have HUS := hus
      have HF4 := Lib.hid hf4
      have HM4 := Lib.hid hm4
      have HK4 := Lib.hid hk4
      have hz4 := hm4.size
      simp only [World.size_alloc] at hz4
      have hbL : w1.heap.size + 1 ≤ b := by
        rcases Nat.lt_or_ge b (w2.heap.size + 1) with h | h
        · exact (HT5.out (by simpa using h)).2
        · omega
      have e_0 : w4.cell? ⟨w1.heap.size, 0, none⟩ = some (.slice an L.length cn) := (HM4.out.cell (p := ⟨w1.heap.size, 0, none⟩) (by show w1.heap.size < _; simp; omega) (.inl (by show w1.heap.size < b; omega))).trans (D2.out _)
      have e_f : ∀ o, w4.frozen? ⟨w1.heap.size, o, none⟩ = false := fun o => (HM4.out.frozen (p := ⟨w1.heap.size, o, none⟩) (by show w1.heap.size < _; simp; omega) (.inl (by show w1.heap.size < b; omega))).trans ((((Below.refl _ _).alloc (Nat.le_refl _) _ : Below w2.heap.size w2 (w2.alloc OB)).frozen (p := ⟨w1.heap.size, o, none⟩) (by show w1.heap.size < _; omega)).trans ((HBW.out.frozen (p := ⟨w1.heap.size, o, none⟩) c_l).trans (c_f o)))
      clear hus hf4 hm4 hk4
      refine hK.out _ _ (Or.inr e_0) ?_
      clear hK K'
      try simp only [Act.put, List.getElem_toArray, List.getElem_cons_zero, List.getElem_cons_succ, List.setIfInBounds_toArray, List.set_cons_zero, List.set_cons_succ]
      refine wpAnyG_takeW (i := 7) (v := ?_) rfl (by kernel_rfl) (by kernel_rfl) (by kernel_rfl) (fun _ _ _ h => h) (Or.inl ⟨by rfl, ?_⟩) ?_
      rotate_left
      · intro w' hSw
        go_simp
        try (with_reducible rfl)
      try simp only [Act.put, List.getElem_toArray, List.getElem_cons_zero, List.getElem_cons_succ, List.setIfInBounds_toArray, List.set_cons_zero, List.set_cons_succ]
      refine wpAnyG_one (i := 8) (by kernel_rfl) rfl e_0 (fun K' hK => ?_)
      simp only [List.getElem_toArray, List.getElem_cons_zero, List.getElem_cons_succ]
      go_simp
      refine hK.out _ _ (Or.inl rfl) ?_
      clear hK K'
      try simp only [Act.put, List.getElem_toArray, List.getElem_cons_zero, List.getElem_cons_succ, List.setIfInBounds_toArray, List.set_cons_zero, List.set_cons_succ]
      refine wpAnyG_done (by kernel_rfl) ?_ _
      go_wp2_with fail
      go_roundw
      case rel =>
        have hsz1 : w.heap.size + 1 < w1.heap.size := hsl
        refine ⟨us, a3, c3, by rw [HUS.out]; simp; omega, by rw [HUS.out]; simp, ?_, ?_, ?_⟩
        · exact NcI.step HI.out (by omega) (by omega) (by omega) (by omega) HBW.out HXN.out rfl (fun k hk => by
            have h1 := HI.out.row.blks k hk
            rcases Nat.lt_or_ge b (w2.heap.size + 1) with h | h
            · have h2 := (HT5.out (by simpa using h)).1
              have e1 := (blkOf_own (n := 0) (c := 0)).1 hk
              have e2 := (blkOf_own (n := 0) (c := 0)).1 h2
              rw [e1] at e2
              cases e2
              exact Nat.le_refl _
            · omega) (by simpa using t3) HT4.out rfl hbL HUS.out HF4.out HM4.out HK4.out
        · exact HR.out.step (by omega) HBW.out HM4.out (by omega) (by omega) _
        · refine Below.setCell (((HBL.out.trans (HBW.out.mono (by omega))).alloc (by omega) OB).trans (HM4.out.below (by omega) (by simp; omega))) (by show w.heap.size ≤ w1.heap.size; omega) _
      case measure => simp [intOf]; omega
    · have hkn : L.length = n := by omega
      have HKN := Lib.hid hkn
      clear hkn
      have hk' : n ≤ L.length := by omega
      have z_0 := hR.r0
      have z_1 := hR.r1
      have z_2 := hR.r2
      have z_3 := hR.r3
      have z_f := hR.fz
      have hlw : w.heap.size < wr.heap.size := by omega
      clear hR
      go_wp2_with fail
      refine bodyPost_ret (v := .agg #[.slice an L.length cn, .slice (some ⟨w.heap.size + 1, 0, none⟩) n n, .slice none 0 0, .slice none 0 0]) (by simp [results, Try.results56, go_sem, z_0, z_1, z_2, z_3, z_f, hlw]) rfl ?_
      have hI := HI.out
      refine ⟨L, an, cn, w.heap.size + 1, w1.heap.size + 1, rfl, ⟨HKN.out, hI.vals, ?_, ?_, hI.sep, ?_⟩, by omega, by omega, ?_⟩
      · have hrow := hI.row
        clear hI
        repeat (first | (with_reducible exact hrow) | (with_reducible refine FreshIn.setB ?_ ?_ _; rotate_left; (show w.heap.size < w1.heap.size + 1; omega)))
      · have hgs := hI.gs
        clear hI
        repeat (first | (with_reducible exact hgs) | (with_reducible refine NodeG.setCell ?_ ?_ _; rotate_left; (show w.heap.size < w1.heap.size + 1; omega)))
      · have hsto := hI.sto
        clear hI
        repeat (first | (with_reducible exact hsto) | (with_reducible refine stoSet ?_ ?_ _; rotate_left; (show w.heap.size ≠ w.heap.size + 1; omega)))
      · repeat (first | (with_reducible exact HBL.out) | (with_reducible refine Below.setCell ?_ ?_ _; rotate_left; ((try simp) <;> (try omega))))
end
section
open Go.RowKit
set_option maxRecDepth 100000 in
set_option maxHeartbeats 1000000 in
theorem markNodeS_0 (a : Option Addr) (c : Nat) (n : Int) (w : World) : Calls Try.prog 50 #[.slice a 0 c, .int .i64 n] w fun e w' => e = .returned (.int .i64 n) ∧ w = w' := by
  go_enter Try.func50, Try.ntmps50
  go_wp2_with fail
  go_loop [1, 5] (fun m i => ∃ k : Nat, k ≤ 0 ∧ i = .int .i64 k ∧ m = .int .i64 n) (fun _ i => 0)
  case atStart => exact ⟨0, Nat.le_refl _, rfl, rfl⟩
  case round =>
    obtain ⟨k, hk, rfl, rfl⟩ := hrel
    obtain rfl : k = 0 := by omega
    go_wp2_with fail
    go_ret
    exact ⟨rfl, rfl⟩
set_option maxRecDepth 100000 in
set_option maxHeartbeats 1000000 in
theorem heldNodeS_0 (a : Option Addr) (c : Nat) (n : Int) (w : World) : Calls Try.prog 57 #[.slice a 0 c, .int .i64 n] w fun e w' => e = .returned (.int .i64 n) ∧ w = w' := by
  go_enter Try.func57, Try.ntmps57
  go_wp2_with fail
  go_loop [1, 5] (fun m i => ∃ k : Nat, k ≤ 0 ∧ i = .int .i64 k ∧ m = .int .i64 n) (fun _ i => 0)
  case atStart => exact ⟨0, Nat.le_refl _, rfl, rfl⟩
  case round =>
    obtain ⟨k, hk, rfl, rfl⟩ := hrel
    obtain rfl : k = 0 := by omega
    go_wp2_with fail
    go_ret
    exact ⟨rfl, rfl⟩
set_option maxRecDepth 100000 in
set_option maxHeartbeats 1000000 in
theorem markStoreS_0 (a : Option Addr) (c : Nat) (n : Int) (w : World) : Calls Try.prog 51 #[.slice a 0 c, .int .i64 n] w fun e w' => e = .returned (.int .i64 n) ∧ w = w' := by
  go_enter Try.func51, Try.ntmps51
  go_wp2_with fail
  go_loop [1, 5] (fun m i => ∃ k : Nat, k ≤ 0 ∧ i = .int .i64 k ∧ m = .int .i64 n) (fun _ i => 0)
  case atStart => exact ⟨0, Nat.le_refl _, rfl, rfl⟩
  case round =>
    obtain ⟨k, hk, rfl, rfl⟩ := hrel
    obtain rfl : k = 0 := by omega
    go_wp2_with fail
    go_ret
    exact ⟨rfl, rfl⟩
set_option maxRecDepth 100000 in
set_option maxHeartbeats 1000000 in
theorem heldStoreS_0 (a : Option Addr) (c : Nat) (n : Int) (w : World) : Calls Try.prog 58 #[.slice a 0 c, .int .i64 n] w fun e w' => e = .returned (.int .i64 n) ∧ w = w' := by
  go_enter Try.func58, Try.ntmps58
  go_wp2_with fail
  go_loop [1, 5] (fun m i => ∃ k : Nat, k ≤ 0 ∧ i = .int .i64 k ∧ m = .int .i64 n) (fun _ i => 0)
  case atStart => exact ⟨0, Nat.le_refl _, rfl, rfl⟩
  case round =>
    obtain ⟨k, hk, rfl, rfl⟩ := hrel
    obtain rfl : k = 0 := by omega
    go_wp2_with fail
    go_ret
    exact ⟨rfl, rfl⟩
set_option maxRecDepth 100000 in
set_option maxHeartbeats 1000000 in
theorem markMessageS_0 (a : Option Addr) (c : Nat) (n : Int) (w : World) : Calls Try.prog 52 #[.slice a 0 c, .int .i64 n] w fun e w' => e = .returned (.int .i64 n) ∧ w = w' := by
  go_enter Try.func52, Try.ntmps52
  go_wp2_with fail
  go_loop [1, 5] (fun m i => ∃ k : Nat, k ≤ 0 ∧ i = .int .i64 k ∧ m = .int .i64 n) (fun _ i => 0)
  case atStart => exact ⟨0, Nat.le_refl _, rfl, rfl⟩
  case round =>
    obtain ⟨k, hk, rfl, rfl⟩ := hrel
    obtain rfl : k = 0 := by omega
    go_wp2_with fail
    go_ret
    exact ⟨rfl, rfl⟩
set_option maxRecDepth 100000 in
set_option maxHeartbeats 1000000 in
theorem heldMessageS_0 (a : Option Addr) (c : Nat) (n : Int) (w : World) : Calls Try.prog 59 #[.slice a 0 c, .int .i64 n] w fun e w' => e = .returned (.int .i64 n) ∧ w = w' := by
  go_enter Try.func59, Try.ntmps59
  go_wp2_with fail
  go_loop [1, 5] (fun m i => ∃ k : Nat, k ≤ 0 ∧ i = .int .i64 k ∧ m = .int .i64 n) (fun _ i => 0)
  case atStart => exact ⟨0, Nat.le_refl _, rfl, rfl⟩
  case round =>
    obtain ⟨k, hk, rfl, rfl⟩ := hrel
    obtain rfl : k = 0 := by omega
    go_wp2_with fail
    go_ret
    exact ⟨rfl, rfl⟩
set_option maxRecDepth 100000 in
set_option maxHeartbeats 1000000 in
theorem markStringS_0 (a : Option Addr) (c : Nat) (n : Int) (w : World) : Calls Try.prog 21 #[.slice a 0 c, .int .i64 n] w fun e w' => e = .returned (.int .i64 n) ∧ w = w' := by
  go_enter Try.func21, Try.ntmps21
  go_wp2_with fail
  go_loop [1, 5] (fun m i => ∃ k : Nat, k ≤ 0 ∧ i = .int .i64 k ∧ m = .int .i64 n) (fun _ i => 0)
  case atStart => exact ⟨0, Nat.le_refl _, rfl, rfl⟩
  case round =>
    obtain ⟨k, hk, rfl, rfl⟩ := hrel
    obtain rfl : k = 0 := by omega
    go_wp2_with fail
    go_ret
    exact ⟨rfl, rfl⟩
set_option maxRecDepth 100000 in
set_option maxHeartbeats 1000000 in
theorem heldStringS_0 (a : Option Addr) (c : Nat) (n : Int) (w : World) : Calls Try.prog 22 #[.slice a 0 c, .int .i64 n] w fun e w' => e = .returned (.int .i64 n) ∧ w = w' := by
  go_enter Try.func22, Try.ntmps22
  go_wp2_with fail
  go_loop [1, 5] (fun m i => ∃ k : Nat, k ≤ 0 ∧ i = .int .i64 k ∧ m = .int .i64 n) (fun _ i => 0)
  case atStart => exact ⟨0, Nat.le_refl _, rfl, rfl⟩
  case round =>
    obtain ⟨k, hk, rfl, rfl⟩ := hrel
    obtain rfl : k = 0 := by omega
    go_wp2_with fail
    go_ret
    exact ⟨rfl, rfl⟩
def NodePE (lo hi : Nat) (w : World) (a : Option Addr) (rs : List NodeA) : Prop := rs = [] ∨ NodeP lo hi w a rs
section
variable {lo hi l r : Nat} {w w' : World} {a : Option Addr} {rs : List NodeA}
theorem NodePE.keep (h : NodePE lo hi w a rs) (hb : Below w.heap.size w w') : NodePE lo hi w' a rs := h.imp id (fun h => NodeP.keep h hb)
theorem NodePE.mid (h : NodePE lo hi w a rs) (hm : Mid l r w w') (hd : hi ≤ l ∨ r ≤ lo) : NodePE lo hi w' a rs := h.imp id (fun h => NodeP.mid h hm hd)
end
theorem markNodePE_c (lo hi ca K : Nat) (a : Option Addr) (rs : List NodeA) (w : World) (h : NodePE lo hi w a rs) (hK : nodeNum K rs ≤ 17592186044416) :
    Calls Try.prog 50 #[.slice a rs.length ca, .int .i64 K] w fun e w' => e = .returned (.int .i64 ((nodeNum K rs : Nat))) ∧ NodePE lo hi w' a (nodesMk rs K) ∧ Mid lo hi w w' := by
  rcases h with rfl | h
  · refine (markNodeS_0 a ca K w).mono ?_
    rintro e w' ⟨rfl, rfl⟩
    exact ⟨rfl, .inl rfl, Mid.refl _ _ _⟩
  · refine (markNodeP_c lo hi ca K a rs w h hK).mono ?_
    rintro e w' ⟨rfl, h1, h2⟩
    exact ⟨rfl, .inr h1, h2⟩
theorem heldNodePE_c (lo hi ca K : Nat) (a : Option Addr) (rs : List NodeA) (w : World) (h : NodePE lo hi w a (nodesMk rs K)) (hK : nodeNum K rs ≤ 17592186044416) :
    Calls Try.prog 57 #[.slice a rs.length ca, .int .i64 K] w fun e w' => e = .returned (.int .i64 ((nodeNum K rs : Nat))) ∧ Below w.heap.size w w' := by
  rcases h with h | h
  · have h0 : rs = [] := by
      have := congrArg List.length h
      simp [nodesMk] at this
      exact this
    subst h0
    refine (heldNodeS_0 a ca K w).mono ?_
    rintro e w' ⟨rfl, rfl⟩
    exact ⟨rfl, Below.refl _ _⟩
  · exact heldNodeP_c lo hi ca K a rs w h hK
def StoPE (lo hi : Nat) (w : World) (a : Option Addr) (rs : List Sto) : Prop := rs = [] ∨ StoP lo hi w a rs
section
variable {lo hi l r : Nat} {w w' : World} {a : Option Addr} {rs : List Sto}
theorem StoPE.keep (h : StoPE lo hi w a rs) (hb : Below w.heap.size w w') : StoPE lo hi w' a rs := h.imp id (fun h => StoP.keep h hb)
theorem StoPE.mid (h : StoPE lo hi w a rs) (hm : Mid l r w w') (hd : hi ≤ l ∨ r ≤ lo) : StoPE lo hi w' a rs := h.imp id (fun h => StoP.mid h hm hd)
end
theorem markStoPE_c (lo hi ca K : Nat) (a : Option Addr) (rs : List Sto) (w : World) (h : StoPE lo hi w a rs) (hK : storeNum K rs ≤ 17592186044416) :
    Calls Try.prog 51 #[.slice a rs.length ca, .int .i64 K] w fun e w' => e = .returned (.int .i64 ((storeNum K rs : Nat))) ∧ StoPE lo hi w' a (storesMk rs K) ∧ Mid lo hi w w' := by
  rcases h with rfl | h
  · refine (markStoreS_0 a ca K w).mono ?_
    rintro e w' ⟨rfl, rfl⟩
    exact ⟨rfl, .inl rfl, Mid.refl _ _ _⟩
  · refine (markStoP_c lo hi ca K a rs w h hK).mono ?_
    rintro e w' ⟨rfl, h1, h2⟩
    exact ⟨rfl, .inr h1, h2⟩
theorem heldStoPE_c (lo hi ca K : Nat) (a : Option Addr) (rs : List Sto) (w : World) (h : StoPE lo hi w a (storesMk rs K)) (hK : storeNum K rs ≤ 17592186044416) :
    Calls Try.prog 58 #[.slice a rs.length ca, .int .i64 K] w fun e w' => e = .returned (.int .i64 ((storeNum K rs : Nat))) ∧ Below w.heap.size w w' := by
  rcases h with h | h
  · have h0 : rs = [] := by
      have := congrArg List.length h
      simp [storesMk] at this
      exact this
    subst h0
    refine (heldStoreS_0 a ca K w).mono ?_
    rintro e w' ⟨rfl, rfl⟩
    exact ⟨rfl, Below.refl _ _⟩
  · exact heldStoP_c lo hi ca K a rs w h hK
structure CluN (lo hi : Nat) (w : World) (an : Option Addr) (ns : List NodeA) (ast : Option Addr) (ss : List Sto) : Prop where
  ex : ∃ n1 n2 s1 s2, lo ≤ n1 ∧ n1 ≤ n2 ∧ n2 ≤ hi ∧ lo ≤ s1 ∧ s1 ≤ s2 ∧ s2 ≤ hi ∧ (n2 ≤ s1 ∨ s2 ≤ n1) ∧ NodePE n1 n2 w an ns ∧ StoPE s1 s2 w ast ss
theorem CluN.below {lo hi : Nat} {w : World} {an ast : Option Addr} {ns : List NodeA} {ss : List Sto} (h : CluN lo hi w an ns ast ss) {w' : World} (hb : Below w.heap.size w w') : CluN lo hi w' an ns ast ss := by
  obtain ⟨n1, n2, s1, s2, h1, h2, h3, h4, h5, h6, h7, a, b⟩ := h
  exact ⟨n1, n2, s1, s2, h1, h2, h3, h4, h5, h6, h7, a.keep hb, b.keep hb⟩
theorem CluN.mid {lo hi : Nat} {w : World} {an ast : Option Addr} {ns : List NodeA} {ss : List Sto} (h : CluN lo hi w an ns ast ss) {l r : Nat} {w' : World} (hm : Mid l r w w') (hd : hi ≤ l ∨ r ≤ lo) : CluN lo hi w' an ns ast ss := by
  obtain ⟨n1, n2, s1, s2, h1, h2, h3, h4, h5, h6, h7, a, b⟩ := h
  exact ⟨n1, n2, s1, s2, h1, h2, h3, h4, h5, h6, h7, a.mid hm (by omega), b.mid hm (by omega)⟩
theorem CluN.alloc {lo hi : Nat} {w : World} {an ast : Option Addr} {ns : List NodeA} {ss : List Sto} (h : CluN lo hi w an ns ast ss) (o : Obj) : CluN lo hi (w.alloc o) an ns ast ss := h.below ((Below.refl _ _).alloc (Nat.le_refl _) _)
theorem CluN.drew {lo hi : Nat} {w : World} {an ast : Option Addr} {ns : List NodeA} {ss : List Sto} (h : CluN lo hi w an ns ast ss) : CluN lo hi w.drew an ns ast ss := h.below ((Below.refl _ _).drew)
structure CluK (lo hi : Nat) (K : Nat) (w : World) (an : Option Addr) (ns : List NodeA) (ast : Option Addr) (ss : List Sto) : Prop where
  ex : ∃ n1 n2 s1 s2, lo ≤ n1 ∧ n1 ≤ n2 ∧ n2 ≤ hi ∧ lo ≤ s1 ∧ s1 ≤ s2 ∧ s2 ≤ hi ∧ (n2 ≤ s1 ∨ s2 ≤ n1) ∧ NodePE n1 n2 w an (nodesMk ns K) ∧ StoPE s1 s2 w ast (storesMk ss (nodeNum K ns))
theorem CluK.below {lo hi : Nat} {w : World} {an ast : Option Addr} {ns : List NodeA} {ss : List Sto}{K : Nat}  (h : CluK lo hi K w an ns ast ss) {w' : World} (hb : Below w.heap.size w w') : CluK lo hi K w' an ns ast ss := by
  obtain ⟨n1, n2, s1, s2, h1, h2, h3, h4, h5, h6, h7, a, b⟩ := h
  exact ⟨n1, n2, s1, s2, h1, h2, h3, h4, h5, h6, h7, a.keep hb, b.keep hb⟩
theorem CluK.mid {lo hi : Nat} {w : World} {an ast : Option Addr} {ns : List NodeA} {ss : List Sto}{K : Nat}  (h : CluK lo hi K w an ns ast ss) {l r : Nat} {w' : World} (hm : Mid l r w w') (hd : hi ≤ l ∨ r ≤ lo) : CluK lo hi K w' an ns ast ss := by
  obtain ⟨n1, n2, s1, s2, h1, h2, h3, h4, h5, h6, h7, a, b⟩ := h
  exact ⟨n1, n2, s1, s2, h1, h2, h3, h4, h5, h6, h7, a.mid hm (by omega), b.mid hm (by omega)⟩
theorem CluK.alloc {lo hi : Nat} {w : World} {an ast : Option Addr} {ns : List NodeA} {ss : List Sto}{K : Nat}  (h : CluK lo hi K w an ns ast ss) (o : Obj) : CluK lo hi K (w.alloc o) an ns ast ss := h.below ((Below.refl _ _).alloc (Nat.le_refl _) _)
theorem CluK.drew {lo hi : Nat} {w : World} {an ast : Option Addr} {ns : List NodeA} {ss : List Sto}{K : Nat}  (h : CluK lo hi K w an ns ast ss) : CluK lo hi K w.drew an ns ast ss := h.below ((Below.refl _ _).drew)
set_option maxRecDepth 100000 in
set_option maxHeartbeats 4000000 in
theorem markCluN_c (an ast : Option Addr) (ns : List NodeA) (ss : List Sto) (cn cst K lo hi : Nat) (w : World) (h : CluN lo hi w an ns ast ss) (hhi : hi ≤ w.heap.size) (hK : storeNum (nodeNum K ns) ss ≤ 17592186044416) :
    Calls Try.prog 20 #[.agg #[.slice an ns.length cn, .slice ast ss.length cst, .slice none 0 0, .slice none 0 0], .int .i64 K] w fun e w' => e = .returned (.int .i64 ((storeNum (nodeNum K ns) ss : Nat))) ∧ CluK lo hi K w' an ns ast ss ∧ Mid lo hi w w' := by
  obtain ⟨n1, n2, s1, s2, h1, h2, h3, h4, h5, h6, h7, a, b⟩ := h
  have hk1 : nodeNum K ns ≤ 17592186044416 := Nat.le_trans (storeNum_mono _ _) hK
  have HK1 := Lib.hid hk1
  have HK2 := Lib.hid hK
  have A0 := Lib.hid (a.keep ((Below.refl _ _).alloc (Nat.le_refl _) (.cells #[.slice an ns.length cn, .slice ast ss.length cst, .slice none 0 0, .slice none 0 0] 34)))
  have B0 := Lib.hid (b.keep ((Below.refl _ _).alloc (Nat.le_refl _) (.cells #[.slice an ns.length cn, .slice ast ss.length cst, .slice none 0 0, .slice none 0 0] 34)))
  clear a b hk1 hK
  go_enter Try.func20, Try.ntmps20
  go_wp2_with fail
  refine (markNodePE_c n1 n2 cn K an ns _ A0.out HK1.out).mono ?_
  rintro e w1 ⟨rfl, a1, m1⟩
  have z1 := m1.size
  simp only [World.size_alloc] at z1
  have A1 := Lib.hid a1
  have B1 := Lib.hid (B0.out.mid m1 (by omega))
  have M1 : Hid (Mid lo hi w w1) := Lib.hid ((Mid.of_below lo hi ((Below.refl _ _).alloc (Nat.le_refl _) _)).trans (m1.mono (by omega) (by omega)))
  clear a1 A0 B0
  have q1_0 : w1.cell? ⟨w.heap.size, 0, none⟩ = some (.slice an ns.length cn) := (m1.cell (p := ⟨w.heap.size, 0, none⟩) (by show w.heap.size < _; (try simp) <;> omega) (.inr (by show n2 ≤ w.heap.size; omega))).trans (by simp [go_sem])
  have q1_1 : w1.cell? ⟨w.heap.size, 1, none⟩ = some (.slice ast ss.length cst) := (m1.cell (p := ⟨w.heap.size, 1, none⟩) (by show w.heap.size < _; (try simp) <;> omega) (.inr (by show n2 ≤ w.heap.size; omega))).trans (by simp [go_sem])
  have q1_2 : w1.cell? ⟨w.heap.size, 2, none⟩ = some (.slice none 0 0) := (m1.cell (p := ⟨w.heap.size, 2, none⟩) (by show w.heap.size < _; (try simp) <;> omega) (.inr (by show n2 ≤ w.heap.size; omega))).trans (by simp [go_sem])
  have q1_3 : w1.cell? ⟨w.heap.size, 3, none⟩ = some (.slice none 0 0) := (m1.cell (p := ⟨w.heap.size, 3, none⟩) (by show w.heap.size < _; (try simp) <;> omega) (.inr (by show n2 ≤ w.heap.size; omega))).trans (by simp [go_sem])
  have hw1 : w.heap.size < w1.heap.size := by omega
  clear m1
  obtain ⟨J1, hJ1⟩ : ∃ J, nodeNum K ns = J := ⟨_, rfl⟩
  have HJ1 := Lib.hid hJ1
  rw [hJ1] at HK2 ⊢
  clear hJ1
  go_wp2_with fail
  refine (markStoPE_c s1 s2 cst J1 ast ss _ B1.out HK2.out).mono ?_
  rintro e w2 ⟨rfl, b2, m2⟩
  have z2 := m2.size
  have A2 := Lib.hid (A1.out.mid m2 (by omega))
  have B2 := Lib.hid b2
  have M2 : Hid (Mid lo hi w w2) := Lib.hid (M1.out.trans (m2.mono (by omega) (by omega)))
  clear b2 A1 B1
  have q2_0 : w2.cell? ⟨w.heap.size, 0, none⟩ = some (.slice an ns.length cn) := (m2.cell (p := ⟨w.heap.size, 0, none⟩) (by show w.heap.size < _; (try simp) <;> omega) (.inr (by show s2 ≤ w.heap.size; omega))).trans q1_0
  have q2_1 : w2.cell? ⟨w.heap.size, 1, none⟩ = some (.slice ast ss.length cst) := (m2.cell (p := ⟨w.heap.size, 1, none⟩) (by show w.heap.size < _; (try simp) <;> omega) (.inr (by show s2 ≤ w.heap.size; omega))).trans q1_1
  have q2_2 : w2.cell? ⟨w.heap.size, 2, none⟩ = some (.slice none 0 0) := (m2.cell (p := ⟨w.heap.size, 2, none⟩) (by show w.heap.size < _; (try simp) <;> omega) (.inr (by show s2 ≤ w.heap.size; omega))).trans q1_2
  have q2_3 : w2.cell? ⟨w.heap.size, 3, none⟩ = some (.slice none 0 0) := (m2.cell (p := ⟨w.heap.size, 3, none⟩) (by show w.heap.size < _; (try simp) <;> omega) (.inr (by show s2 ≤ w.heap.size; omega))).trans q1_3
  clear q1_0 q1_1 q1_2 q1_3
  have hw2 : w.heap.size < w2.heap.size := by omega
  clear m2
  obtain ⟨J2, hJ2⟩ : ∃ J, storeNum J1 ss = J := ⟨_, rfl⟩
  have HJ2 := Lib.hid hJ2
  rw [hJ2]
  clear hJ2
  go_wp2_with (first | (go_at_call 52; refine (markMessageS_0 _ _ _ _).mono ?_; rintro e w' ⟨rfl, rfl⟩) | (go_at_call 21; refine (markStringS_0 _ _ _ _).mono ?_; rintro e w' ⟨rfl, rfl⟩))
  go_ret
  refine ⟨by first | rfl | (rw [HJ1.out, HJ2.out]; rfl), ⟨n1, n2, s1, s2, h1, h2, h3, h4, h5, h6, h7, A2.out, ?_⟩, M2.out⟩
  first | exact B2.out | (rw [HJ1.out]; exact B2.out)
set_option maxRecDepth 100000 in
set_option maxHeartbeats 4000000 in
theorem heldCluK_c (an ast : Option Addr) (ns : List NodeA) (ss : List Sto) (cn cst K lo hi : Nat) (w : World) (h : CluK lo hi K w an ns ast ss) (hK : storeNum (nodeNum K ns) ss ≤ 17592186044416) :
    Calls Try.prog 25 #[.agg #[.slice an ns.length cn, .slice ast ss.length cst, .slice none 0 0, .slice none 0 0], .int .i64 K] w fun e w' => e = .returned (.int .i64 ((storeNum (nodeNum K ns) ss : Nat))) ∧ Below w.heap.size w w' := by
  obtain ⟨n1, n2, s1, s2, h1, h2, h3, h4, h5, h6, h7, a, b⟩ := h
  have hk1 : nodeNum K ns ≤ 17592186044416 := Nat.le_trans (storeNum_mono _ _) hK
  have HK1 := Lib.hid hk1
  have HK2 := Lib.hid hK
  have A0 := Lib.hid (a.keep ((Below.refl _ _).alloc (Nat.le_refl _) (.cells #[.slice an ns.length cn, .slice ast ss.length cst, .slice none 0 0, .slice none 0 0] 34)))
  have B0 := Lib.hid (b.keep ((Below.refl _ _).alloc (Nat.le_refl _) (.cells #[.slice an ns.length cn, .slice ast ss.length cst, .slice none 0 0, .slice none 0 0] 34)))
  clear a b hk1 hK h1 h2 h3 h4 h5 h6 h7
  go_enter Try.func25, Try.ntmps25
  go_wp2_with fail
  refine (heldNodePE_c n1 n2 cn K an ns _ A0.out HK1.out).mono ?_
  rintro e w1 ⟨rfl, m1⟩
  have z1 := m1.size
  simp only [World.size_alloc] at z1
  have B1 := Lib.hid (B0.out.keep m1)
  have M1 : Hid (Below w.heap.size w w1) := Lib.hid (((Below.refl _ _).alloc (Nat.le_refl _) _).trans (m1.mono (by simp)))
  clear A0 B0
  have q1_0 : w1.cell? ⟨w.heap.size, 0, none⟩ = some (.slice an ns.length cn) := (m1.cell (p := ⟨w.heap.size, 0, none⟩) (by show w.heap.size < _; (try simp) <;> omega)).trans (by simp [go_sem])
  have q1_1 : w1.cell? ⟨w.heap.size, 1, none⟩ = some (.slice ast ss.length cst) := (m1.cell (p := ⟨w.heap.size, 1, none⟩) (by show w.heap.size < _; (try simp) <;> omega)).trans (by simp [go_sem])
  have q1_2 : w1.cell? ⟨w.heap.size, 2, none⟩ = some (.slice none 0 0) := (m1.cell (p := ⟨w.heap.size, 2, none⟩) (by show w.heap.size < _; (try simp) <;> omega)).trans (by simp [go_sem])
  have q1_3 : w1.cell? ⟨w.heap.size, 3, none⟩ = some (.slice none 0 0) := (m1.cell (p := ⟨w.heap.size, 3, none⟩) (by show w.heap.size < _; (try simp) <;> omega)).trans (by simp [go_sem])
  have hw1 : w.heap.size < w1.heap.size := by omega
  clear m1
  obtain ⟨J1, hJ1⟩ : ∃ J, nodeNum K ns = J := ⟨_, rfl⟩
  rw [hJ1] at HK2 B1 ⊢
  have HJ1 := Lib.hid hJ1
  have g1 : decide ((J1 : Int) < 0) = false := decide_eq_false (by omega)
  clear hJ1
  go_wp2_with fail
  refine (heldStoPE_c s1 s2 cst J1 ast ss _ B1.out HK2.out).mono ?_
  rintro e w2 ⟨rfl, m2⟩
  have z2 := m2.size
  have M2 : Hid (Below w.heap.size w w2) := Lib.hid (M1.out.trans (m2.mono (by omega)))
  clear B1
  have q2_0 : w2.cell? ⟨w.heap.size, 0, none⟩ = some (.slice an ns.length cn) := (m2.cell (p := ⟨w.heap.size, 0, none⟩) (by show w.heap.size < _; (try simp) <;> omega)).trans q1_0
  have q2_1 : w2.cell? ⟨w.heap.size, 1, none⟩ = some (.slice ast ss.length cst) := (m2.cell (p := ⟨w.heap.size, 1, none⟩) (by show w.heap.size < _; (try simp) <;> omega)).trans q1_1
  have q2_2 : w2.cell? ⟨w.heap.size, 2, none⟩ = some (.slice none 0 0) := (m2.cell (p := ⟨w.heap.size, 2, none⟩) (by show w.heap.size < _; (try simp) <;> omega)).trans q1_2
  have q2_3 : w2.cell? ⟨w.heap.size, 3, none⟩ = some (.slice none 0 0) := (m2.cell (p := ⟨w.heap.size, 3, none⟩) (by show w.heap.size < _; (try simp) <;> omega)).trans q1_3
  clear q1_0 q1_1 q1_2 q1_3
  have hw2 : w.heap.size < w2.heap.size := by omega
  clear m2
  obtain ⟨J2, hJ2⟩ : ∃ J, storeNum J1 ss = J := ⟨_, rfl⟩
  have HJ2 := Lib.hid hJ2
  rw [hJ2]
  have g2 : decide ((J2 : Int) < 0) = false := decide_eq_false (by omega)
  clear hJ2
  go_wp2_with (first | (go_at_call 59; refine (heldMessageS_0 _ _ _ _).mono ?_; rintro e w' ⟨rfl, rfl⟩) | (go_at_call 22; refine (heldStringS_0 _ _ _ _).mono ?_; rintro e w' ⟨rfl, rfl⟩))
  go_ret
  exact ⟨by first | rfl | (rw [HJ1.out, HJ2.out]; rfl), M2.out⟩
end
section
open Go.RowKit
section
variable {α : Type} {enc : α → List Value} {w : World}
theorem wpList_append_freshG {P : Program} {ops : Array Oper} {rest : List Oper} {o : Oper} {a : Act} {Q : Exit → Act → World → Prop} (hgd : o.guard = none) (s x : Operand) (t tx : TypeId)
    (ho : o.op = .call { callee := .builtin .append, args := #[s, x], argTypes := #[t, tx] })
    (lo hi : Nat) (e : TypeId) (i : TypeInfo) (z : Value) (size bytes : Nat) (ht : P.underlying t = some (.slice e)) (hinfo : P.info? e = some i) (hz : i.zero = some z)
    (hsize : i.size = size) (hby : i.bytes = bytes) (hzs : z.cells.size = size) (hbp : 0 < bytes)
    (ad : Option Addr) (n c : Nat) (zs : List α) (hs : a.eval s = .slice ad n c) (hF : FreshIn enc e size lo hi (.slice ad n c) zs w)
    (xv : Value) (ys : List α) (hx : a.eval x = xv) (hsrc : Src P size tx xv ys.length (ys.flatMap enc) w)
    (hbytes : (zs.length + ys.length) * bytes ≤ 140737488355328) (hlo : lo ≤ w.heap.size)
    (h : ∀ a' c' w' us, Hid (us = zs ++ ys) → FreshIn enc e size lo w'.heap.size (.slice a' us.length c') us w' → Mid lo hi w w' → (∀ k ∈ blkOf a', k ∈ blkOf ad ∨ k = w.heap.size) → wpList P ops Q rest (a.put o.dst (.slice a' us.length c')) w') : wpList P ops Q (o :: rest) a w := by
  have hrow := hF.row
  obtain ⟨⟨a', cap', hv, h1, h2⟩, h3⟩ := hF
  cases hv
  refine wpList_append_src w hgd s x t tx ho lo e i z size bytes ht hinfo hz hsize hby hzs _ zs.length (zs.flatMap enc) hs h2 xv ys.length (ys.flatMap enc) hx hsrc ?_ hbytes hlo ?_
  · have : zs.length + ys.length ≤ (zs.length + ys.length) * bytes := Nat.le_mul_of_pos_right _ hbp
    unfold maxLen; omega
  · intro v' w' k1 k2 k3
    have hf : Fresh enc e size lo v' (zs ++ ys) w' := Fresh.of_own k1 (by simp) (by simp)
    obtain ⟨a1, c1, rfl, _⟩ := id hf
    refine h a1 c1 w' _ rfl hf.here (Mid.of_grown k2 hrow) (fun k hk => ?_)
    have hk' := (blkOf_own (n := (zs ++ ys).length) (c := c1)).1 hk
    rcases k3 with k3 | k3
    · exact .inl ((blkOf_own (n := zs.length) (c := c)).2 (k3 ▸ hk'))
    · rw [k3] at hk'
      exact .inr (Option.some.inj hk').symm
theorem Sl.midB {sz l r : Nat} {w' : World} {a : Option Addr} {xs : List α} (h : Sl enc sz w a xs) (hm : Mid l r w w') (hd : ∀ b ∈ blkOf a, b < l ∨ r ≤ b) : Sl enc sz w' a xs := by
  rcases h with h1 | ⟨b, off, rfl, hlt, hc⟩
  · exact .inl h1
  · have hb := hd b (by simp [blkOf])
    exact .inr ⟨b, off, rfl, Nat.lt_of_lt_of_le hlt hm.size, fun i hi j hj => by rw [hm.cell (p := ⟨b, _, none⟩) hlt hb]; exact hc i hi j hj⟩
theorem Sl.setB {sz : Nat} {a : Option Addr} {xs : List α} (h : Sl enc sz w a xs) {p : Addr} (hd : ∀ b ∈ blkOf a, b ≠ p.block) (u : Value) : Sl enc sz (w.setCell p u) a xs :=
  h.setCell (fun b off e => hd b (by subst e; simp [blkOf])) u
end
def rdBlk (r : NodeA) : List Nat := blkOf r.an ++ blkOf r.am
structure NcJ (H n m lo cb : Nat) (L : List NodeA) (an : Option Addr) (cn : Nat) (ast : Option Addr) (cst : Nat) (aw ad : Option Addr) (w : World) : Prop where
  c0 : w.cell? ⟨cb, 0, none⟩ = some (.slice an L.length cn)
  c1 : w.cell? ⟨cb, 1, none⟩ = some (.slice ast m cst)
  c2 : w.cell? ⟨cb, 2, none⟩ = some (.slice aw 0 0)
  c3 : w.cell? ⟨cb, 3, none⟩ = some (.slice ad 0 0)
  fz : ∀ o, w.frozen? ⟨cb, o, none⟩ = false
  lt : cb < w.heap.size
  res : ResZ H w
  hlt : H < w.heap.size
  vals : ∀ i (h : i < L.length), L[i].N = newN i n
  rowN : FreshIn nodeE 54 13 lo w.heap.size (.slice an L.length cn) L w
  rowS : FreshIn stoE 58 2 lo w.heap.size (.slice ast (List.replicate m stoZ).length cst) (List.replicate m stoZ) w
  rd : ∀ r ∈ L, Sl intE 1 w r.an (List.replicate n 1) ∧ Sl intE 1 w r.am (List.replicate n 0) ∧ ∀ b ∈ rdBlk r, lo ≤ b ∧ b < w.heap.size ∧ b ∉ blkOf an ∧ b ∉ blkOf ast
  sep : ∀ b ∈ blkOf an, b ∉ blkOf ast
section
variable {H n m lo cb : Nat} {L us : List NodeA} {an an' ast ast' aw ad : Option Addr} {cn cn' cst cst' b : Nat} {w w' : World} {x : NodeA}
theorem NcJ.keep (h : NcJ H n m lo cb L an cn ast cst aw ad w) (hb : Below w.heap.size w w') : NcJ H n m lo cb L an cn ast cst aw ad w' where
  c0 := (hb.cell (p := ⟨cb, 0, none⟩) h.lt).trans h.c0
  c1 := (hb.cell (p := ⟨cb, 1, none⟩) h.lt).trans h.c1
  c2 := (hb.cell (p := ⟨cb, 2, none⟩) h.lt).trans h.c2
  c3 := (hb.cell (p := ⟨cb, 3, none⟩) h.lt).trans h.c3
  fz := fun o => (hb.frozen (p := ⟨cb, o, none⟩) h.lt).trans (h.fz o)
  lt := Nat.lt_of_lt_of_le h.lt hb.size
  res := h.res.to (fun j => hb.cell (p := ⟨H, j, none⟩) h.hlt) (fun j => hb.frozen (p := ⟨H, j, none⟩) h.hlt)
  hlt := Nat.lt_of_lt_of_le h.hlt hb.size
  vals := h.vals
  rowN := h.rowN.keepB hb
  rowS := h.rowS.keepB hb
  rd := fun r hr => ⟨(h.rd r hr).1.keep hb, (h.rd r hr).2.1.keep hb, fun k hk => by
    have := (h.rd r hr).2.2 k hk
    have hz := hb.size
    exact ⟨this.1, by omega, this.2.2⟩⟩
  sep := h.sep
theorem NcJ.addN (h : NcJ H n m lo cb L an cn ast cst aw ad w) (hH : H < lo) (hcb : cb < lo) (hne : H ≠ cb) (hx : x.N = newN L.length n)
    (hx1 : Sl intE 1 w x.an (List.replicate n 1)) (hx2 : Sl intE 1 w x.am (List.replicate n 0)) (hx3 : ∀ k ∈ rdBlk x, lo ≤ k ∧ k < w.heap.size ∧ k ∉ blkOf an ∧ k ∉ blkOf ast)
    (hb3 : ∀ k, b ≤ k → k < b + 1 → k < w.heap.size → k ∈ blkOf an) (hlB : lo ≤ b)
    (hus : us = L ++ [x]) (hf : FreshIn nodeE 54 13 b w'.heap.size (.slice an' us.length cn') us w') (hm : Mid b (b + 1) w w') (hk : ∀ k ∈ blkOf an', k ∈ blkOf an ∨ k = w.heap.size) :
    NcJ H n m lo cb us an' cn' ast cst aw ad (w'.setCell ⟨cb, 0, none⟩ (.slice an' us.length cn')) := by
  have hz := hm.size
  have hcell : ∀ j, w'.cell? ⟨cb, j, none⟩ = w.cell? ⟨cb, j, none⟩ := fun j => hm.cell (p := ⟨cb, j, none⟩) h.lt (.inl (by show cb < b; omega))
  have hfz : ∀ j, w'.frozen? ⟨cb, j, none⟩ = w.frozen? ⟨cb, j, none⟩ := fun j => hm.frozen (p := ⟨cb, j, none⟩) h.lt (.inl (by show cb < b; omega))
  have hav : ∀ k, k < w.heap.size → k ∉ blkOf an → k < b ∨ b + 1 ≤ k := fun k h1 h2 => by
    rcases Nat.lt_or_ge k b with h3 | h3
    · exact .inl h3
    · rcases Nat.lt_or_ge k (b + 1) with h4 | h4
      · exact absurd (hb3 k h3 h4 h1) h2
      · exact .inr h4
  have hstb : ∀ k ∈ blkOf ast, k < b ∨ b + 1 ≤ k := fun k hk' => hav k (h.rowS.blks k hk').2 (fun h2 => h.sep k h2 hk')
  have hrd : ∀ r ∈ us, Sl intE 1 w r.an (List.replicate n 1) ∧ Sl intE 1 w r.am (List.replicate n 0) ∧ ∀ k ∈ rdBlk r, lo ≤ k ∧ k < w.heap.size ∧ k ∉ blkOf an ∧ k ∉ blkOf ast := by
    intro r hr
    rw [hus] at hr
    rcases List.mem_append.1 hr with hr | hr
    · exact h.rd r hr
    · simp at hr; subst hr
      exact ⟨hx1, hx2, hx3⟩
  refine ⟨?_, ?_, ?_, ?_, ?_, ?_, ?_, ?_, ?_, ?_, ?_, ?_, ?_⟩
  · have := hcell 0
    rw [h.c0] at this
    simp [go_sem, this]
  · simp [go_sem, hcell 1, h.c1]
  · simp [go_sem, hcell 2, h.c2]
  · simp [go_sem, hcell 3, h.c3]
  · intro j
    rw [World.frozen?_setCell, hfz j]
    exact h.fz j
  · have := h.lt
    simp [World.setCell]
    omega
  · refine h.res.to (fun j => ?_) (fun j => ?_)
    · rw [World.cell?_setCell_other _ _ _ _ (fun e => by cases e; exact hne rfl)]
      exact hm.cell (p := ⟨H, j, none⟩) h.hlt (.inl (by show H < b; omega))
    · rw [World.frozen?_setCell]
      exact hm.frozen (p := ⟨H, j, none⟩) h.hlt (.inl (by show H < b; omega))
  · have := h.hlt
    simp [World.setCell]
    omega
  · intro i hi
    subst hus
    by_cases hil : i < L.length
    · rw [List.getElem_append_left hil]
      exact h.vals i hil
    · have : i = L.length := by simp at hi; omega
      subst this
      simpa using hx
  · exact FreshIn.setB (FreshIn.mono hf hlB (Nat.le_refl _)) (by show cb < lo; exact hcb) _
  · exact FreshIn.setB (FreshIn.midO h.rowS hm hstb) (by show cb < lo; exact hcb) _
  · intro r hr
    obtain ⟨g1, g2, g3⟩ := hrd r hr
    refine ⟨Sl.setB (g1.midB hm (fun k hk' => hav k (g3 k (by simp [rdBlk, hk'])).2.1 (g3 k (by simp [rdBlk, hk'])).2.2.1)) (fun k hk' => ?_) _, Sl.setB (g2.midB hm (fun k hk' => hav k (g3 k (by simp [rdBlk, hk'])).2.1 (g3 k (by simp [rdBlk, hk'])).2.2.1)) (fun k hk' => ?_) _, fun k hk' => ?_⟩
    · have := (g3 k (by simp [rdBlk, hk'])).1
      show k ≠ cb
      omega
    · have := (g3 k (by simp [rdBlk, hk'])).1
      show k ≠ cb
      omega
    · have g4 := g3 k hk'
      refine ⟨g4.1, by simp [World.setCell]; omega, fun h5 => ?_, g4.2.2.2⟩
      rcases hk k h5 with h6 | h6
      · exact g4.2.2.1 h6
      · omega
  · intro k h5 h6
    rcases hk k h5 with h7 | h7
    · exact h.sep k h7 h6
    · have := (h.rowS.blks k h6).2
      omega
theorem NcJ.addS {ss : List Sto} (h : NcJ H n m lo cb L an cn ast cst aw ad w) (hH : H < lo) (hcb : cb < lo) (hne : H ≠ cb)
    (hb3 : ∀ k, b ≤ k → k < b + 1 → k < w.heap.size → k ∈ blkOf ast) (hlB : lo ≤ b)
    (hus : ss = List.replicate m stoZ ++ [stoZ]) (hf : FreshIn stoE 58 2 b w'.heap.size (.slice ast' ss.length cst') ss w') (hm : Mid b (b + 1) w w') (hk : ∀ k ∈ blkOf ast', k ∈ blkOf ast ∨ k = w.heap.size) :
    NcJ H n (m + 1) lo cb L an cn ast' cst' aw ad (w'.setCell ⟨cb, 1, none⟩ (.slice ast' ss.length cst')) := by
  have hz := hm.size
  have hss : ss = List.replicate (m + 1) stoZ := by rw [hus, List.replicate_succ']
  have hcell : ∀ j, w'.cell? ⟨cb, j, none⟩ = w.cell? ⟨cb, j, none⟩ := fun j => hm.cell (p := ⟨cb, j, none⟩) h.lt (.inl (by show cb < b; omega))
  have hfz : ∀ j, w'.frozen? ⟨cb, j, none⟩ = w.frozen? ⟨cb, j, none⟩ := fun j => hm.frozen (p := ⟨cb, j, none⟩) h.lt (.inl (by show cb < b; omega))
  have hav : ∀ k, k < w.heap.size → k ∉ blkOf ast → k < b ∨ b + 1 ≤ k := fun k h1 h2 => by
    rcases Nat.lt_or_ge k b with h3 | h3
    · exact .inl h3
    · rcases Nat.lt_or_ge k (b + 1) with h4 | h4
      · exact absurd (hb3 k h3 h4 h1) h2
      · exact .inr h4
  have hnb : ∀ k ∈ blkOf an, k < b ∨ b + 1 ≤ k := fun k hk' => hav k (h.rowN.blks k hk').2 (h.sep k hk')
  clear hus
  subst hss
  refine ⟨?_, ?_, ?_, ?_, ?_, ?_, ?_, ?_, h.vals, ?_, ?_, ?_, ?_⟩
  · simp [go_sem, hcell 0, h.c0]
  · have := hcell 1
    rw [h.c1] at this
    simp [go_sem, this]
  · simp [go_sem, hcell 2, h.c2]
  · simp [go_sem, hcell 3, h.c3]
  · intro j
    rw [World.frozen?_setCell, hfz j]
    exact h.fz j
  · have := h.lt
    simp [World.setCell]
    omega
  · refine h.res.to (fun j => ?_) (fun j => ?_)
    · rw [World.cell?_setCell_other _ _ _ _ (fun e => by cases e; exact hne rfl)]
      exact hm.cell (p := ⟨H, j, none⟩) h.hlt (.inl (by show H < b; omega))
    · rw [World.frozen?_setCell]
      exact hm.frozen (p := ⟨H, j, none⟩) h.hlt (.inl (by show H < b; omega))
  · have := h.hlt
    simp [World.setCell]
    omega
  · exact FreshIn.setB (FreshIn.midO h.rowN hm hnb) (by show cb < lo; exact hcb) _
  · exact FreshIn.setB (FreshIn.mono hf hlB (Nat.le_refl _)) (by show cb < lo; exact hcb) _
  · intro r hr
    obtain ⟨g1, g2, g3⟩ := h.rd r hr
    refine ⟨Sl.setB (g1.midB hm (fun k hk' => hav k (g3 k (by simp [rdBlk, hk'])).2.1 (g3 k (by simp [rdBlk, hk'])).2.2.2)) (fun k hk' => ?_) _, Sl.setB (g2.midB hm (fun k hk' => hav k (g3 k (by simp [rdBlk, hk'])).2.1 (g3 k (by simp [rdBlk, hk'])).2.2.2)) (fun k hk' => ?_) _, fun k hk' => ?_⟩
    · have := (g3 k (by simp [rdBlk, hk'])).1
      show k ≠ cb
      omega
    · have := (g3 k (by simp [rdBlk, hk'])).1
      show k ≠ cb
      omega
    · have g4 := g3 k hk'
      refine ⟨g4.1, by simp [World.setCell]; omega, g4.2.2.1, fun h5 => ?_⟩
      rcases hk k h5 with h6 | h6
      · exact g4.2.2.2 h6
      · omega
  · intro k h5 h6
    rcases hk k h6 with h7 | h7
    · exact h.sep k h5 h7
    · have := (h.rowN.blks k h5).2
      omega
end
end
section
open Go.RowKit
def NcS (n : Nat) (w : World) (e : Ending) (w' : World) : Prop :=
  ∃ L an cn ast cst aw ad, e = .returned (.agg #[.slice an (List.length L) cn, .slice ast n cst, .slice aw 0 0, .slice ad 0 0]) ∧ L.length = n ∧ (∀ i (h : i < L.length), L[i].N = newN i n) ∧ (∀ w2, Mid 0 w.heap.size w' w2 → NodeS w2 an L ∧ StoS w2 ast (List.replicate n stoZ)) ∧ Below w.heap.size w w'
def nodeQ (k n : Nat) (b6 b12 b14 : Nat) (a11 : Option Addr) (c11 : Nat) : NodeA := ⟨newN k n, some ⟨b6, 0, none⟩, 0, some ⟨b12, 0, none⟩, 0, a11, c11, some ⟨b14, 0, none⟩, n⟩
theorem SlIn.blkB {α : Type} {enc : α → List Value} {sz lo hi : Nat} {w : World} {a : Option Addr} {xs : List α} (h : SlIn enc sz lo hi w a xs) (hx : xs ≠ []) : ∀ b ∈ blkOf a, lo ≤ b ∧ b < hi := by
  rcases h.1 with h1 | ⟨b, off, rfl, _, _⟩
  · exact absurd h1 hx
  · intro k hk
    simp [blkOf] at hk
    subst hk
    exact h.2 _ off rfl
theorem below_trans_mid {w wr w' : World} {r : Nat} (h : Below w.heap.size w wr) (hm : Mid w.heap.size r wr w') : Below w.heap.size w w' := h.trans (hm.below (Nat.le_refl _) h.size)
theorem NcJ.read {H n m lo cb : Nat} {L : List NodeA} {an ast aw ad : Option Addr} {cn cst : Nat} {w w' : World} (h : NcJ H n m lo cb L an cn ast cst aw ad w) {r : Nat} (hH : r ≤ lo) (hm : Mid 0 r w w') : NodeS w' an L ∧ StoS w' ast (List.replicate m stoZ) := by
  have hN : ∀ k ∈ blkOf an, k < 0 ∨ r ≤ k := fun k hk => .inr (by have := (h.rowN.blks k hk).1; omega)
  have hS : ∀ k ∈ blkOf ast, k < 0 ∨ r ≤ k := fun k hk => .inr (by have := (h.rowS.blks k hk).1; omega)
  have hs1 : Sl nodeE 13 w an L := h.rowN.sl (fun _ => rfl)
  have hs2 : Sl stoE 2 w ast (List.replicate m stoZ) := h.rowS.sl (fun _ => rfl)
  refine ⟨⟨hs1.midB hm hN, fun x hr => ?_⟩, hs2.midB hm hS⟩
  obtain ⟨g1, g2, g3⟩ := h.rd x hr
  obtain ⟨i, hi, rfl⟩ := List.getElem_of_mem hr
  have hv := h.vals i hi
  have b1 : ∀ k ∈ blkOf L[i].an, k < 0 ∨ r ≤ k := fun k hk => .inr (by have := (g3 k (by simp [rdBlk, hk])).1; omega)
  have b2 : ∀ k ∈ blkOf L[i].am, k < 0 ∨ r ≤ k := fun k hk => .inr (by have := (g3 k (by simp [rdBlk, hk])).1; omega)
  refine ⟨⟨?_, ?_, ?_, ?_⟩, ?_⟩
  · rw [hv]; exact .inl rfl
  · rw [hv]; exact .inl rfl
  · rw [hv]; exact g1.midB hm b1
  · rw [hv]; exact g2.midB hm b2
  · rw [hv]; exact Nat.zero_le _
set_option maxRecDepth 100000 in
set_option maxHeartbeats 4000000 in
theorem l09New_c (n : Nat) (hc : five n) (w : World) :
    Calls Try.prog 54 #[.int .i64 n] w (NcS n w) := by
  have hn : 1 ≤ n ∧ n ≤ 5 := by unfold five at hc; omega
  have HC := Lib.hid hc
  clear hc
  obtain ⟨i0, hi, hz0, hz1, hz2⟩ := info_parts Try.infoStore
  obtain ⟨i1, hi', hz0', hz1', hz2'⟩ := info_parts Try.infoNode
  go_enter Try.func54, Try.ntmps54
  go_wp2_with fail
  go_loopw [4] (fun i wr => ∃ (L : List NodeA) (an : Option Addr) (cn : Nat) (ast : Option Addr) (cst : Nat), L.length ≤ n ∧ i = .int .i64 L.length ∧ NcJ w.heap.size n L.length (w.heap.size + 1 + 1 + 1 + 1) (w.heap.size + 1 + 1 + 1) L an cn ast cst (some ⟨w.heap.size + 1, 0, none⟩) (some ⟨w.heap.size + 1 + 1, 0, none⟩) wr ∧ Below w.heap.size w wr) (fun i _ => n - (intOf i).toNat)
  case atStart =>
    refine ⟨[], none, 0, none, 0, Nat.zero_le _, rfl, ⟨by simp [go_sem], by simp [go_sem], by simp [go_sem], by simp [go_sem], fun o => by simp [go_sem], by simp [World.setCell], ⟨by simp [go_sem], by simp [go_sem], by simp [go_sem], by simp [go_sem], fun o => by simp [go_sem]⟩, by simp [World.setCell]; omega, fun i hi => absurd hi (Nat.not_lt_zero _), FreshIn.nil _ _ _ _ _ _, FreshIn.nil _ _ _ _ _ _, by simp, by simp [blkOf]⟩, (by repeat (first | exact Below.refl _ _ | (refine Below.alloc ?_ (by (try simp) <;> (try omega)) _) | (refine Below.setCell ?_ (by (try simp) <;> (try omega)) _) | (refine Below.drew ?_) | (refine Below.trans ?_ (Below.mono (by assumption) (by (try simp) <;> (try omega))))))⟩
  case round =>
    obtain ⟨L, an, cn, ast, cst, hk, rfl, hI, hbel⟩ := hrel
    have HI := Lib.hid hI
    have HBL := Lib.hid hbel
    have c_0 := hI.c0
    have c_1 := hI.c1
    have c_2 := hI.c2
    have c_3 := hI.c3
    have c_f := hI.fz
    have c_l := hI.lt
    have hbz := hbel.size
    clear hI hbel
    by_cases hlt : L.length < n
    · go_wp2_with fail
      refine wp_region_G (fun w' => w'.cell? ⟨w.heap.size + 1 + 1 + 1, 0, none⟩ = some (.slice an L.length cn)) (fun i => i == 9) (by kernel_rfl) c_0 ?_
      refine wpAnyG_takeW (i := 0) (v := ?_) rfl (by kernel_rfl) (by kernel_rfl) (by kernel_rfl) (fun _ _ _ h => h) (Or.inl ⟨by rfl, ?_⟩) ?_
      rotate_left
      · intro w' hSw
        go_simp
        try (with_reducible rfl)
      try simp only [Act.put, List.getElem_toArray, List.getElem_cons_zero, List.getElem_cons_succ, List.setIfInBounds_toArray, List.set_cons_zero, List.set_cons_succ]
      refine wpAnyG_take (i := 1) (v := ?_) rfl (by kernel_rfl) (by kernel_rfl) (by kernel_rfl) (by kernel_rfl) (fun _ _ _ h => h) c_0 (Or.inl ⟨by rfl, ?_⟩) ?_
      rotate_left
      · intro w' hSw
        go_simp
        try (with_reducible rfl)
      try simp only [Act.put, List.getElem_toArray, List.getElem_cons_zero, List.getElem_cons_succ, List.setIfInBounds_toArray, List.set_cons_zero, List.set_cons_succ]
      refine wpAnyG_takeW (i := 2) (v := ?_) rfl (by kernel_rfl) (by kernel_rfl) (by kernel_rfl) (fun _ _ _ h => h) (Or.inl ⟨by rfl, ?_⟩) ?_
      rotate_left
      · intro w' hSw
        go_simp
        try (with_reducible rfl)
      try simp only [Act.put, List.getElem_toArray, List.getElem_cons_zero, List.getElem_cons_succ, List.setIfInBounds_toArray, List.set_cons_zero, List.set_cons_succ]
      refine wpAnyG_takeW (i := 3) (v := ?_) rfl (by kernel_rfl) (by kernel_rfl) (by kernel_rfl) (fun _ _ _ h => h) (Or.inl ⟨by rfl, ?_⟩) ?_
      rotate_left
      · intro w' hSw
        go_simp
        try (with_reducible rfl)
      try simp only [Act.put, List.getElem_toArray, List.getElem_cons_zero, List.getElem_cons_succ, List.setIfInBounds_toArray, List.set_cons_zero, List.set_cons_succ]
      refine wpAnyG_takeW (i := 4) (v := ?_) rfl (by kernel_rfl) (by kernel_rfl) (by kernel_rfl) (fun _ _ _ h => h) (Or.inl ⟨by rfl, ?_⟩) ?_
      rotate_left
      · intro w' hSw
        go_simp
        try (with_reducible rfl)
      try simp only [Act.put, List.getElem_toArray, List.getElem_cons_zero, List.getElem_cons_succ, List.setIfInBounds_toArray, List.set_cons_zero, List.set_cons_succ]
      refine wpAnyG_one (i := 5) (by kernel_rfl) rfl c_0 (fun K' hK => ?_)
      simp only [List.getElem_toArray, List.getElem_cons_zero, List.getElem_cons_succ]
      go_simp
      go_at_call 86
      refine (l08New_c (L.length : Int) n HC.out _ (by omega) (by omega)).mono ?_
      rintro e w2 ⟨b6, b12, b14, a11, c11, rfl, f1, f2, hb2⟩
      have hzb := hb2.size
      simp only [World.size_drew] at hzb
      have d_0 : w2.cell? ⟨w.heap.size + 1 + 1 + 1, 0, none⟩ = some (.slice an L.length cn) := (hb2.cell (p := ⟨w.heap.size + 1 + 1 + 1, 0, none⟩) (by show w.heap.size + 1 + 1 + 1 < _; simp; omega)).trans c_0
      simp only []
      refine hK.out _ _ (Or.inr d_0) ?_
      clear hK K'
      try simp only [Act.put, List.getElem_toArray, List.getElem_cons_zero, List.getElem_cons_succ, List.setIfInBounds_toArray, List.set_cons_zero, List.set_cons_succ]
      refine wpAnyG_one (i := 6) (by kernel_rfl) rfl d_0 (fun K' hK => ?_)
      simp only [List.getElem_toArray, List.getElem_cons_zero, List.getElem_cons_succ]
      go_simp
      refine hK.out _ _ (Or.inr ?_) ?_
      · show World.cell? _ _ = _
        exact (World.cell?_alloc_lt _ _ _ (by show w.heap.size + 1 + 1 + 1 < _; omega)).trans d_0
      clear hK K'
      try simp only [Act.put, List.getElem_toArray, List.getElem_cons_zero, List.getElem_cons_succ, List.setIfInBounds_toArray, List.set_cons_zero, List.set_cons_succ]
      have hbw : Below wr.heap.size wr w2 := by simpa using ((Below.refl wr.heap.size wr).drew).trans (hb2.mono (by simp))
      have HBW := Lib.hid hbw
      have HF1 := Lib.hid f1
      have HF2 := Lib.hid f2
      clear f1 f2
      have D2 : Hid (∀ x, (w2.alloc x).cell? ⟨w.heap.size + 1 + 1 + 1, 0, none⟩ = some (.slice an L.length cn)) := Lib.hid (fun x => (World.cell?_alloc_lt _ _ _ (by show w.heap.size + 1 + 1 + 1 < _; omega)).trans d_0)
      obtain ⟨OB, hOB⟩ : ∃ o : Obj, o = .cells #[.int .i64 (L.length : Int), .int .i64 (n : Int), .int .i64 0, .int .i64 (-1), .int .i64 0, .bool true, .slice (some ⟨b6, 0, none⟩) 0 0, .int .i64 0, .int .i64 0, .int .i64 (5 + (L.length : Int)), .slice (some ⟨b12, 0, none⟩) 0 0, .slice a11 n c11, .slice (some ⟨b14, 0, none⟩) n n] 54 := ⟨_, rfl⟩
      obtain ⟨X, hX⟩ : ∃ X, nodeQ L.length n b6 b12 b14 a11 c11 = X := ⟨_, rfl⟩
      have HX := Lib.hid hX
      have hsrc : Src Try.prog 13 30 (.slice (some ⟨w2.heap.size, 0, none⟩) 1 1) [X].length ([X].flatMap nodeE) (w2.alloc OB) := by
        subst hOB
        subst hX
        exact Src.ofBox (enc := nodeE) Try.underlying30 (fun _ => rfl) nodeOne (nodeQ L.length n b6 b12 b14 a11 c11) _ _ (by simp [nodeE, nodeQ, newN]) _ rfl
      rw [← hOB]
      have hJ := HI.out.keep (hbw.alloc hbw.size OB)
      obtain ⟨b, t2, t3, t4, t5⟩ := hJ.rowN.tight
      have HT4 := Lib.hid t4
      have HT5 := Lib.hid t5
      have HT2 := Lib.hid t2
      have HSRC := Lib.hid hsrc
      have HJ := Lib.hid hJ
      clear t2 t4 t5 hJ hsrc hbw hOB hX
      simp only [World.size_alloc] at t3
      refine wpAnyG_one (i := 7) (by kernel_rfl) rfl (D2.out _) (fun K' hK => ?_)
      refine step_append_freshG (by rfl) (.tmp 14) (.tmp 19) 30 30 (by rfl) b (b + 1) 54 i1 (.agg #[.int .i64 0, .int .i64 0, .int .i64 0, .int .i64 0, .int .i64 0, .bool false, .slice none 0 0, .int .i64 0, .int .i64 0, .int .i64 0, .slice none 0 0, .slice none 0 0, .slice none 0 0]) 13 168 Try.underlying30 hi' hz0' hz1' hz2' rfl (by decide) an L.length cn L (by rfl) HT2.out (.slice (some ⟨w2.heap.size, 0, none⟩) 1 1) [X] (by rfl) HSRC.out (by simp; omega) (by simp; omega) ?_
      intro a3 c3 w4 us hus hf4 hm4 hk4
      have HUS := hus
      have HF4 := Lib.hid hf4
      have HM4 := Lib.hid hm4
      have HK4 := Lib.hid hk4
      have hz4 := hm4.size
      simp only [World.size_alloc] at hz4
      have hbL : w.heap.size + 1 + 1 + 1 + 1 ≤ b := by
        rcases Nat.lt_or_ge b (w2.heap.size + 1) with h | h
        · exact (HT5.out (by simpa using h)).2
        · omega
      have e_0 : w4.cell? ⟨w.heap.size + 1 + 1 + 1, 0, none⟩ = some (.slice an L.length cn) := (HM4.out.cell (p := ⟨w.heap.size + 1 + 1 + 1, 0, none⟩) (by show w.heap.size + 1 + 1 + 1 < _; simp; omega) (.inl (by show w.heap.size + 1 + 1 + 1 < b; omega))).trans (D2.out _)
      have e_f : ∀ o, w4.frozen? ⟨w.heap.size + 1 + 1 + 1, o, none⟩ = false := fun o => (HM4.out.frozen (p := ⟨w.heap.size + 1 + 1 + 1, o, none⟩) (by show w.heap.size + 1 + 1 + 1 < _; simp; omega) (.inl (by show w.heap.size + 1 + 1 + 1 < b; omega))).trans (HJ.out.fz o)
      clear hus hf4 hm4 hk4
      refine hK.out _ _ (Or.inr e_0) ?_
      clear hK K'
      try simp only [Act.put, List.getElem_toArray, List.getElem_cons_zero, List.getElem_cons_succ, List.setIfInBounds_toArray, List.set_cons_zero, List.set_cons_succ]
      refine wpAnyG_takeW (i := 8) (v := ?_) rfl (by kernel_rfl) (by kernel_rfl) (by kernel_rfl) (fun _ _ _ h => h) (Or.inl ⟨by rfl, ?_⟩) ?_
      rotate_left
      · intro w' hSw
        go_simp
        try (with_reducible rfl)
      try simp only [Act.put, List.getElem_toArray, List.getElem_cons_zero, List.getElem_cons_succ, List.setIfInBounds_toArray, List.set_cons_zero, List.set_cons_succ]
      refine wpAnyG_one (i := 9) (by kernel_rfl) rfl e_0 (fun K' hK => ?_)
      simp only [List.getElem_toArray, List.getElem_cons_zero, List.getElem_cons_succ]
      go_simp
      refine hK.out _ _ (Or.inl rfl) ?_
      clear hK K'
      try simp only [Act.put, List.getElem_toArray, List.getElem_cons_zero, List.getElem_cons_succ, List.setIfInBounds_toArray, List.set_cons_zero, List.set_cons_succ]
      refine wpAnyG_done (by kernel_rfl) ?_ _
      have hJ5 : NcJ w.heap.size n L.length (w.heap.size + 1 + 1 + 1 + 1) (w.heap.size + 1 + 1 + 1) us a3 c3 ast cst (some ⟨w.heap.size + 1, 0, none⟩) (some ⟨w.heap.size + 1 + 1, 0, none⟩) (w4.setCell ⟨w.heap.size + 1 + 1 + 1, 0, none⟩ (.slice a3 us.length c3)) := by
        have k2 := HBW.out.size
        have q1 : List.replicate n (1 : Int) ≠ [] := by intro h; have := congrArg List.length h; simp at this; omega
        have q2 : List.replicate n (0 : Int) ≠ [] := by intro h; have := congrArg List.length h; simp at this; omega
        have hXe := HX.out
        refine NcJ.addN HJ.out (by omega) (by omega) (by omega) (by rw [← hXe]; rfl) ?_ ?_ ?_ HT4.out hbL HUS.out HF4.out HM4.out HK4.out
        · rw [← hXe]; exact HF1.out.1.alloc _
        · rw [← hXe]; exact HF2.out.1.alloc _
        · intro k hkk
          have hkb : wr.heap.size ≤ k ∧ k < w2.heap.size := by
            rw [← hXe] at hkk
            rcases List.mem_append.1 hkk with h | h
            · simpa using HF1.out.blkB q1 k h
            · simpa using HF2.out.blkB q2 k h
          refine ⟨by omega, by simp; omega, fun h => ?_, fun h => ?_⟩
          · have := (HI.out.rowN.blks k h).2
            omega
          · have := (HI.out.rowS.blks k h).2
            omega
      have HB5 : Hid (Below w.heap.size w (w4.setCell ⟨w.heap.size + 1 + 1 + 1, 0, none⟩ (.slice a3 us.length c3))) := Lib.hid (Below.setCell (((HBL.out.trans (HBW.out.mono (by omega))).alloc (by omega) OB).trans (HM4.out.below (by omega) (by simp; omega))) (by show w.heap.size ≤ w.heap.size + 1 + 1 + 1; omega) _)
      have hul : us.length = L.length + 1 := by rw [HUS.out]; simp
      have HUL := Lib.hid hul
      clear hul
      obtain ⟨w5, hw5⟩ : ∃ w5, w4.setCell ⟨w.heap.size + 1 + 1 + 1, 0, none⟩ (.slice a3 us.length c3) = w5 := ⟨_, rfl⟩
      rw [hw5] at hJ5 HB5 ⊢
      have g_0 := hJ5.c0
      have g_1 := hJ5.c1
      have g_2 := hJ5.c2
      have g_3 := hJ5.c3
      have g_f := hJ5.fz
      have g_l := hJ5.lt
      have HJ5 := Lib.hid hJ5
      clear hJ5 hw5 e_0 e_f d_0 c_0 c_1 c_2 c_3 c_f c_l t3 hbL hz4
      have hsrcS : Src Try.prog 2 31 (.slice (some ⟨w5.heap.size, 0, none⟩) 1 1) [stoZ].length ([stoZ].flatMap stoE) (w5.alloc (.cells #[.string ⟨#[]⟩, .int .i64 0] 58)) :=
        Src.ofBox (enc := stoE) Try.underlying31 (fun _ => rfl) stoOne stoZ _ _ (by simp [stoE, stoZ]) _ rfl
      have HSRCS := Lib.hid hsrcS
      have hJS := HJ5.out.keep ((Below.refl _ _).alloc (Nat.le_refl _) (.cells #[.string ⟨#[]⟩, .int .i64 0] 58))
      obtain ⟨bs, u2, u3, u4, u5⟩ := hJS.rowS.tight
      have HU4 := Lib.hid u4
      have HU5 := Lib.hid u5
      have hLR : (List.replicate L.length stoZ).length = L.length := by simp
      rw [hLR] at u2
      have HU2 := Lib.hid u2
      have HJS := Lib.hid hJS
      clear u2 u4 u5 hJS hsrcS hLR
      simp only [World.size_alloc] at u3
      have hz5 := HB5.out.size
      go_wp2_with (at_builtin; refine wpList_append_freshG rfl (.tmp 23) (.tmp 25) 31 31 rfl bs (bs + 1) 58 i0 (.agg #[.string ⟨#[]⟩, .int .i64 0]) 2 24 Try.underlying31 hi hz0 hz1 hz2 rfl (by decide) ast L.length cst (List.replicate L.length stoZ) rfl HU2.out (.slice (some ⟨w5.heap.size, 0, none⟩) 1 1) [stoZ] rfl HSRCS.out (by simp; omega) (by simp; omega) ?_)
      intro a5 c5 w6 ss hss hf6 hm6 hk6
      have HSS := hss
      have HF6 := Lib.hid hf6
      have HM6 := Lib.hid hm6
      have HK6 := Lib.hid hk6
      have hz6 := hm6.size
      simp only [World.size_alloc] at hz6
      have hbL : w.heap.size + 1 + 1 + 1 + 1 ≤ bs := by
        rcases Nat.lt_or_ge bs (w5.heap.size + 1) with h | h
        · exact (HU5.out (by simpa using h)).2
        · omega
      have e_0 : w6.cell? ⟨w.heap.size + 1 + 1 + 1, 1, none⟩ = some (.slice ast L.length cst) := (HM6.out.cell (p := ⟨w.heap.size + 1 + 1 + 1, 1, none⟩) (by show w.heap.size + 1 + 1 + 1 < _; simp; omega) (.inl (by show w.heap.size + 1 + 1 + 1 < bs; omega))).trans HJS.out.c1
      have e_f : ∀ o, w6.frozen? ⟨w.heap.size + 1 + 1 + 1, o, none⟩ = false := fun o => (HM6.out.frozen (p := ⟨w.heap.size + 1 + 1 + 1, o, none⟩) (by show w.heap.size + 1 + 1 + 1 < _; simp; omega) (.inl (by show w.heap.size + 1 + 1 + 1 < bs; omega))).trans (HJS.out.fz o)
      clear hss hf6 hm6 hk6
      go_wp2_with fail
      go_roundw
      case rel =>
        refine ⟨us, a3, c3, a5, c5, by rw [HUL.out]; omega, by rw [HUL.out]; simp, ?_, ?_⟩
        · have h9 := NcJ.addS HJS.out (by omega) (by omega) (by omega) HU4.out hbL HSS.out HF6.out HM6.out (by simpa using HK6.out)
          rwa [← HUL.out] at h9
        · exact Below.setCell ((HB5.out.alloc (by omega) _).trans (HM6.out.below (by omega) (by simp; omega))) (by show w.heap.size ≤ w.heap.size + 1 + 1 + 1; omega) _
      case measure => simp [intOf]; omega
    · have hkn : L.length = n := by omega
      have HKN := Lib.hid hkn
      clear hkn
      have hk' : n ≤ L.length := by omega
      have hR := HI.out.res
      have z_0 := hR.r0
      have z_1 := hR.r1
      have z_2 := hR.r2
      have z_3 := hR.r3
      have z_f := hR.fz
      have hlw : w.heap.size < wr.heap.size := by omega
      clear hR
      go_wp2_with fail
      refine bodyPost_ret (v := .agg #[.slice an L.length cn, .slice ast L.length cst, .slice (some ⟨w.heap.size + 1, 0, none⟩) 0 0, .slice (some ⟨w.heap.size + 1 + 1, 0, none⟩) 0 0]) (by simp [results, Try.results54, go_sem, z_0, z_1, z_2, z_3, z_f, hlw]) rfl ?_
      have hI := HI.out
      have hmid : Mid w.heap.size (w.heap.size + 1) wr ((((wr.setCell ⟨w.heap.size, 0, none⟩ (.slice an L.length cn)).setCell ⟨w.heap.size, 1, none⟩ (.slice ast L.length cst)).setCell ⟨w.heap.size, 2, none⟩ (.slice (some ⟨w.heap.size + 1, 0, none⟩) 0 0)).setCell ⟨w.heap.size, 3, none⟩ (.slice (some ⟨w.heap.size + 1 + 1, 0, none⟩) 0 0)) := by
        repeat (first | (with_reducible exact Mid.refl _ _ _) | (with_reducible refine Mid.setCell ?_ ?_ ?_ _; rotate_left; (show w.heap.size ≤ w.heap.size; omega); (show w.heap.size < w.heap.size + 1; omega)))
      have hrd := fun w2 (h2 : Mid 0 w.heap.size _ w2) => hI.read (r := w.heap.size + 1) (by omega) ((hmid.mono (Nat.zero_le _) (Nat.le_refl _)).trans (h2.mono (Nat.le_refl _) (Nat.le_succ _)))
      refine ⟨L, an, cn, ast, cst, _, _, by rw [HKN.out], HKN.out, hI.vals, by rw [← HKN.out]; exact hrd, ?_⟩
      exact below_trans_mid HBL.out hmid
end
section
open Go.RowKit
def nwN (n : Int) : List NodeV := if inB n 1 5 = true then (List.range n.toNat).map (fun i => newN i n.toNat) else []
def nwS (n : Int) : List Sto := if inB n 1 5 = true then List.replicate n.toNat stoZ else []
def nwC (n : Int) : Int := if inB n 1 5 = true then 0 else 4
structure NcV (n : Int) (C : CluA) : Prop where
  nodes : C.nodes.map (·.N) = nwN n
  stores : C.stores = nwS n
  wire : C.wire = []
  done : C.done = []
theorem NcV.same {n : Int} {C D : CluA} (h : NcV n C) (k : NcV n D) : CluSame C D :=
  ⟨h.nodes.trans k.nodes.symm, h.stores.trans k.stores.symm, by rw [h.wire, k.wire], h.done.trans k.done.symm⟩
theorem inB_nat {n : Int} (h : inB n 1 5 = true) : (n.toNat : Int) = n ∧ five n.toNat := by
  simp [inB] at h
  refine ⟨by omega, ?_⟩
  unfold five
  omega
theorem newN_sz (i n : Nat) (h : n ≤ 5) : NodeSz (newN i n) 1048576 := by
  refine ⟨?_, ?_, ?_, ?_, ?_⟩ <;> simp [newN] <;> omega
theorem nwN_sz (n : Int) (N : NodeV) (h : N ∈ nwN n) : NodeSz N 1048576 := by
  unfold nwN at h
  split at h
  · rename_i h1
    have h2 := (inB_nat h1).2
    have : n.toNat ≤ 5 := by unfold five at h2; omega
    simp only [List.mem_map, List.mem_range] at h
    obtain ⟨i, _, rfl⟩ := h
    exact newN_sz i _ this
  · simp at h
theorem nwN_len (n : Int) : (nwN n).length ≤ 5 := by
  unfold nwN
  split
  · rename_i h1
    have h2 := (inB_nat h1).2
    unfold five at h2
    simp; omega
  · simp
theorem nwS_len (n : Int) : (nwS n).length ≤ 5 := by
  unfold nwS
  split
  · rename_i h1
    have h2 := (inB_nat h1).2
    unfold five at h2
    simp; omega
  · simp
theorem nwS_mem (n : Int) (s : Sto) (h : s ∈ nwS n) : s = stoZ := by
  unfold nwS at h
  split at h
  · exact (List.mem_replicate.1 h).2
  · simp at h
theorem NcV.sz {n : Int} {C : CluA} (h : NcV n C) : CluSz C 1048576 where
  nl := by have := congrArg List.length h.nodes; have := nwN_len n; simp at *; omega
  nodes := fun r hr => nwN_sz n r.N (by rw [← h.nodes]; exact List.mem_map_of_mem hr)
  sl := by rw [h.stores]; have := nwS_len n; omega
  stores := fun s hs => by rw [h.stores] at hs; rw [nwS_mem n s hs]; simp [stoZ, ByteArray.size]
  wl := by rw [h.wire]; simp
  wire := fun r hr => by rw [h.wire] at hr; simp at hr
  dl := by rw [h.done]; simp
  done := fun s hs => by rw [h.done] at hs; simp at hs
theorem nodesOf {L : List NodeA} {n : Nat} (hl : L.length = n) (hv : ∀ i (h : i < L.length), L[i].N = newN i n) : L.map (·.N) = (List.range n).map (fun i => newN i n) :=
  List.ext_getElem (by simp [hl]) (fun i h1 h2 => by simp at h1; simp [hv i h1])
def NcSR (n : Int) (w : World) (e : Ending) (w' : World) : Prop :=
  ∃ C : CluA, e = .returned (.tuple #[.agg #[.slice C.an C.nodes.length C.cn, .slice C.ast C.stores.length C.cst, .slice C.aw C.wire.length C.cw, .slice C.ad C.done.length C.cd], .int .i64 (nwC n)]) ∧ NcV n C ∧ CluOK w' C ∧ Below w.heap.size w w'
abbrev cluI (ns : List NodeA) (an : Option Addr) (cn : Nat) (ss : List Sto) (ast : Option Addr) (cst : Nat) : CluA := ⟨ns, an, cn, ss, ast, cst, [], none, 0, [], none, 0⟩
def NcIR (n : Int) (w : World) (e : Ending) (w' : World) : Prop :=
  ∃ ns an cn ss ast cst, e = .returned (.tuple #[.agg #[.slice an (List.length ns) cn, .slice ast (List.length ss) cst, .slice none 0 0, .slice none 0 0], .int .i64 (nwC n)]) ∧ NcV n (cluI ns an cn ss ast cst) ∧ CluN w.heap.size w'.heap.size w' an ns ast ss ∧ (∀ r ∈ ns, r.N.log.length ≤ r.cl) ∧ Below w.heap.size w w'
theorem CluN.ok {lo hi : Nat} {w : World} {ns : List NodeA} {an : Option Addr} {cn : Nat} {ss : List Sto} {ast : Option Addr} {cst : Nat} (h : CluN lo hi w an ns ast ss) (hc : ∀ r ∈ ns, r.N.log.length ≤ r.cl) : CluOK w (cluI ns an cn ss ast cst) := by
  obtain ⟨n1, n2, s1, s2, _, _, _, _, _, _, _, a, b⟩ := h
  refine ⟨?_, ?_, ⟨.inl rfl, fun r hr => by simp at hr⟩, .inl rfl⟩
  · rcases a with rfl | a
    · exact ⟨.inl rfl, fun r hr => by simp at hr⟩
    · exact NodeP.s a hc
  · rcases b with rfl | b
    · exact .inl rfl
    · exact StoP.s b
theorem NcO.cluN {n lo sb : Nat} {L : List NodeA} {an : Option Addr} {cn B : Nat} {w : World} (h : NcO n lo sb L an cn w) (hn : 0 < n) (hB : B ≤ sb) (hs : sb < lo) : CluN B w.heap.size w an L (some ⟨sb, 0, none⟩) (List.replicate n stoZ) := by
  have hlen := h.len
  obtain ⟨g, rfl, hg1, hg2, hg3, ho⟩ := h.row.block (by omega)
  have hsl : Sl nodeE 13 w (some ⟨g, 0, none⟩) L := h.row.sl (fun _ => rfl)
  have hsb := h.sto.lt
  refine ⟨lo, w.heap.size, sb, sb + 1, by omega, by omega, Nat.le_refl _, hB, by omega, by omega, .inr (by omega), .inr ⟨⟨g, rfl, hg2, ⟨hg1, hg3, hsl, fun o => ho.frozenAt o, fun i hi => h.gs.ow _ (List.getElem_mem hi), ⟨fun i hi => ?_, fun i j hi hj hij b hb => ?_⟩⟩⟩, fun r hr b hb => h.gs.bd r hr b hb⟩, .inr ⟨⟨sb, rfl, Nat.lt_succ_self _, h.sto⟩, fun r hr b hb => by simp [storeBlk] at hb⟩⟩
  · have hi' : i < L.length := by simpa using hi
    rw [List.getElem_map]
    exact ⟨fun hb => h.sep _ (List.getElem_mem hi') g hb (by simp [blkOf]), h.gs.nd _ (List.getElem_mem hi')⟩
  · have hi' : i < L.length := by simpa using hi
    have hj' : j < L.length := by simpa using hj
    rw [List.getElem_map] at hb ⊢
    have hp := List.pairwise_iff_getElem.1 h.gs.ap
    rcases Nat.lt_or_gt_of_ne hij with hlt | hlt
    · exact hp i j hi' hj' hlt b hb
    · exact fun hbj => hp j i hj' hi' hlt b hbj hb
set_option maxRecDepth 100000 in
set_option maxHeartbeats 4000000 in
theorem specNC_c (n : Int) (w : World) : Calls Try.prog 23 #[.int .i64 n] w (NcSR n w) := by
  obtain ⟨v, h⟩ : ∃ v, inB n 1 5 = v := ⟨_, rfl⟩
  have H := Lib.hid h
  clear h
  cases v
  · have hN : nwN n = [] := by unfold nwN; rw [H.out]; rfl
    have hS : nwS n = [] := by unfold nwS; rw [H.out]; rfl
    have hC : nwC n = 4 := by unfold nwC; rw [H.out]; rfl
    have HN := Lib.hid hN
    have HS := Lib.hid hS
    have HC := Lib.hid hC
    clear hN hS hC
    go_enter Try.func23, Try.ntmps23
    go_wp2_with (go_at_call 30; refine (l08Nodes_c n _).mono ?_; rw [H.out]; rintro e w' ⟨rfl, rfl⟩)
    refine bodyPost_ret (v := .tuple #[.agg #[.slice none 0 0, .slice none 0 0, .slice none 0 0, .slice none 0 0], .int .i64 4]) (by simp [results, Try.results23, go_sem]) rfl ?_
    refine ⟨cluI [] none 0 [] none 0, by rw [HC.out]; rfl, ⟨by rw [HN.out]; rfl, HS.out.symm, rfl, rfl⟩, ⟨⟨.inl rfl, fun r hr => by simp at hr⟩, .inl rfl, ⟨.inl rfl, fun r hr => by simp at hr⟩, .inl rfl⟩, ?_⟩
    exact (by repeat (first | exact Below.refl _ _ | (refine Below.alloc ?_ (by (try simp) <;> (try omega)) _) | (refine Below.setCell ?_ (by (try simp) <;> (try omega)) _) | (refine Below.drew ?_) | (refine Below.trans ?_ (Below.mono (by assumption) (by (try simp) <;> (try omega))))))
  · obtain ⟨hm, h5⟩ := inB_nat H.out
    have hN : nwN n = (List.range n.toNat).map (fun i => newN i n.toNat) := by unfold nwN; rw [H.out]; rfl
    have hS : nwS n = List.replicate n.toNat stoZ := by unfold nwS; rw [H.out]; rfl
    have hC : nwC n = 0 := by unfold nwC; rw [H.out]; rfl
    have h0 : 0 < n.toNat := by unfold five at h5; omega
    obtain ⟨m, hmm⟩ : ∃ m, n.toNat = m := ⟨_, rfl⟩
    rw [hmm] at hm h5 hN hS h0
    have H' : Hid (inB (m : Int) 1 5 = true) := by rw [hm]; exact H
    have HN := Lib.hid hN
    have HS := Lib.hid hS
    have HC := Lib.hid hC
    have H5 := Lib.hid h5
    clear hN hS hC h5 hmm H
    subst hm
    go_enter Try.func23, Try.ntmps23
    go_wp2_with (go_at_call 30; refine (l08Nodes_c _ _).mono ?_; rw [H'.out]; rintro e w' ⟨rfl, rfl⟩)
    refine (l09New_c m H5.out _).mono ?_
    rintro e w1 ⟨L, an, cn, ast, cst, aw, ad, rfl, hl, hv, hn1, hb1⟩
    have HL := Lib.hid hl
    have HV := Lib.hid hv
    have HN1 := Lib.hid hn1
    clear hl hv hn1
    have hz1 := hb1.size
    simp only [World.size_alloc] at hz1
    have q_0 : w1.cell? ⟨w.heap.size, 0, none⟩ = some (.slice none 0 0) := (hb1.cell (p := ⟨w.heap.size, 0, none⟩) (by show w.heap.size < _; simp)).trans (by simp [go_sem])
    have q_1 : w1.cell? ⟨w.heap.size, 1, none⟩ = some (.slice none 0 0) := (hb1.cell (p := ⟨w.heap.size, 1, none⟩) (by show w.heap.size < _; simp)).trans (by simp [go_sem])
    have q_2 : w1.cell? ⟨w.heap.size, 2, none⟩ = some (.slice none 0 0) := (hb1.cell (p := ⟨w.heap.size, 2, none⟩) (by show w.heap.size < _; simp)).trans (by simp [go_sem])
    have q_3 : w1.cell? ⟨w.heap.size, 3, none⟩ = some (.slice none 0 0) := (hb1.cell (p := ⟨w.heap.size, 3, none⟩) (by show w.heap.size < _; simp)).trans (by simp [go_sem])
    have qf : ∀ o, w1.frozen? ⟨w.heap.size, o, none⟩ = false := fun o => (hb1.frozen (p := ⟨w.heap.size, o, none⟩) (by show w.heap.size < _; simp)).trans (by simp [go_sem])
    have hl : w.heap.size < w1.heap.size := by omega
    have HB1 : Hid (Below w.heap.size w w1) := ((Below.refl _ _).alloc (Nat.le_refl _) _).trans (hb1.mono (by simp))
    clear hb1
    go_wp2_with fail
    refine bodyPost_ret (v := .tuple #[.agg #[.slice an L.length cn, .slice ast m cst, .slice aw 0 0, .slice ad 0 0], .int .i64 0]) (by simp [results, Try.results23, go_sem, q_0, q_1, q_2, q_3, qf, hl]) rfl ?_
    have hmid : Mid w.heap.size (w.heap.size + 1) w1 ((((w1.setCell ⟨w.heap.size, 0, none⟩ (.slice an L.length cn)).setCell ⟨w.heap.size, 1, none⟩ (.slice ast m cst)).setCell ⟨w.heap.size, 2, none⟩ (.slice aw 0 0)).setCell ⟨w.heap.size, 3, none⟩ (.slice ad 0 0)) := by
      repeat (first | (with_reducible exact Mid.refl _ _ _) | (with_reducible refine Mid.setCell ?_ ?_ ?_ _; rotate_left; (show w.heap.size ≤ w.heap.size; omega); (show w.heap.size < w.heap.size + 1; omega)))
    have hrd := HN1.out _ (hmid.mono (Nat.zero_le _) (by simp))
    refine ⟨⟨L, an, cn, List.replicate m stoZ, ast, cst, [], aw, 0, [], ad, 0⟩, ?_, ⟨by rw [HN.out]; exact nodesOf HL.out HV.out, HS.out.symm, rfl, rfl⟩, ⟨hrd.1, hrd.2, ⟨.inl rfl, fun r hr => by simp at hr⟩, .inl rfl⟩, below_trans_mid HB1.out hmid⟩
    rw [HC.out, List.length_replicate]
    rfl
set_option maxRecDepth 100000 in
set_option maxHeartbeats 4000000 in
theorem implNC_c (n : Int) (w : World) : Calls Try.prog 24 #[.int .i64 n] w (NcIR n w) := by
  obtain ⟨v, h⟩ : ∃ v, inB n 1 5 = v := ⟨_, rfl⟩
  have H := Lib.hid h
  clear h
  cases v
  · have hN : nwN n = [] := by unfold nwN; rw [H.out]; rfl
    have hS : nwS n = [] := by unfold nwS; rw [H.out]; rfl
    have hC : nwC n = 4 := by unfold nwC; rw [H.out]; rfl
    have HN := Lib.hid hN
    have HS := Lib.hid hS
    have HC := Lib.hid hC
    clear hN hS hC
    go_enter Try.func24, Try.ntmps24
    go_wp2_with (go_at_call 55; refine (within_c n _ _ _).mono ?_; rw [H.out]; rintro e w' ⟨rfl, rfl⟩)
    refine bodyPost_ret (v := .tuple #[.agg #[.slice none 0 0, .slice none 0 0, .slice none 0 0, .slice none 0 0], .int .i64 4]) (by simp [results, Try.results24, go_sem]) rfl ?_
    refine ⟨[], none, 0, [], none, 0, by rw [HC.out]; rfl, ⟨by rw [HN.out]; rfl, HS.out.symm, rfl, rfl⟩, ⟨w.heap.size, w.heap.size, w.heap.size, w.heap.size, Nat.le_refl _, Nat.le_refl _, ?_, Nat.le_refl _, Nat.le_refl _, ?_, .inl (Nat.le_refl _), .inl rfl, .inl rfl⟩, fun r hr => by simp at hr, ?_⟩
    · simp [World.setCell]
    · simp [World.setCell]
    · exact (by repeat (first | exact Below.refl _ _ | (refine Below.alloc ?_ (by (try simp) <;> (try omega)) _) | (refine Below.setCell ?_ (by (try simp) <;> (try omega)) _) | (refine Below.drew ?_) | (refine Below.trans ?_ (Below.mono (by assumption) (by (try simp) <;> (try omega))))))
  · obtain ⟨hm, h5⟩ := inB_nat H.out
    have hN : nwN n = (List.range n.toNat).map (fun i => newN i n.toNat) := by unfold nwN; rw [H.out]; rfl
    have hS : nwS n = List.replicate n.toNat stoZ := by unfold nwS; rw [H.out]; rfl
    have hC : nwC n = 0 := by unfold nwC; rw [H.out]; rfl
    have h0 : 0 < n.toNat := by unfold five at h5; omega
    obtain ⟨m, hmm⟩ : ∃ m, n.toNat = m := ⟨_, rfl⟩
    rw [hmm] at hm h5 hN hS h0
    have H' : Hid (inB (m : Int) 1 5 = true) := by rw [hm]; exact H
    have HN := Lib.hid hN
    have HS := Lib.hid hS
    have HC := Lib.hid hC
    have H5 := Lib.hid h5
    clear hN hS hC h5 hmm H
    subst hm
    go_enter Try.func24, Try.ntmps24
    go_wp2_with (go_at_call 55; refine (within_c _ _ _ _).mono ?_; rw [H'.out]; rintro e w' ⟨rfl, rfl⟩)
    refine (newCluster_c m H5.out _).mono ?_
    rintro e w1 ⟨L, an, cn, sb, lo, rfl, ho, hb, hs, hb1⟩
    have HO := Lib.hid ho
    clear ho
    have hz1 := hb1.size
    simp only [World.size_alloc] at hz1 hb
    have q_0 : w1.cell? ⟨w.heap.size, 0, none⟩ = some (.slice none 0 0) := (hb1.cell (p := ⟨w.heap.size, 0, none⟩) (by show w.heap.size < _; simp)).trans (by simp [go_sem])
    have q_1 : w1.cell? ⟨w.heap.size, 1, none⟩ = some (.slice none 0 0) := (hb1.cell (p := ⟨w.heap.size, 1, none⟩) (by show w.heap.size < _; simp)).trans (by simp [go_sem])
    have q_2 : w1.cell? ⟨w.heap.size, 2, none⟩ = some (.slice none 0 0) := (hb1.cell (p := ⟨w.heap.size, 2, none⟩) (by show w.heap.size < _; simp)).trans (by simp [go_sem])
    have q_3 : w1.cell? ⟨w.heap.size, 3, none⟩ = some (.slice none 0 0) := (hb1.cell (p := ⟨w.heap.size, 3, none⟩) (by show w.heap.size < _; simp)).trans (by simp [go_sem])
    have qf : ∀ o, w1.frozen? ⟨w.heap.size, o, none⟩ = false := fun o => (hb1.frozen (p := ⟨w.heap.size, o, none⟩) (by show w.heap.size < _; simp)).trans (by simp [go_sem])
    have hl : w.heap.size < w1.heap.size := by omega
    have HB1 : Hid (Below w.heap.size w w1) := ((Below.refl _ _).alloc (Nat.le_refl _) _).trans (hb1.mono (by simp))
    clear hb1
    go_wp2_with fail
    refine bodyPost_ret (v := .tuple #[.agg #[.slice an L.length cn, .slice (some ⟨sb, 0, none⟩) m m, .slice none 0 0, .slice none 0 0], .int .i64 0]) (by simp [results, Try.results24, go_sem, q_0, q_1, q_2, q_3, qf, hl]) rfl ?_
    have hmid : Mid w.heap.size (w.heap.size + 1) w1 ((((w1.setCell ⟨w.heap.size, 0, none⟩ (.slice an L.length cn)).setCell ⟨w.heap.size, 1, none⟩ (.slice (some ⟨sb, 0, none⟩) m m)).setCell ⟨w.heap.size, 2, none⟩ (.slice none 0 0)).setCell ⟨w.heap.size, 3, none⟩ (.slice none 0 0)) := by
      repeat (first | (with_reducible exact Mid.refl _ _ _) | (with_reducible refine Mid.setCell ?_ ?_ ?_ _; rotate_left; (show w.heap.size ≤ w.heap.size; omega); (show w.heap.size < w.heap.size + 1; omega)))
    have hcl := (HO.out.cluN (B := w.heap.size + 1) h0 hb hs).mid hmid (.inr (Nat.le_refl _))
    have hlen := HO.out.len
    have hmz := hmid.size
    refine ⟨L, an, cn, List.replicate m stoZ, some ⟨sb, 0, none⟩, m, by rw [HC.out, List.length_replicate], ⟨by rw [HN.out]; exact nodesOf hlen HO.out.vals, HS.out.symm, rfl, rfl⟩, ?_, fun r hr => HO.out.gs.sta r hr, below_trans_mid HB1.out hmid⟩
    obtain ⟨n1, n2, s1, s2, h1, h2, h3, h4, h5, h6, h7, a, b⟩ := hcl
    exact ⟨n1, n2, s1, s2, by omega, h2, by omega, by omega, h5, by omega, h7, a, b⟩
end
end Go.Proofs.Ytckaccadgbcohaa
