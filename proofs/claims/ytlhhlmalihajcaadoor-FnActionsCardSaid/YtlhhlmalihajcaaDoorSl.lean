/- Slices as lists: what the walks are told of a slice. Plain lemmas, no program. -/
import Derived.WalkKit
import Derived.WalkSpells
import Derived.Below
import Derived.Deep.Quiet
namespace Go.Proofs.YtlhhlmalihajcaaDoor
set_option linter.unusedVariables false
set_option linter.unusedSimpArgs false
open Go.RowKit
/-- A slice's address, and the list that its elements read as: each element is laid out by enc in sz cells. -/
def Sl {α : Type} (enc : α → List Value) (sz : Nat) (w : World) (a : Option Addr) (xs : List α) : Prop :=
  xs = [] ∨ ∃ b off, a = some ⟨b, off, none⟩ ∧ b < w.heap.size ∧ ∀ i (h : i < xs.length) j, j < sz → w.cell? ⟨b, off + i * sz + j, none⟩ = (enc xs[i])[j]?
def intE (n : Int) : List Value := [.int .i64 n]
def strE (s : ByteArray) : List Value := [.string s]
def byteE (b : UInt8) : List Value := [.int .u8 b.toNat]
def entE (e : Int × ByteArray) : List Value := [.int .i64 e.1, .string e.2]
section
variable {α : Type} {enc : α → List Value} {sz : Nat} {w w' : World} {a : Option Addr} {xs : List α}
theorem Sl.nil : Sl enc sz w a [] := .inl rfl
theorem Sl.at (h : Sl enc sz w a xs) {i : Nat} (hi : i < xs.length) : ∃ b off, a = some ⟨b, off, none⟩ ∧ b < w.heap.size ∧ ∀ i (h : i < xs.length) j, j < sz → w.cell? ⟨b, off + i * sz + j, none⟩ = (enc xs[i])[j]? := by
  rcases h with rfl | h
  · simp at hi
  · exact h
theorem Sl.below {B : Nat} (h : Sl enc sz w a xs) (hb : Below B w w') (hB : ∀ b off, a = some ⟨b, off, none⟩ → b < B) : Sl enc sz w' a xs := by
  rcases h with h | ⟨b, off, rfl, hlt, hc⟩
  · exact .inl h
  · exact .inr ⟨b, off, rfl, Nat.lt_of_lt_of_le hlt hb.size, fun i hi j hj => by rw [hb.cell (p := ⟨b, _, none⟩) (hB b off rfl)]; exact hc i hi j hj⟩
/-- .. under a call that changes nothing that was there. -/
theorem Sl.keep (h : Sl enc sz w a xs) (hb : Below w.heap.size w w') : Sl enc sz w' a xs := by
  rcases h with h | ⟨b, off, rfl, hlt, hc⟩
  · exact .inl h
  · exact .inr ⟨b, off, rfl, Nat.lt_of_lt_of_le hlt hb.size, fun i hi j hj => by rw [hb.cell (p := ⟨b, _, none⟩) hlt]; exact hc i hi j hj⟩
theorem Sl.grown {row : Option Nat} (h : Sl enc sz w a xs) (hg : w.grownBy w' row) (hne : ∀ b off, a = some ⟨b, off, none⟩ → some b ≠ row) : Sl enc sz w' a xs := by
  rcases h with h | ⟨b, off, rfl, hlt, hc⟩
  · exact .inl h
  · refine .inr ⟨b, off, rfl, Nat.lt_of_lt_of_le hlt hg.size, fun i hi j hj => ?_⟩
    rw [World.cell?_of_block (a := ⟨b, _, none⟩) (hg.block b hlt (hne b off rfl))]
    exact hc i hi j hj
theorem Sl.alloc (h : Sl enc sz w a xs) (o : Obj) : Sl enc sz (w.alloc o) a xs := h.keep ((Below.refl _ _).alloc (Nat.le_refl _) _)
theorem Sl.drew (h : Sl enc sz w a xs) : Sl enc sz w.drew a xs := h.keep ((Below.refl _ _).drew)
theorem below_drewN (w : World) (n B : Nat) : Below B w (w.drewN n) := ⟨rfl, rfl, rfl, Nat.le_refl _, fun _ _ => rfl⟩
theorem Sl.drewN (h : Sl enc sz w a xs) (n : Nat) : Sl enc sz (w.drewN n) a xs := h.keep (below_drewN w n _)
theorem flat_get (enc : α → List Value) (sz : Nat) (hs : ∀ x, (enc x).length = sz) : ∀ (xs : List α) (i : Nat) (h : i < xs.length) (j : Nat), j < sz → (xs.flatMap enc)[i * sz + j]? = (enc xs[i])[j]?
  | [], i, h, _, _ => by simp at h
  | x :: xs, 0, _, j, hj => by
    simp only [List.flatMap_cons, Nat.zero_mul, Nat.zero_add, List.getElem_cons_zero]
    rw [List.getElem?_append_left (by rw [hs]; exact hj)]
  | x :: xs, i + 1, h, j, hj => by
    simp only [List.flatMap_cons, List.getElem_cons_succ]
    rw [List.getElem?_append_right (by rw [hs, Nat.add_mul]; omega), hs, show (i + 1) * sz + j - sz = i * sz + j by rw [Nat.add_mul]; omega]
    exact flat_get enc sz hs xs i (by simpa using h) j hj
theorem flat_length (enc : α → List Value) (sz : Nat) (hs : ∀ x, (enc x).length = sz) (xs : List α) : (xs.flatMap enc).length = xs.length * sz := by
  induction xs with
  | nil => simp
  | cons x xs ih => simp [List.flatMap_cons, ih, hs, Nat.add_mul, Nat.add_comm]
/-- What the call owns reads as its list. -/
theorem Sl.of_own {base : Nat} {e : TypeId} {n cap : Nat} (hs : ∀ x, (enc x).length = sz) (h : w.ownsRow base e sz (.slice a n cap) xs.length (xs.flatMap enc)) : Sl enc sz w a xs := by
  by_cases hx : xs = []
  · exact .inl hx
  rcases h.2 with ⟨hv, hn⟩ | ⟨g, cap', cur, hv, hb, hg, hle, hm, hsz, ht⟩
  · exact .inl (List.eq_nil_of_length_eq_zero hn)
  · simp only [Value.slice.injEq] at hv
    obtain ⟨rfl, rfl, rfl⟩ := hv
    refine .inr ⟨g, 0, rfl, (Array.getElem?_eq_some_iff.1 hg).1, fun i hi j hj => ?_⟩
    have hown := World.ownsRow.cells h (g := g) rfl
    have hf := flat_get enc sz hs xs i hi j hj
    have hlt : j < (enc xs[i]).length := by rw [hs]; exact hj
    rw [List.getElem?_eq_getElem hlt] at hf ⊢
    have := hown _ _ hf
    rw [Nat.zero_add]
    have hadd : (⟨g, 0, none⟩ : Addr).add (i * sz + j) = ⟨g, i * sz + j, none⟩ := by unfold Addr.add; split <;> simp_all
    rwa [hadd] at this
/-- What a make of n elements holds: n zeros. -/
theorem madeCells_flat (enc : α → List Value) (sz : Nat) (zero : α) (z : Array Value) (hz : z.toList = enc zero) (hs : ∀ x, (enc x).length = sz) (n : Nat) :
    (madeCells z (n * sz)).toList = (List.replicate n zero).flatMap enc := by
  have hzs : z.size = sz := by rw [← Array.length_toList, hz, hs]
  apply List.ext_getElem?
  intro j
  by_cases hj : j < n * sz
  · have hsz : 0 < sz := by
      rcases Nat.eq_zero_or_pos sz with h | h
      · rw [h] at hj; simp at hj
      · exact h
    have hq : j / sz < n := Nat.div_lt_of_lt_mul (by rw [Nat.mul_comm]; exact hj)
    have hr : j % sz < sz := Nat.mod_lt _ hsz
    have hj' : j = j / sz * sz + j % sz := by rw [Nat.mul_comm]; exact (Nat.div_add_mod j sz).symm
    have h1 := flat_get enc sz hs (List.replicate n zero) (j / sz) (by simpa using hq) (j % sz) hr
    rw [← hj'] at h1
    rw [h1]
    simp only [List.getElem_replicate]
    rw [← hz]
    simp only [madeCells, Array.toList_map, Array.toList_range, List.getElem?_map, List.getElem?_range hj, Option.map_some, hzs]
    have hr' : j % sz < z.size := by omega
    rw [getElem!_pos z (j % sz) hr']
    simp [hr']
  · rw [List.getElem?_eq_none (by simp [size_madeCells]; omega), List.getElem?_eq_none (by rw [flat_length enc sz hs]; simp; omega)]
theorem flat_set1 (enc : α → List Value) (hs : ∀ x, (enc x).length = 1) (ys : List α) (k : Nat) (hk : k < ys.length) (x : α) (u : Value) (hx : enc x = [u]) : (ys.flatMap enc).set k u = (ys.set k x).flatMap enc := by
  induction ys generalizing k with
  | nil => simp at hk
  | cons y ys ih =>
    obtain ⟨v, hv⟩ := List.length_eq_one_iff.1 (hs y)
    cases k with
    | zero => simp [List.flatMap_cons, hv, hx]
    | succ k => simp [List.flatMap_cons, hv, ih k (by simpa using hk)]
theorem flat_set2 (enc : α → List Value) (hs : ∀ x, (enc x).length = 2) (ys : List α) (k : Nat) (hk : k < ys.length) (x : α) (u0 u1 : Value) (hx : enc x = [u0, u1]) : ((ys.flatMap enc).set (k * 2) u0).set (k * 2 + 1) u1 = (ys.set k x).flatMap enc := by
  induction ys generalizing k with
  | nil => simp at hk
  | cons y ys ih =>
    obtain ⟨v0, v1, hv⟩ : ∃ v0 v1, enc y = [v0, v1] := by
      match h : enc y, hs y with
      | [a, b], _ => exact ⟨a, b, rfl⟩
    cases k with
    | zero => simp [List.flatMap_cons, hv, hx]
    | succ k =>
      rw [show (k + 1) * 2 = k * 2 + 1 + 1 by omega]
      simp [List.flatMap_cons, hv]
      exact ih k (by simpa using hk)
theorem take_set_next (xs : List α) (zero : α) (k : Nat) (hk : k < xs.length) : (xs.take k ++ List.replicate (xs.length - k) zero).set k xs[k] = xs.take (k + 1) ++ List.replicate (xs.length - (k + 1)) zero := by
  rw [List.set_append, if_neg (by simp; omega), List.take_succ_eq_append_getElem hk, List.append_assoc]
  congr 1
  have : xs.length - k = (xs.length - (k + 1)) + 1 := by omega
  rw [this]
  simp [List.replicate_succ, Nat.min_eq_left (Nat.le_of_lt hk)]
theorem take_set_length (xs : List α) (zero : α) (k : Nat) (hk : k ≤ xs.length) : (xs.take k ++ List.replicate (xs.length - k) zero).length = xs.length := by simp; omega
theorem take_set_done (xs : List α) (zero : α) : xs.take xs.length ++ List.replicate (xs.length - xs.length) zero = xs := by simp
/-- A fresh slice: a call's result in memory of its own. -/
def Fresh (enc : α → List Value) (e : TypeId) (sz B : Nat) (v : Value) (xs : List α) (w : World) : Prop :=
  ∃ a cap, v = .slice a xs.length cap ∧ xs.length ≤ cap ∧ w.ownsRow B e sz (.slice a xs.length cap) xs.length (xs.flatMap enc)
theorem own_form {base : Nat} {e : TypeId} {sz : Nat} {v : Value} {n : Nat} {cs : List Value} {w : World} (h : w.ownsRow base e sz v n cs) : ∃ a cap, v = .slice a n cap ∧ n ≤ cap ∧ cap ≤ 9223372036854775807 := by
  rcases h.2 with ⟨rfl, rfl⟩ | ⟨g, cap, cur, rfl, _, _, h1, h2, _⟩
  · exact ⟨none, 0, rfl, Nat.le_refl _, by omega⟩
  · exact ⟨_, cap, rfl, h1, by unfold maxLen at h2; omega⟩
/-- Behind an append: a fresh slice again. -/
theorem Fresh.of_own {e : TypeId} {B : Nat} {v : Value} {n : Nat} {cs : List Value} {xs : List α} (h : w.ownsRow B e sz v n cs) (hn : n = xs.length) (hc : cs = xs.flatMap enc) : Fresh enc e sz B v xs w := by
  subst hn hc
  obtain ⟨a, cap, rfl, h1, _⟩ := own_form h
  exact ⟨a, cap, rfl, h1, h⟩
theorem Fresh.sl {e : TypeId} {B : Nat} {cap : Nat} (hs : ∀ x, (enc x).length = sz) (h : Fresh enc e sz B (.slice a xs.length cap) xs w) : Sl enc sz w a xs := by
  obtain ⟨a', cap', hv, h1, h2⟩ := h
  cases hv
  exact Sl.of_own (n := xs.length) hs h2
/-- A fresh slice is as it was, behind a call that changes only another block. -/
theorem Fresh.kept {e : TypeId} {B : Nat} {v : Value} {row : Option Nat} (h : Fresh enc e sz B v xs w) (hg : w.grownBy w' row) (hne : v.ownBlock = none ∨ v.ownBlock ≠ row) : Fresh enc e sz B v xs w' := by
  obtain ⟨a', cap', rfl, h1, h2⟩ := h
  exact ⟨a', cap', rfl, h1, h2.kept hg hne⟩
theorem grownBy_of_below {w w' : World} (h : Below w.heap.size w w') : w.grownBy w' none := ⟨h.os, h.tape, h.output, h.size, fun k hk _ => h.block k hk⟩
theorem Fresh.below {e : TypeId} {B : Nat} {v : Value} (h : Fresh enc e sz B v xs w) (hb : Below w.heap.size w w') : Fresh enc e sz B v xs w' :=
  h.kept (grownBy_of_below hb) (by cases hv : v.ownBlock <;> simp)
theorem Fresh.mono {e : TypeId} {B B' : Nat} {v : Value} (h : Fresh enc e sz B v xs w) (hB : B' ≤ B) : Fresh enc e sz B' v xs w := by
  obtain ⟨a', cap', rfl, h1, h2, h3⟩ := h
  refine ⟨a', cap', rfl, h1, h2, ?_⟩
  rcases h3 with h3 | ⟨g, cap, cur, hv, hg, r⟩
  · exact .inl h3
  · exact .inr ⟨g, cap, cur, hv, Nat.le_trans hB hg, r⟩
theorem Fresh.setCell {e : TypeId} {B : Nat} {v : Value} (h : Fresh enc e sz B v xs w) {p : Addr} (hp : p.block < B) (u : Value) : Fresh enc e sz B v xs (w.setCell p u) := by
  obtain ⟨a', cap', rfl, h1, h2⟩ := h
  exact ⟨a', cap', rfl, h1, ownsRow_setCell_below h2 hp u⟩
theorem Fresh.alloc {e : TypeId} {B : Nat} {v : Value} (h : Fresh enc e sz B v xs w) (o : Obj) : Fresh enc e sz B v xs (w.alloc o) := h.below ((Below.refl _ _).alloc (Nat.le_refl _) _)
theorem Fresh.lt {e : TypeId} {B : Nat} {v : Value} (h : Fresh enc e sz B v xs w) {k : Nat} (hk : v.ownBlock = some k) : B ≤ k ∧ k < w.heap.size := by
  obtain ⟨a', cap', rfl, h1, h2⟩ := h
  exact h2.lt k hk
theorem Sl.setCell {p : Addr} (h : Sl enc sz w a xs) (hp : ∀ b off, a = some ⟨b, off, none⟩ → b ≠ p.block) (u : Value) : Sl enc sz (w.setCell p u) a xs := by
  rcases h with h | ⟨b, off, rfl, hlt, hc⟩
  · exact .inl h
  · exact .inr ⟨b, off, rfl, by simpa using hlt, fun i hi j hj => by rw [World.cell?_setCell_other _ _ _ _ (fun e => hp b off rfl (by rw [e]))]; exact hc i hi j hj⟩
/-- A fresh slice whose block lies from lo on and below hi. -/
def FreshIn (enc : α → List Value) (e : TypeId) (sz lo hi : Nat) (v : Value) (xs : List α) (w : World) : Prop := Fresh enc e sz lo v xs w ∧ ∀ k, v.ownBlock = some k → k < hi
theorem Fresh.here {e : TypeId} {B : Nat} {v : Value} (h : Fresh enc e sz B v xs w) : FreshIn enc e sz B w.heap.size v xs w := ⟨h, fun _ hk => (h.lt hk).2⟩
theorem FreshIn.below {e : TypeId} {lo hi : Nat} {v : Value} (h : FreshIn enc e sz lo hi v xs w) (hb : Below w.heap.size w w') : FreshIn enc e sz lo hi v xs w' := ⟨h.1.below hb, h.2⟩
theorem FreshIn.setCell {e : TypeId} {lo hi : Nat} {v : Value} (h : FreshIn enc e sz lo hi v xs w) {p : Addr} (hp : p.block < lo) (u : Value) : FreshIn enc e sz lo hi v xs (w.setCell p u) := ⟨h.1.setCell hp u, h.2⟩
theorem FreshIn.mono {e : TypeId} {lo hi lo' hi' : Nat} {v : Value} (h : FreshIn enc e sz lo hi v xs w) (h1 : lo' ≤ lo) (h2 : hi ≤ hi') : FreshIn enc e sz lo' hi' v xs w := ⟨h.1.mono h1, fun k hk => Nat.lt_of_lt_of_le (h.2 k hk) h2⟩
theorem FreshIn.sl {e : TypeId} {lo hi : Nat} {cap : Nat} (hs : ∀ x, (enc x).length = sz) (h : FreshIn enc e sz lo hi (.slice a xs.length cap) xs w) : Sl enc sz w a xs := h.1.sl hs
/-- .. as it was, behind a call that changes one block alone, which is not this slice's. -/
theorem FreshIn.grown {e : TypeId} {lo hi : Nat} {v : Value} {row : Option Nat} (h : FreshIn enc e sz lo hi v xs w) (hg : w.grownBy w' row) (hr : ∀ k, row = some k → k < lo ∨ hi ≤ k) : FreshIn enc e sz lo hi v xs w' := by
  refine ⟨h.1.kept hg ?_, h.2⟩
  cases hv : v.ownBlock with
  | none => exact .inl rfl
  | some k =>
    right
    intro he
    have h1 := h.2 k hv
    have h2 := (h.1.lt hv).1
    rcases hr k he.symm with h3 | h3 <;> omega
end
end Go.Proofs.YtlhhlmalihajcaaDoor
