/- Contracts of the functions that the claim reaches. No conditions but sizes. -/
import Derived.Test.YtjmpgeffkdjpdaaPScz0
import Derived.WalkKit
import Derived.WalkSpells
import Derived.Below
import Derived.Deep.Quiet
import Derived.Deep.AppendSrc
import Derived.Deep.Upon
import Derived.Test.YtjmpgeffkdjpdaaRows
import Derived.WalkLawsBesides
import Derived.LoopTactic
import Derived.Deep.LoopGhost
import Derived.Deep.QuietTactic
import Derived.BigQuiet
import Derived.Lib.Hide
import Derived.RegionTactic
import Derived.BigRegion
import Derived.Laws.BitsAllLaws
import Derived.Laws.Bits64
import Derived.OwnWalk
import Derived.Laws.IdiomStrings
import Derived.Laws.ShiftsVar
import Derived.Lib.Builder
import Derived.Lib.AppendStr
import Derived.Lib.UnsafeStr
import Derived.Lib.MakeNoZero
import Derived.Laws.Externs
import Derived.Shelf.Strings.Builder1
import Derived.Deep.RegionHeld3
import Derived.Lib.Strings
import Derived.OrdersHeld
import Derived.Deep.RegionLaw
import Derived.Deep.RegionHeld
import Derived.Laws.CopyOwn
import Derived.Lib.ItoaNum
namespace Go.Proofs.Ytjmpgeffkdjpdaa
set_option linter.unusedVariables false
set_option linter.unusedSimpArgs false
set_option maxRecDepth 100000
set_option maxHeartbeats 16000000
section
open Go.RowKit
def Sl {α : Type} (enc : α → List Value) (sz : Nat) (w : World) (a : Option Addr) (xs : List α) : Prop :=
  xs = [] ∨ ∃ b off, a = some ⟨b, off, none⟩ ∧ b < w.heap.size ∧ ∀ i (h : i < xs.length) j, j < sz → w.cell? ⟨b, off + i * sz + j, none⟩ = (enc xs[i])[j]?
def intE (n : Int) : List Value := [.int .i64 n]
def strE (s : ByteArray) : List Value := [.string s]
def byteE (b : UInt8) : List Value := [.int .u8 b.toNat]
section
variable {α : Type} {enc : α → List Value} {sz : Nat} {w w' : World} {a : Option Addr} {xs : List α}
theorem Sl.nil : Sl enc sz w a [] := .inl rfl
theorem Sl.at (h : Sl enc sz w a xs) {i : Nat} (hi : i < xs.length) : ∃ b off, a = some ⟨b, off, none⟩ ∧ b < w.heap.size ∧ ∀ i (h : i < xs.length) j, j < sz → w.cell? ⟨b, off + i * sz + j, none⟩ = (enc xs[i])[j]? := by
  rcases h with rfl | h
  · simp at hi
  · exact h
theorem Sl.below {B : Nat} (h : Sl enc sz w a xs) (hb : Below B w w') (hB : ∀ b off, a = some ⟨b, off, none⟩ → b < B) : Sl enc sz w' a xs := by
  rcases h with h | ⟨b, off, rfl, hlt, hc⟩
  · exact .inl h
  · exact .inr ⟨b, off, rfl, Nat.lt_of_lt_of_le hlt hb.size, fun i hi j hj => by rw [hb.cell (p := ⟨b, _, none⟩) (hB b off rfl)]; exact hc i hi j hj⟩
theorem Sl.keep (h : Sl enc sz w a xs) (hb : Below w.heap.size w w') : Sl enc sz w' a xs := by
  rcases h with h | ⟨b, off, rfl, hlt, hc⟩
  · exact .inl h
  · exact .inr ⟨b, off, rfl, Nat.lt_of_lt_of_le hlt hb.size, fun i hi j hj => by rw [hb.cell (p := ⟨b, _, none⟩) hlt]; exact hc i hi j hj⟩
theorem Sl.grown {row : Option Nat} (h : Sl enc sz w a xs) (hg : w.grownBy w' row) (hne : ∀ b off, a = some ⟨b, off, none⟩ → some b ≠ row) : Sl enc sz w' a xs := by
  rcases h with h | ⟨b, off, rfl, hlt, hc⟩
  · exact .inl h
  · refine .inr ⟨b, off, rfl, Nat.lt_of_lt_of_le hlt hg.size, fun i hi j hj => ?_⟩
    rw [World.cell?_of_block (a := ⟨b, _, none⟩) (hg.block b hlt (hne b off rfl))]
    exact hc i hi j hj
theorem Sl.alloc (h : Sl enc sz w a xs) (o : Obj) : Sl enc sz (w.alloc o) a xs := h.keep ((Below.refl _ _).alloc (Nat.le_refl _) _)
theorem Sl.drew (h : Sl enc sz w a xs) : Sl enc sz w.drew a xs := h.keep ((Below.refl _ _).drew)
theorem below_drewN (w : World) (n B : Nat) : Below B w (w.drewN n) := ⟨rfl, rfl, rfl, Nat.le_refl _, fun _ _ => rfl⟩
theorem Sl.drewN (h : Sl enc sz w a xs) (n : Nat) : Sl enc sz (w.drewN n) a xs := h.keep (below_drewN w n _)
theorem flat_get (enc : α → List Value) (sz : Nat) (hs : ∀ x, (enc x).length = sz) : ∀ (xs : List α) (i : Nat) (h : i < xs.length) (j : Nat), j < sz → (xs.flatMap enc)[i * sz + j]? = (enc xs[i])[j]?
  | [], i, h, _, _ => by simp at h
  | x :: xs, 0, _, j, hj => by
    simp only [List.flatMap_cons, Nat.zero_mul, Nat.zero_add, List.getElem_cons_zero]
    rw [List.getElem?_append_left (by rw [hs]; exact hj)]
  | x :: xs, i + 1, h, j, hj => by
    simp only [List.flatMap_cons, List.getElem_cons_succ]
    rw [List.getElem?_append_right (by rw [hs, Nat.add_mul]; omega), hs, show (i + 1) * sz + j - sz = i * sz + j by rw [Nat.add_mul]; omega]
    exact flat_get enc sz hs xs i (by simpa using h) j hj
theorem flat_length (enc : α → List Value) (sz : Nat) (hs : ∀ x, (enc x).length = sz) (xs : List α) : (xs.flatMap enc).length = xs.length * sz := by
  induction xs with
  | nil => simp
  | cons x xs ih => simp [List.flatMap_cons, ih, hs, Nat.add_mul, Nat.add_comm]
theorem Sl.of_own {base : Nat} {e : TypeId} {n cap : Nat} (hs : ∀ x, (enc x).length = sz) (h : w.ownsRow base e sz (.slice a n cap) xs.length (xs.flatMap enc)) : Sl enc sz w a xs := by
  by_cases hx : xs = []
  · exact .inl hx
  rcases h.2 with ⟨hv, hn⟩ | ⟨g, cap', cur, hv, hb, hg, hle, hm, hsz, ht⟩
  · exact .inl (List.eq_nil_of_length_eq_zero hn)
  · simp only [Value.slice.injEq] at hv
    obtain ⟨rfl, rfl, rfl⟩ := hv
    refine .inr ⟨g, 0, rfl, (Array.getElem?_eq_some_iff.1 hg).1, fun i hi j hj => ?_⟩
    have hown := World.ownsRow.cells h (g := g) rfl
    have hf := flat_get enc sz hs xs i hi j hj
    have hlt : j < (enc xs[i]).length := by rw [hs]; exact hj
    rw [List.getElem?_eq_getElem hlt] at hf ⊢
    have := hown _ _ hf
    rw [Nat.zero_add]
    have hadd : (⟨g, 0, none⟩ : Addr).add (i * sz + j) = ⟨g, i * sz + j, none⟩ := by unfold Addr.add; split <;> simp_all
    rwa [hadd] at this
theorem madeCells_flat (enc : α → List Value) (sz : Nat) (zero : α) (z : Array Value) (hz : z.toList = enc zero) (hs : ∀ x, (enc x).length = sz) (n : Nat) :
    (madeCells z (n * sz)).toList = (List.replicate n zero).flatMap enc := by
  have hzs : z.size = sz := by rw [← Array.length_toList, hz, hs]
  apply List.ext_getElem?
  intro j
  by_cases hj : j < n * sz
  · have hsz : 0 < sz := by
      rcases Nat.eq_zero_or_pos sz with h | h
      · rw [h] at hj; simp at hj
      · exact h
    have hq : j / sz < n := Nat.div_lt_of_lt_mul (by rw [Nat.mul_comm]; exact hj)
    have hr : j % sz < sz := Nat.mod_lt _ hsz
    have hj' : j = j / sz * sz + j % sz := by rw [Nat.mul_comm]; exact (Nat.div_add_mod j sz).symm
    have h1 := flat_get enc sz hs (List.replicate n zero) (j / sz) (by simpa using hq) (j % sz) hr
    rw [← hj'] at h1
    rw [h1]
    simp only [List.getElem_replicate]
    rw [← hz]
    simp only [madeCells, Array.toList_map, Array.toList_range, List.getElem?_map, List.getElem?_range hj, Option.map_some, hzs]
    have hr' : j % sz < z.size := by omega
    rw [getElem!_pos z (j % sz) hr']
    simp [hr']
  · rw [List.getElem?_eq_none (by simp [size_madeCells]; omega), List.getElem?_eq_none (by rw [flat_length enc sz hs]; simp; omega)]
theorem flat_set1 (enc : α → List Value) (hs : ∀ x, (enc x).length = 1) (ys : List α) (k : Nat) (hk : k < ys.length) (x : α) (u : Value) (hx : enc x = [u]) : (ys.flatMap enc).set k u = (ys.set k x).flatMap enc := by
  induction ys generalizing k with
  | nil => simp at hk
  | cons y ys ih =>
    obtain ⟨v, hv⟩ := List.length_eq_one_iff.1 (hs y)
    cases k with
    | zero => simp [List.flatMap_cons, hv, hx]
    | succ k => simp [List.flatMap_cons, hv, ih k (by simpa using hk)]
theorem flat_set2 (enc : α → List Value) (hs : ∀ x, (enc x).length = 2) (ys : List α) (k : Nat) (hk : k < ys.length) (x : α) (u0 u1 : Value) (hx : enc x = [u0, u1]) : ((ys.flatMap enc).set (k * 2) u0).set (k * 2 + 1) u1 = (ys.set k x).flatMap enc := by
  induction ys generalizing k with
  | nil => simp at hk
  | cons y ys ih =>
    obtain ⟨v0, v1, hv⟩ : ∃ v0 v1, enc y = [v0, v1] := by
      match h : enc y, hs y with
      | [a, b], _ => exact ⟨a, b, rfl⟩
    cases k with
    | zero => simp [List.flatMap_cons, hv, hx]
    | succ k =>
      rw [show (k + 1) * 2 = k * 2 + 1 + 1 by omega]
      simp [List.flatMap_cons, hv]
      exact ih k (by simpa using hk)
def Fresh (enc : α → List Value) (e : TypeId) (sz B : Nat) (v : Value) (xs : List α) (w : World) : Prop :=
  ∃ a cap, v = .slice a xs.length cap ∧ xs.length ≤ cap ∧ w.ownsRow B e sz (.slice a xs.length cap) xs.length (xs.flatMap enc)
theorem own_form {base : Nat} {e : TypeId} {sz : Nat} {v : Value} {n : Nat} {cs : List Value} {w : World} (h : w.ownsRow base e sz v n cs) : ∃ a cap, v = .slice a n cap ∧ n ≤ cap ∧ cap ≤ 9223372036854775807 := by
  rcases h.2 with ⟨rfl, rfl⟩ | ⟨g, cap, cur, rfl, _, _, h1, h2, _⟩
  · exact ⟨none, 0, rfl, Nat.le_refl _, by omega⟩
  · exact ⟨_, cap, rfl, h1, by unfold maxLen at h2; omega⟩
theorem Fresh.of_own {e : TypeId} {B : Nat} {v : Value} {n : Nat} {cs : List Value} {xs : List α} (h : w.ownsRow B e sz v n cs) (hn : n = xs.length) (hc : cs = xs.flatMap enc) : Fresh enc e sz B v xs w := by
  subst hn hc
  obtain ⟨a, cap, rfl, h1, _⟩ := own_form h
  exact ⟨a, cap, rfl, h1, h⟩
theorem Fresh.sl {e : TypeId} {B : Nat} {cap : Nat} (hs : ∀ x, (enc x).length = sz) (h : Fresh enc e sz B (.slice a xs.length cap) xs w) : Sl enc sz w a xs := by
  obtain ⟨a', cap', hv, h1, h2⟩ := h
  cases hv
  exact Sl.of_own (n := xs.length) hs h2
theorem Fresh.kept {e : TypeId} {B : Nat} {v : Value} {row : Option Nat} (h : Fresh enc e sz B v xs w) (hg : w.grownBy w' row) (hne : v.ownBlock = none ∨ v.ownBlock ≠ row) : Fresh enc e sz B v xs w' := by
  obtain ⟨a', cap', rfl, h1, h2⟩ := h
  exact ⟨a', cap', rfl, h1, h2.kept hg hne⟩
theorem grownBy_of_below {w w' : World} (h : Below w.heap.size w w') : w.grownBy w' none := ⟨h.os, h.tape, h.output, h.size, fun k hk _ => h.block k hk⟩
theorem Fresh.below {e : TypeId} {B : Nat} {v : Value} (h : Fresh enc e sz B v xs w) (hb : Below w.heap.size w w') : Fresh enc e sz B v xs w' :=
  h.kept (grownBy_of_below hb) (by cases hv : v.ownBlock <;> simp)
theorem Fresh.mono {e : TypeId} {B B' : Nat} {v : Value} (h : Fresh enc e sz B v xs w) (hB : B' ≤ B) : Fresh enc e sz B' v xs w := by
  obtain ⟨a', cap', rfl, h1, h2, h3⟩ := h
  refine ⟨a', cap', rfl, h1, h2, ?_⟩
  rcases h3 with h3 | ⟨g, cap, cur, hv, hg, r⟩
  · exact .inl h3
  · exact .inr ⟨g, cap, cur, hv, Nat.le_trans hB hg, r⟩
theorem Fresh.setCell {e : TypeId} {B : Nat} {v : Value} (h : Fresh enc e sz B v xs w) {p : Addr} (hp : p.block < B) (u : Value) : Fresh enc e sz B v xs (w.setCell p u) := by
  obtain ⟨a', cap', rfl, h1, h2⟩ := h
  exact ⟨a', cap', rfl, h1, ownsRow_setCell_below h2 hp u⟩
theorem Fresh.alloc {e : TypeId} {B : Nat} {v : Value} (h : Fresh enc e sz B v xs w) (o : Obj) : Fresh enc e sz B v xs (w.alloc o) := h.below ((Below.refl _ _).alloc (Nat.le_refl _) _)
theorem Fresh.lt {e : TypeId} {B : Nat} {v : Value} (h : Fresh enc e sz B v xs w) {k : Nat} (hk : v.ownBlock = some k) : B ≤ k ∧ k < w.heap.size := by
  obtain ⟨a', cap', rfl, h1, h2⟩ := h
  exact h2.lt k hk
theorem Sl.setCell {p : Addr} (h : Sl enc sz w a xs) (hp : ∀ b off, a = some ⟨b, off, none⟩ → b ≠ p.block) (u : Value) : Sl enc sz (w.setCell p u) a xs := by
  rcases h with h | ⟨b, off, rfl, hlt, hc⟩
  · exact .inl h
  · exact .inr ⟨b, off, rfl, by simpa using hlt, fun i hi j hj => by rw [World.cell?_setCell_other _ _ _ _ (fun e => hp b off rfl (by rw [e]))]; exact hc i hi j hj⟩
def FreshIn (enc : α → List Value) (e : TypeId) (sz lo hi : Nat) (v : Value) (xs : List α) (w : World) : Prop := Fresh enc e sz lo v xs w ∧ ∀ k, v.ownBlock = some k → k < hi
theorem Fresh.here {e : TypeId} {B : Nat} {v : Value} (h : Fresh enc e sz B v xs w) : FreshIn enc e sz B w.heap.size v xs w := ⟨h, fun _ hk => (h.lt hk).2⟩
theorem FreshIn.below {e : TypeId} {lo hi : Nat} {v : Value} (h : FreshIn enc e sz lo hi v xs w) (hb : Below w.heap.size w w') : FreshIn enc e sz lo hi v xs w' := ⟨h.1.below hb, h.2⟩
theorem FreshIn.setCell {e : TypeId} {lo hi : Nat} {v : Value} (h : FreshIn enc e sz lo hi v xs w) {p : Addr} (hp : p.block < lo) (u : Value) : FreshIn enc e sz lo hi v xs (w.setCell p u) := ⟨h.1.setCell hp u, h.2⟩
theorem FreshIn.mono {e : TypeId} {lo hi lo' hi' : Nat} {v : Value} (h : FreshIn enc e sz lo hi v xs w) (h1 : lo' ≤ lo) (h2 : hi ≤ hi') : FreshIn enc e sz lo' hi' v xs w := ⟨h.1.mono h1, fun k hk => Nat.lt_of_lt_of_le (h.2 k hk) h2⟩
theorem FreshIn.sl {e : TypeId} {lo hi : Nat} {cap : Nat} (hs : ∀ x, (enc x).length = sz) (h : FreshIn enc e sz lo hi (.slice a xs.length cap) xs w) : Sl enc sz w a xs := h.1.sl hs
theorem FreshIn.grown {e : TypeId} {lo hi : Nat} {v : Value} {row : Option Nat} (h : FreshIn enc e sz lo hi v xs w) (hg : w.grownBy w' row) (hr : ∀ k, row = some k → k < lo ∨ hi ≤ k) : FreshIn enc e sz lo hi v xs w' := by
  refine ⟨h.1.kept hg ?_, h.2⟩
  cases hv : v.ownBlock with
  | none => exact .inl rfl
  | some k =>
    right
    intro he
    have h1 := h.2 k hv
    have h2 := (h.1.lt hv).1
    rcases hr k he.symm with h3 | h3 <;> omega
end
end
section
open Go.RowKit
structure Mid (lo hi : Nat) (w w' : World) : Prop where
  os : w'.os = w.os
  tape : w'.tape = w.tape
  output : w'.output = w.output
  size : w.heap.size ≤ w'.heap.size
  block : ∀ k, k < w.heap.size → (k < lo ∨ hi ≤ k) → w'.heap[k]? = w.heap[k]?
theorem Mid.refl (lo hi : Nat) (w : World) : Mid lo hi w w := ⟨rfl, rfl, rfl, Nat.le_refl _, fun _ _ _ => rfl⟩
theorem Mid.trans {lo hi : Nat} {a b c : World} (h : Mid lo hi a b) (k : Mid lo hi b c) : Mid lo hi a c :=
  ⟨k.os.trans h.os, k.tape.trans h.tape, k.output.trans h.output, Nat.le_trans h.size k.size, fun i hi hd => (k.block i (Nat.lt_of_lt_of_le hi h.size) hd).trans (h.block i hi hd)⟩
theorem Mid.of_below {w w' : World} (lo hi : Nat) (h : Below w.heap.size w w') : Mid lo hi w w' := ⟨h.os, h.tape, h.output, h.size, fun k hk _ => h.block k hk⟩
theorem Mid.mono {lo hi lo' hi' : Nat} {w w' : World} (h : Mid lo hi w w') (h1 : lo' ≤ lo) (h2 : hi ≤ hi') : Mid lo' hi' w w' :=
  ⟨h.os, h.tape, h.output, h.size, fun k hk hd => h.block k hk (by omega)⟩
theorem Mid.below {lo hi B : Nat} {w w' : World} (h : Mid lo hi w w') (h1 : B ≤ lo) (h2 : B ≤ w.heap.size) : Below B w w' :=
  ⟨h.os, h.tape, h.output, h.size, fun k hk => h.block k (by omega) (by omega)⟩
theorem Mid.setCell {lo hi : Nat} {a w : World} (h : Mid lo hi a w) {p : Addr} (h1 : lo ≤ p.block) (h2 : p.block < hi) (u : Value) : Mid lo hi a (w.setCell p u) :=
  h.trans ⟨rfl, rfl, rfl, by simp [World.setCell], fun k _ hd => Below.heap_setCell _ _ _ _ (by omega)⟩
theorem Mid.cell {lo hi : Nat} {w w' : World} (h : Mid lo hi w w') {p : Addr} (hp : p.block < w.heap.size) (hd : p.block < lo ∨ hi ≤ p.block) : w'.cell? p = w.cell? p :=
  World.cell?_of_block (w := w) (h.block p.block hp hd)
theorem Mid.frozen {lo hi : Nat} {w w' : World} (h : Mid lo hi w w') {p : Addr} (hp : p.block < w.heap.size) (hd : p.block < lo ∨ hi ≤ p.block) : w'.frozen? p = w.frozen? p :=
  World.frozen?_of_block (w := w) (h.block p.block hp hd)
section
variable {α : Type} {enc : α → List Value} {sz : Nat} {w w' : World} {a : Option Addr} {xs : List α}
theorem FreshIn.mid {e : TypeId} {lo hi l r : Nat} {v : Value} (h : FreshIn enc e sz lo hi v xs w) (hm : Mid l r w w') (hd : hi ≤ l ∨ r ≤ lo) : FreshIn enc e sz lo hi v xs w' := by
  refine ⟨?_, h.2⟩
  obtain ⟨a', cap', rfl, h1, h2, h3⟩ := h.1
  refine ⟨a', cap', rfl, h1, h2, ?_⟩
  rcases h3 with h3 | ⟨g, cap, cur, hv, hg, hb, r'⟩
  · exact .inl h3
  · have hlt : g < hi := h.2 g (by rw [hv]; rfl)
    have hsz := (Array.getElem?_eq_some_iff.1 hb).1
    refine .inr ⟨g, cap, cur, hv, hg, ?_, r'⟩
    rw [hm.block g hsz (by omega)]
    exact hb
theorem FreshIn.alloc {e : TypeId} {lo hi : Nat} {v : Value} (h : FreshIn enc e sz lo hi v xs w) (o : Obj) : FreshIn enc e sz lo hi v xs (w.alloc o) := h.below ((Below.refl _ _).alloc (Nat.le_refl _) _)
theorem FreshIn.drew {e : TypeId} {lo hi : Nat} {v : Value} (h : FreshIn enc e sz lo hi v xs w) : FreshIn enc e sz lo hi v xs w.drew := h.below ((Below.refl _ _).drew)
theorem SlIn.alloc {lo hi : Nat} (h : Sl enc sz w a xs ∧ ∀ b off, a = some ⟨b, off, none⟩ → lo ≤ b ∧ b < hi) (o : Obj) : Sl enc sz (w.alloc o) a xs ∧ ∀ b off, a = some ⟨b, off, none⟩ → lo ≤ b ∧ b < hi := ⟨h.1.alloc o, h.2⟩
def SlIn (enc : α → List Value) (sz lo hi : Nat) (w : World) (a : Option Addr) (xs : List α) : Prop := Sl enc sz w a xs ∧ ∀ b off, a = some ⟨b, off, none⟩ → lo ≤ b ∧ b < hi
theorem SlIn.mid {lo hi l r : Nat} (h : SlIn enc sz lo hi w a xs) (hm : Mid l r w w') (hd : hi ≤ l ∨ r ≤ lo) : SlIn enc sz lo hi w' a xs := by
  refine ⟨?_, h.2⟩
  rcases h.1 with h1 | ⟨b, off, rfl, hlt, hc⟩
  · exact .inl h1
  · have := h.2 b off rfl
    exact .inr ⟨b, off, rfl, Nat.lt_of_lt_of_le hlt hm.size, fun i hi j hj => by rw [hm.cell (p := ⟨b, _, none⟩) hlt (by show b < _ ∨ _ ≤ b; omega)]; exact hc i hi j hj⟩
theorem SlIn.below {lo hi : Nat} (h : SlIn enc sz lo hi w a xs) (hb : Below w.heap.size w w') : SlIn enc sz lo hi w' a xs := ⟨h.1.keep hb, h.2⟩
theorem SlIn.mono {lo hi lo' hi' : Nat} (h : SlIn enc sz lo hi w a xs) (h1 : lo' ≤ lo) (h2 : hi ≤ hi') : SlIn enc sz lo' hi' w a xs := ⟨h.1, fun b off e => by have := h.2 b off e; omega⟩
end
end
section
open Go.RowKit
theorem setCells_own (g : Nat) (e : TypeId) : ∀ (news : List Value) (o : Nat) (w : World) (cur : Array Value), w.heap[g]? = some (.cells cur e (0, 0)) → o + news.length ≤ cur.size →
    ∃ cur', (w.setCells g o news).heap[g]? = some (.cells cur' e (0, 0)) ∧ cur'.size = cur.size ∧ cur'.toList.take (o + news.length) = cur.toList.take o ++ news
  | [], o, w, cur, hg, _ => ⟨cur, hg, rfl, by simp⟩
  | v :: r, o, w, cur, hg, hl => by
    simp only [List.length_cons] at hl
    obtain ⟨cur', h1, h2, h3⟩ := setCells_own g e r (o + 1) (w.setCell ⟨g, o, none⟩ v) (cur.setIfInBounds o v) (heap_setCell_same w g o cur e v hg) (by simp; omega)
    refine ⟨cur', h1, by simpa using h2, ?_⟩
    rw [show o + (v :: r).length = o + 1 + r.length by simp; omega, h3]
    have hlt : o < cur.toList.length := by rw [Array.length_toList]; omega
    have hlt' : o < cur.size := by omega
    rw [Array.toList_setIfInBounds, List.take_succ_eq_append_getElem (by simpa using hlt'), List.getElem_set_self, List.take_set_of_le (Nat.le_refl _), List.append_assoc]
    rfl
theorem setCells_grown (g : Nat) : ∀ (news : List Value) (o : Nat) (w : World), w.grownBy (w.setCells g o news) (some g)
  | [], _, w => World.grownBy.refl _ _
  | v :: r, o, w => by
    have h1 := setCells_grown g r (o + 1) (w.setCell ⟨g, o, none⟩ v)
    refine ⟨h1.os, h1.tape, h1.output, by rw [World.setCells]; have := h1.size; simpa using this, fun k hk hne => ?_⟩
    have := h1.block k (by simpa using hk) hne
    rw [World.setCells, this]
    exact Below.heap_setCell _ _ _ _ (fun e => hne (by rw [e]))
theorem run_append_own_src {P : Program} (w : World) (base : Nat) (t tx ty e : TypeId) (i : TypeInfo) (z : Value) (size bytes : Nat) (ht : P.underlying t = some (.slice e)) (hi : P.info? e = some i) (hz : i.zero = some z)
    (hsize : i.size = size) (hby : i.bytes = bytes) (hzs : z.cells.size = size)
    (v : Value) (n : Nat) (xs : List Value) (hown : w.ownsRow base e size v n xs) (x : Value) (m : Nat) (news : List Value) (hs : Src P size tx x m news w)
    (h63 : n + m ≤ maxLen) (hbytes : (n + m) * bytes ≤ 140737488355328) (hbase : base ≤ w.heap.size) :
    ∃ v' w', (Builtin.append_ #[t, tx] ty #[v, x]).run P w = .ok v' w' ∧ w'.ownsRow base e size v' (n + m) (xs ++ news) ∧ w.grownBy w' v.ownBlock ∧ (v'.ownBlock = v.ownBlock ∨ v'.ownBlock = some w.heap.size) := by
  subst hsize
  subst hby
  have hsmall : ((n + m : Nat) : Int) ≤ 9223372036854775807 := by simp only [maxLen] at h63; omega
  have hnl := hs.newsLen
  have hlen : (xs ++ news).length = (n + m) * i.size := by rw [List.length_append, hown.1, hnl, Nat.add_mul]
  have grown : ∀ (old : Nat) (row : Option Nat),
      (w.drew.alloc (.cells ((xs ++ news).toArray ++ Builtin.zeroCells z.cells (grownCap w (n + m) old e - (n + m))) e)).ownsRow base e i.size
        (.slice (some ⟨w.heap.size, 0, none⟩) (n + m) (grownCap w (n + m) old e)) (n + m) (xs ++ news) ∧
      w.grownBy (w.drew.alloc (.cells ((xs ++ news).toArray ++ Builtin.zeroCells z.cells (grownCap w (n + m) old e - (n + m))) e)) row := by
    intro old row
    have hge := grownCap_ge w (n + m) old e
    have hcm : grownCap w (n + m) old e ≤ maxLen := grownCap_le_maxLen w (n + m) old e h63
    refine ⟨⟨hlen, .inr ⟨w.heap.size, _, _, rfl, hbase, heap_alloc_new w.drew _, hge, hcm, ?_, ?_⟩⟩, ⟨rfl, rfl, rfl, by simp, fun k hk _ => Below.heap_alloc w.drew _ k hk⟩⟩
    · simp only [Array.size_append, List.size_toArray, size_zeroCells, hzs]
      rw [hlen, ← Nat.add_mul]
      congr 1
      omega
    · rw [← hlen, Array.toList_append]
      exact List.take_left
  rcases hown.2 with ⟨rfl, rfl⟩ | ⟨g, cap, cur, rfl, hbg, hg, hnc, hcm, hcs, htake⟩
  · have hx : xs = [] := List.eq_nil_of_length_eq_zero (by simpa using hown.1)
    subst hx
    by_cases hm : m = 0
    · subst hm
      have hn : news = [] := List.eq_nil_of_length_eq_zero (by simpa using hnl)
      subst hn
      exact ⟨.slice none 0 0, w, run_append_nothing w t tx ty e i ht hi none 0 0 (Nat.le_refl _) x hs, World.ownsRow_nil w base e i.size, ⟨rfl, rfl, rfl, Nat.le_refl _, fun _ _ _ => rfl⟩, .inl rfl⟩
    · have hr := run_append_grow_src (P := P) w t tx ty e i z ht hi hz none 0 0 [] (run_firstCells_none w.drew i.size 0 0 0) x m news hs (by omega) (by simpa using hsmall) (growslice_fits (by omega) hbytes)
      have hgr := grown 0 (Value.ownBlock (.slice none 0 0))
      simp only [List.nil_append] at hgr hr ⊢
      exact ⟨_, _, hr, hgr.1, hgr.2, .inr rfl⟩
  · by_cases hroom : n + m ≤ cap
    · have hfit : n * i.size + news.length ≤ cur.size := by rw [hnl, hcs, ← Nat.add_mul]; exact Nat.mul_le_mul_right _ hroom
      have hc : ∀ j, j < news.length → (w.cell? ⟨g, 0 + n * i.size + j, none⟩).isSome = true := by
        intro j hj
        rw [cell_of_row w g _ cur e (0, 0) hg]
        rw [Array.getElem?_eq_getElem (by omega)]
        rfl
      have hf : ∀ j, j < news.length → w.frozen? ⟨g, 0 + n * i.size + j, none⟩ = false := fun j hj => frozen_of_row w g _ cur e hg
      have hr := run_append_room_src (P := P) w t tx ty e i ht hi g 0 n cap x m news hs hroom hc hf
      obtain ⟨cur', h1, h2, h3⟩ := setCells_own g e news (0 + n * i.size) w cur hg (by omega)
      refine ⟨_, _, hr, ⟨hlen, .inr ⟨g, cap, cur', rfl, hbg, h1, hroom, hcm, by omega, ?_⟩⟩, setCells_grown g news _ w, .inl rfl⟩
      rw [Nat.add_mul, ← hnl]
      have h4 : 0 + n * i.size = n * i.size := Nat.zero_add _
      rw [h4] at h3
      rw [h3, htake]
    · have holds : ∀ j u, xs[j]? = some u → w.drew.cell? ((⟨g, 0, none⟩ : Addr).add j) = some u := by
        have := hown.cells (g := g) rfl
        intro j u hu
        simpa using this j u hu
      have hr := run_append_grow_src (P := P) w t tx ty e i z ht hi hz (some ⟨g, 0, none⟩) n cap xs (run_firstCells_some w.drew i.size n ⟨g, 0, none⟩ n cap xs hown.1 holds) x m news hs (by omega) hsmall (growslice_fits (by omega) hbytes)
      have hgr := grown cap (Value.ownBlock (.slice (some ⟨g, 0, none⟩) n cap))
      exact ⟨_, _, hr, hgr.1, hgr.2, .inr rfl⟩
theorem wpList_append_src {P : Program} (w : World) {ops : Array Oper} {rest : List Oper} {o : Oper} {a : Act} {Q : Exit → Act → World → Prop} (hgd : o.guard = none) (s x : Operand) (t tx : TypeId)
    (ho : o.op = .call { callee := .builtin .append, args := #[s, x], argTypes := #[t, tx] })
    (base : Nat) (e : TypeId) (i : TypeInfo) (z : Value) (size bytes : Nat) (ht : P.underlying t = some (.slice e)) (hi : P.info? e = some i) (hz : i.zero = some z)
    (hsize : i.size = size) (hby : i.bytes = bytes) (hzs : z.cells.size = size)
    (v : Value) (n : Nat) (xs : List Value) (hs : a.eval s = v) (hown : w.ownsRow base e size v n xs)
    (xv : Value) (m : Nat) (news : List Value) (hx : a.eval x = xv) (hsrc : Src P size tx xv m news w)
    (h63 : n + m ≤ maxLen) (hbytes : (n + m) * bytes ≤ 140737488355328) (hbase : base ≤ w.heap.size)
    (h : ∀ v' w', w'.ownsRow base e size v' (n + m) (xs ++ news) → w.grownBy w' v.ownBlock → (v'.ownBlock = v.ownBlock ∨ v'.ownBlock = some w.heap.size) → wpList P ops Q rest (a.put o.dst v') w') : wpList P ops Q (o :: rest) a w := by
  refine wpList_plain hgd fun K hK => ?_
  obtain ⟨v', w', hr, h2, h3, h4⟩ := run_append_own_src (P := P) w base t tx o.type e i z size bytes ht hi hz hsize hby hzs v n xs hown xv m news hsrc h63 hbytes hbase
  unfold Oper.wp execOp
  simp only [ho, resolve, invoke, builtin, Sem.run_bind, Sem.run_pure, Result.andThen_ok, List.map_toArray, List.map_cons, List.map_nil, hs, hx, hr]
  exact hK _ _ (h v' w' h2 h3 h4)
section
variable {α : Type} {enc : α → List Value} {sz : Nat} {w w' : World} {a : Option Addr} {xs : List α}
theorem Src.ofSl {P : Program} {tx e' : TypeId} (hk : P.underlying tx = some (.slice e')) (hs : ∀ x, (enc x).length = sz) (h1 : ∀ x, ∀ u ∈ enc x, u.oneCell' = true) (h : Sl enc sz w a xs) (c : Nat) : Src P sz tx (.slice a xs.length c) xs.length (xs.flatMap enc) w := by
  have hone : ∀ u ∈ xs.flatMap enc, u.oneCell' = true := fun u hu => by
    obtain ⟨x, _, hx⟩ := List.mem_flatMap.1 hu
    exact h1 x u hx
  rcases h with rfl | ⟨b, off, rfl, hlt, hc⟩
  · cases a with
    | none => exact Src.ofNil w hk c
    | some a => exact Src.ofSlice w hk a 0 c [] (by simp) (by simp) (by simp)
  · refine Src.ofSlice w hk ⟨b, off, none⟩ _ c _ (flat_length enc sz hs xs) (fun j u hu => ?_) hone
    have hj : j < xs.length * sz := by rw [← flat_length enc sz hs xs]; exact (List.getElem?_eq_some_iff.1 hu).1
    have hsz : 0 < sz := by
      rcases Nat.eq_zero_or_pos sz with h | h
      · rw [h] at hj; simp at hj
      · exact h
    have hq : j / sz < xs.length := Nat.div_lt_of_lt_mul (by rw [Nat.mul_comm]; exact hj)
    have hr : j % sz < sz := Nat.mod_lt _ hsz
    have hj' : j = j / sz * sz + j % sz := by rw [Nat.mul_comm]; exact (Nat.div_add_mod j sz).symm
    have h2 := hc (j / sz) hq (j % sz) hr
    have h3 := flat_get enc sz hs xs (j / sz) hq (j % sz) hr
    rw [← hj', hu] at h3
    rw [← h3] at h2
    have hadd : (⟨b, off, none⟩ : Addr).add j = ⟨b, off + j / sz * sz + j % sz, none⟩ := by
      rw [Addr.add_lit, Nat.add_assoc, ← hj']
    rw [hadd, h2]
theorem byteCells_flat (s : ByteArray) : byteCells s = s.data.toList.flatMap byteE := by
  unfold byteCells
  induction s.data.toList with
  | nil => rfl
  | cons b l ih => simp [List.flatMap_cons, ih, byteE]
theorem FreshIn.nil (enc : α → List Value) (e : TypeId) (sz lo hi : Nat) (w : World) : FreshIn enc e sz lo hi (.slice none 0 0) [] w :=
  ⟨⟨none, 0, rfl, Nat.le_refl _, World.ownsRow_nil _ _ _ _⟩, fun _ hk => by simp [Value.ownBlock] at hk⟩
theorem FreshIn.block {e : TypeId} {lo hi n cap : Nat} (h : FreshIn enc e sz lo hi (.slice a n cap) xs w) (h0 : 0 < xs.length) : ∃ g, a = some ⟨g, 0, none⟩ ∧ lo ≤ g ∧ g < hi ∧ g < w.heap.size ∧ w.ownsRow lo e sz (.slice (some ⟨g, 0, none⟩) xs.length cap) xs.length (xs.flatMap enc) := by
  obtain ⟨⟨a', cap', hv, h1, h2⟩, h3⟩ := h
  cases hv
  rcases h2.2 with ⟨_, hn⟩ | ⟨g, cap', cur, hv, hg, hb, _⟩
  · omega
  · cases hv
    exact ⟨g, rfl, hg, h3 g rfl, (Array.getElem?_eq_some_iff.1 hb).1, h2⟩
theorem FreshIn.len {e : TypeId} {lo hi n cap : Nat} (h : FreshIn enc e sz lo hi (.slice a n cap) xs w) : n = xs.length := by
  obtain ⟨⟨a', cap', hv, h1, h2⟩, h3⟩ := h
  cases hv
  rfl
theorem FreshIn.of_owns {e : TypeId} {lo hi g n cap : Nat} {cs : List Value} (h : w.ownsRow lo e sz (.slice (some ⟨g, 0, none⟩) n cap) n cs) (hn : n = xs.length) (hc : cs = xs.flatMap enc) (hg : g < hi) : FreshIn enc e sz lo hi (.slice (some ⟨g, 0, none⟩) n cap) xs w :=
  ⟨Fresh.of_own h hn hc, fun k hk => by cases hk; exact hg⟩
theorem own_below {base : Nat} {e : TypeId} {size : Nat} {v : Value} {n : Nat} {cs : List Value} (h : w.ownsRow base e size v n cs) (hb : Below w.heap.size w w') : w'.ownsRow base e size v n cs :=
  h.kept (grownBy_of_below hb) (by cases hv : v.ownBlock <;> simp)
theorem Mid.of_grown {lo hi : Nat} {row : Option Nat} (h : w.grownBy w' row) (hr : ∀ k, row = some k → lo ≤ k ∧ k < hi) : Mid lo hi w w' :=
  ⟨h.os, h.tape, h.output, h.size, fun k hk hd => h.block k hk (fun e => by have := hr k e.symm; omega)⟩
theorem FreshIn.row {e : TypeId} {lo hi : Nat} {v : Value} (h : FreshIn enc e sz lo hi v xs w) : ∀ k, v.ownBlock = some k → lo ≤ k ∧ k < hi := fun k hk => ⟨(h.1.lt hk).1, h.2 k hk⟩
theorem wpList_append_fresh {P : Program} {ops : Array Oper} {rest : List Oper} {o : Oper} {a : Act} {Q : Exit → Act → World → Prop} (hgd : o.guard = none) (s x : Operand) (t tx : TypeId)
    (ho : o.op = .call { callee := .builtin .append, args := #[s, x], argTypes := #[t, tx] })
    (lo hi : Nat) (e : TypeId) (i : TypeInfo) (z : Value) (size bytes : Nat) (ht : P.underlying t = some (.slice e)) (hinfo : P.info? e = some i) (hz : i.zero = some z)
    (hsize : i.size = size) (hby : i.bytes = bytes) (hzs : z.cells.size = size) (hbp : 0 < bytes)
    (v : Value) (zs : List α) (hs : a.eval s = v) (hF : FreshIn enc e size lo hi v zs w)
    (xv : Value) (ys : List α) (hx : a.eval x = xv) (hsrc : Src P size tx xv ys.length (ys.flatMap enc) w)
    (hbytes : (zs.length + ys.length) * bytes ≤ 140737488355328) (hlo : lo ≤ w.heap.size)
    (h : ∀ a' c' w' us, Hid (us = zs ++ ys) → FreshIn enc e size lo w'.heap.size (.slice a' us.length c') us w' → Mid lo hi w w' → wpList P ops Q rest (a.put o.dst (.slice a' us.length c')) w') : wpList P ops Q (o :: rest) a w := by
  have hrow := hF.row
  obtain ⟨⟨a', cap', rfl, h1, h2⟩, h3⟩ := hF
  refine wpList_append_src w hgd s x t tx ho lo e i z size bytes ht hinfo hz hsize hby hzs _ zs.length (zs.flatMap enc) hs h2 xv ys.length (ys.flatMap enc) hx hsrc ?_ hbytes hlo ?_
  · have : zs.length + ys.length ≤ (zs.length + ys.length) * bytes := Nat.le_mul_of_pos_right _ hbp
    unfold maxLen; omega
  · intro v' w' k1 k2 k3
    have hf : Fresh enc e size lo v' (zs ++ ys) w' := Fresh.of_own k1 (by simp) (by simp)
    obtain ⟨a1, c1, rfl, _⟩ := id hf
    exact h a1 c1 w' _ rfl hf.here (Mid.of_grown k2 hrow)
theorem Src.ofBox {P : Program} {tx e' : TypeId} (hk : P.underlying tx = some (.slice e')) (hs : ∀ x, (enc x).length = sz) (h1 : ∀ x, ∀ u ∈ enc x, u.oneCell' = true) (x : α) (cs : Array Value) (T : TypeId) (hc : cs.toList = enc x) (b : Nat) (hb : b = w.heap.size) :
    Src P sz tx (.slice (some ⟨b, 0, none⟩) 1 1) [x].length ([x].flatMap enc) (w.alloc (.cells cs T)) := by
  subst hb
  refine Src.ofSlice _ hk ⟨w.heap.size, 0, none⟩ 1 1 _ (by simp [hs]) (fun j u hu => ?_) (fun u hu => h1 x u (by simpa using hu))
  have hj : cs[j]? = some u := by
    rw [← Array.getElem?_toList, hc]; simpa using hu
  rw [Addr.add_lit, Nat.zero_add, World.cell?_alloc_new]
  exact hj
theorem Src.ofStr {P : Program} {tx : TypeId} {w : World} (hk : P.underlying tx = some .string) (s : ByteArray) : Src P 1 tx (.string s) s.data.toList.length (s.data.toList.flatMap byteE) w := by
  rw [← byteCells_flat]
  exact Src.ofString w hk s
end
end
section
open Go.RowKit
theorem toList_eq (a b : ByteArray) : a.toList = b.toList ↔ a = b := by
  rw [ByteArray.toList_eq, ByteArray.toList_eq]
  constructor
  · intro h
    exact ByteArray.ext (Array.toList_inj.1 h)
  · rintro rfl; rfl
end
section
open Go.RowKit
theorem Try.infoString : (Try.prog.info? 9).map (fun i => (i.zero, i.size, i.bytes)) = some (some (.string ⟨#[]⟩), 1, 16) := by kernel_rfl
def FreshR {α : Type} (enc : α → List Value) (e : TypeId) (sz : Nat) (w : World) (xs : List α) (en : Ending) (w' : World) : Prop :=
  ∃ v, en = .returned v ∧ Fresh enc e sz w.heap.size v xs w' ∧ Below w.heap.size w w'
theorem Try.infoInt : (Try.prog.info? 3).map (fun i => (i.zero, i.size, i.bytes)) = some (some (.int .i64 0), 1, 8) := by kernel_rfl
theorem Try.infoByte : (Try.prog.info? 5).map (fun i => (i.zero, i.size, i.bytes)) = some (some (.int .u8 0), 1, 1) := by kernel_rfl
end
section
open Go.RowKit
def inB (n l h : Int) : Bool := decide (l ≤ n) && decide (n ≤ h)
theorem within_c (n l h : Int) (w : World) :
    Calls Try.prog 25 #[.int .i64 n, .int .i64 l, .int .i64 h] w fun e w' => e = .returned (.bool (inB n l h)) ∧ w = w' := by
  by_cases h1 : l ≤ n <;> by_cases h2 : n ≤ h
  all_goals
    go_enter Try.func25, Try.ntmps25
    go_wp2
    go_ret
    exact ⟨by simp [inB, *], rfl⟩
theorem l01In_c (n l h : Int) (w : World) :
    Calls Try.prog 36 #[.int .i64 n, .int .i64 l, .int .i64 h] w fun e w' => e = .returned (.bool (inB n l h)) ∧ w = w' := by
  by_cases h1 : l ≤ n <;> by_cases h2 : n ≤ h
  all_goals
    go_enter Try.func36, Try.ntmps36
    go_wp2
    go_ret
    exact ⟨by simp [inB, *], rfl⟩
end
section
open Go.RowKit
theorem take_snocB (l : List UInt8) (k : Nat) (h : k < l.length) : l.take (k + 1) = l.take k ++ [l[k]] := List.take_succ_eq_append_getElem h
end
section
open Go.RowKit
def beB (n c j : Nat) : UInt8 := UInt8.ofNat (n / 256 ^ (c - 1 - j))
def be (n c : Nat) : List UInt8 := (List.range c).map (beB n c)
theorem be_length (n c : Nat) : (be n c).length = c := by simp [be]
theorem beB_toNat (n c j : Nat) : (beB n c j).toNat = n / 256 ^ (c - 1 - j) % 256 := by
  unfold beB
  rw [UInt8.toNat_ofNat']
theorem be_snoc (n c d : Nat) : (List.range (d + 1)).map (beB n c) = (List.range d).map (beB n c) ++ [beB n c d] := by simp [List.range_succ]
theorem sh8 (n q : Nat) : (n : Int) / 2 ^ (8 * q) % 256 = ((n / 256 ^ q % 256 : Nat) : Int) := by
  rw [show (2 : Int) ^ (8 * q) = ((256 ^ q : Nat) : Int) by rw [Int.natCast_pow, Int.pow_mul]; rfl]
  simp
def strOf (l : List UInt8) : ByteArray := ⟨l.toArray⟩
theorem l02Number_c (n c : Nat) (w : World) (hn : n ≤ 1099511627776) (hc : 1 ≤ c ∧ c ≤ 8) :
    Calls Try.prog 62 #[.int .i64 n, .int .i64 c] w (FreshR byteE 5 1 w (be n c)) := by
  obtain ⟨i0, hi, hz0, hz1, hz2⟩ := info_parts Try.infoByte
  obtain ⟨hc1, hc2⟩ := hc
  go_enter Try.func62, Try.ntmps62
  go_wp2_with fail
  go_loopw [5, 6] (fun v i wr => ∃ d : Nat, d ≤ c ∧ i = .int .i64 ((c : Int) - 1 - d) ∧ Fresh byteE 5 1 w.heap.size v ((List.range d).map (beB n c)) wr ∧ Below w.heap.size w wr) (fun _ i _ => (intOf i + 1).toNat)
  case atStart => exact ⟨0, Nat.zero_le _, by go_num, Fresh.of_own (World.ownsRow_made _ #[] 0 (Nat.le_refl _) (by decide) rfl) rfl rfl, (by repeat (first | exact Below.refl _ _ | (refine Below.alloc ?_ (by (try simp) <;> (try omega)) _) | (refine Below.setCell ?_ (by (try simp) <;> (try omega)) _) | (refine Below.drew ?_) | (refine Below.trans ?_ (Below.mono (by assumption) (by (try simp) <;> (try omega))))))⟩
  case round =>
    obtain ⟨d, hd, rfl, ⟨av, cv, rfl, hcv, ho⟩, hbel⟩ := hrel
    have hLl : ((List.range d).map (beB n c)).length ≤ d := by simp
    have hL := Lib.hid (be_snoc n c d)
    generalize hL0 : (List.range d).map (beB n c) = L at *
    have HL0 := Lib.hid hL0
    clear hL0
    by_cases hlt : d < c
    · obtain ⟨q, hq⟩ : ∃ q, d + q + 1 = c := ⟨c - (d + 1), by omega⟩
      have hq8 : q ≤ 7 := by omega
      have e1 : (c : Int) - 1 - (d : Int) = (q : Int) := by omega
      rw [e1]
      have HQ := Lib.hid hq
      clear e1 hq
      have HO := Lib.hid ho
      go_wp2_with (at_builtin; refine wpList_append_own _ rfl _ _ 22 rfl w.heap.size 5 i0 (.int .u8 0) 1 1 Try.underlying22 hi hz0 hz1 hz2 rfl (by decide) _ _ _ rfl (ho.alloc _) ⟨wr.heap.size, 0, none⟩ 1 1 [.int .u8 ((n : Int) / 2 ^ (8 * q) % 256)] rfl rfl ?c1 ?c2 ?c3 ?c4 ?c5 ?_)
      case c1 => intro j u hu; match j, hu with | 0, hu => simp at hu; subst hu; simp [Addr.add]
      case c2 => simp [Value.oneCell']
      case c3 => unfold maxLen; omega
      case c4 => omega
      case c5 => have := hbel.size; simp; omega
      intro v' w1 hown1 hgrow _
      have hb1' : Below w.heap.size w w1 := (hbel.alloc hbel.size _).grown hgrow (by have := hbel.size; simp; omega) (fun k hk => (HO.out.lt k hk).1)
      have hf : Fresh byteE 5 1 w.heap.size v' ((List.range (d + 1)).map (beB n c)) w1 := by
        rw [hL.out]
        refine Fresh.of_own hown1 (by simp) ?_
        simp only [List.flatMap_append, List.flatMap_cons, List.flatMap_nil, List.append_nil, byteE, beB_toNat]
        rw [show c - 1 - d = q by have := HQ.out; omega, sh8]
      clear hown1 hgrow ho
      have HF := Lib.hid hf
      clear hf
      go_wp2_with fail
      go_roundw
      case rel => exact ⟨d + 1, by omega, by congr 1; have := HQ.out; omega, HF.out, hb1'⟩
      case measure => simp [intOf]
    · obtain rfl : d = c := by omega
      have HO := Lib.hid ho
      have e1 : (d : Int) - 1 - (d : Int) = -1 := by omega
      rw [e1]
      clear ho e1
      go_wp2_with fail
      go_ret
      exact ⟨_, rfl, Fresh.of_own HO.out (by rw [← HL0.out]; rfl) (by rw [← HL0.out]; rfl), hbel⟩
theorem be_len_le (n c d : Nat) : ((List.range c).map fun j => if c ≤ j + d then beB n c j else (0 : UInt8)).length = c := by simp
theorem be_set (n c d q : Nat) (h : d + q + 1 = c) : ((List.range c).map fun j => if c ≤ j + d then beB n c j else (0 : UInt8)).set q (beB n c q) = (List.range c).map fun j => if c ≤ j + (d + 1) then beB n c j else (0 : UInt8) := by
  apply List.ext_getElem
  · simp
  · intro j h1 h2
    simp only [List.length_set, List.length_map, List.length_range] at h1
    rw [List.getElem_set]
    by_cases e : q = j
    · subst e
      simp
      omega
    · rw [if_neg e]
      simp only [List.getElem_map, List.getElem_range]
      by_cases h3 : c ≤ j + d
      · rw [if_pos h3, if_pos (by omega)]
      · rw [if_neg h3, if_neg (by omega)]
theorem be_done (n c : Nat) : ((List.range c).map fun j => if c ≤ j + c then beB n c j else (0 : UInt8)) = be n c := by
  unfold be
  apply List.map_congr_left
  intro j _
  rw [if_pos (by omega)]
theorem be_zero (n c : Nat) : ((List.range c).map fun j => if c ≤ j + 0 then beB n c j else (0 : UInt8)) = List.replicate c 0 := by
  apply List.ext_getElem
  · simp
  · intro j h1 h2
    simp only [List.length_map, List.length_range] at h1
    simp
    omega
theorem bigBytes_c (n c : Nat) (w : World) (hn : n ≤ 1099511627776) (hc : 1 ≤ c ∧ c ≤ 8) :
    Calls Try.prog 58 #[.int .i64 n, .int .i64 c] w fun e w' => e = .returned (.string (strOf (be n c))) ∧ Below w.heap.size w w' := by
  obtain ⟨i0, hi, hz0, hz1, hz2⟩ := info_parts Try.infoByte
  obtain ⟨hc1, hc2⟩ := hc
  go_enter Try.func58, Try.ntmps58
  go_wp2_with (at_make; refine wpList_make_full _ rfl _ _ 22 rfl w.heap.size 5 i0 (.int .u8 0) 1 Try.underlying22 hi hz0 hz1 .i64 .i64 _ _ c rfl rfl rfl rfl ?c1 ?c2 ?c3 ?_)
  case c1 => rw [hz2]; omega
  case c2 => unfold maxLen; omega
  case c3 => exact Nat.le_refl _
  intro w1 hown hg
  have hm := madeCells_flat byteE 1 (0 : UInt8) #[.int .u8 0] rfl (fun _ => rfl) c
  have hown2 : w1.ownsRow w.heap.size 5 1 (.slice (some ⟨w.heap.size, 0, none⟩) c c) c ((List.replicate c (0 : UInt8)).flatMap byteE) := by rw [← hm, Nat.mul_one]; exact hown
  have HOW := Lib.hid hown2
  clear hm hown hown2
  go_wp2_with fail
  go_loopw [0, 6] (fun m i wr => ∃ d : Nat, d ≤ c ∧ i = .int .i64 ((c : Int) - 1 - d) ∧ m = .int .i64 ((n / 256 ^ d : Nat)) ∧ wr.ownsRow w.heap.size 5 1 (.slice (some ⟨w.heap.size, 0, none⟩) c c) c (((List.range c).map fun j => if c ≤ j + d then beB n c j else (0 : UInt8)).flatMap byteE) ∧ Below w.heap.size w wr) (fun _ i _ => (intOf i + 1).toNat)
  case atStart => exact ⟨0, Nat.zero_le _, by go_num, by simp, by rw [be_zero]; exact HOW.out, (Below.refl _ _).grown hg (Nat.le_refl _) (by simp)⟩
  case round =>
    obtain ⟨d, hd, rfl, rfl, ho, hbel⟩ := hrel
    have hnd : n / 256 ^ d ≤ n := Nat.div_le_self _ _
    have hst := fun q h => Lib.hid (be_set n c d q h)
    have hne : Hid (n / 256 ^ (d + 1) = n / 256 ^ d / 256) := by rw [Nat.pow_succ, Nat.div_div_eq_div_mul]; rfl
    by_cases hlt : d < c
    · obtain ⟨q, hq⟩ : ∃ q, d + q + 1 = c := ⟨c - (d + 1), by omega⟩
      have HST := hst q hq
      have hbv : Hid (.int .u8 (((n / 256 ^ d : Nat) : Int) % 256) = Value.int .u8 ((beB n c q).toNat : Int)) := by
        show _ = _
        rw [beB_toNat, show c - 1 - q = d by omega]
        simp
      have hq8 : q ≤ 7 := by omega
      have hqc : q < c := by omega
      have e1 : (c : Int) - 1 - (d : Int) = (q : Int) := by omega
      rw [e1]
      have f1 := ho.frozenAt q
      have c2 := ho.cellAt q (by omega)
      have hL : (((List.range c).map fun j => if c ≤ j + d then beB n c j else (0 : UInt8)).flatMap byteE).length = c := by rw [flat_length byteE 1 (fun _ => rfl)]; simp
      have HL := Lib.hid (be_len_le n c d)
      have HO := Lib.hid ho
      have c3 : ∃ v, w = w ∧ wr.cell? ⟨w.heap.size, q, none⟩ = some v := by
        rw [c2]
        exact ⟨_, rfl, List.getElem?_eq_getElem (by rw [hL]; exact hqc)⟩
      obtain ⟨v, _, c3⟩ := c3
      have HQ := Lib.hid hq
      clear hL c2 ho e1 hq hst
      generalize n / 256 ^ d = m at *
      go_wp2_with fail
      go_roundw
      case rel =>
        have hs := HO.out.stored q (.int .u8 ((m : Int) % 256))
        rw [hbv.out, flat_set1 byteE (fun _ => rfl) _ q (by rw [HL.out]; exact hqc) (beB n c q) _ rfl, HST.out] at hs
        exact ⟨d + 1, by omega, by congr 1; have := HQ.out; omega, by rw [hne.out]; go_num, by first | exact hs.1 | (rw [hbv.out]; exact hs.1), hbel.setCell (Nat.le_refl _) _⟩
      case measure => simp [intOf]
    · obtain rfl : d = c := by omega
      have HO := Lib.hid ho
      have e1 : (d : Int) - 1 - (d : Int) = -1 := by omega
      have hsl : Sl byteE 1 wr (some ⟨w.heap.size, 0, none⟩) (be n d) := by
        rw [be_done] at ho
        refine Sl.of_own (n := d) (fun _ => rfl) (e := 5) (base := w.heap.size) (cap := d) ?_
        rw [be_length]
        exact ho
      rw [e1]
      have hconv : (convert 22 9 (.slice (some ⟨w.heap.size, 0, none⟩) d d)).run Try.prog wr = .ok (.string (strOf (be n d))) wr := by
        have := run_convert_bytes_back (P := Try.prog) wr 22 9 5 ⟨w.heap.size, 0, none⟩ d (be n d) Try.underlying22 Try.underlying5 Try.underlying9 (fun j hj => ?_)
        · rw [be_length] at this
          exact this
        · obtain ⟨b, off, hb, _, h2⟩ := hsl.at hj
          cases hb
          have := h2 j hj 0 (by omega)
          simpa [byteE, Addr.add_lit] using this
      clear ho e1 hst hsl hne
      go_wp2_with fail
      go_ret
      exact ⟨rfl, hbel⟩
def bn (l : List UInt8) : Nat := l.foldl (fun n b => n * 256 + b.toNat) 0
theorem bn_snoc (l : List UInt8) (b : UInt8) : bn (l ++ [b]) = bn l * 256 + b.toNat := by simp [bn]
theorem bn_lt' (l : List UInt8) : ∀ n, l.foldl (fun n b => n * 256 + b.toNat) n < (n + 1) * 256 ^ l.length := by
  induction l with
  | nil => intro n; simp
  | cons b l ih =>
    intro n
    have h1 := ih (n * 256 + b.toNat)
    have h2 := b.toNat_lt
    refine Nat.lt_of_lt_of_le h1 ?_
    rw [List.length_cons, Nat.pow_succ, Nat.mul_comm (256 ^ l.length) 256, ← Nat.mul_assoc]
    exact Nat.mul_le_mul_right _ (by omega)
theorem bn_lt (l : List UInt8) : bn l < 256 ^ l.length := by have := bn_lt' l 0; rw [Nat.zero_add, Nat.one_mul] at this; exact this
theorem bn_lt6 (l : List UInt8) (h : l.length ≤ 5) : bn l < 1099511627776 := Nat.lt_of_lt_of_le (bn_lt l) (Nat.le_trans (Nat.pow_le_pow_right (by omega) h) (by decide))
theorem l02Of_c (s : ByteArray) (w : World) (hs : s.size ≤ 5) :
    Calls Try.prog 48 #[.string s] w fun e w' => e = .returned (.int .i64 (bn s.data.toList)) ∧ w = w' := by
  go_enter Try.func48, Try.ntmps48
  go_wp2_with fail
  go_loop [3, 4] (fun n i => ∃ k : Nat, k ≤ s.size ∧ i = .int .i64 k ∧ n = .int .i64 (bn (s.data.toList.take k))) (fun _ i => s.size - (intOf i).toNat)
  case atStart => exact ⟨0, Nat.zero_le _, rfl, rfl⟩
  case round =>
    obtain ⟨k, hk, rfl, rfl⟩ := hrel
    have hl := bn_lt6 (s.data.toList.take k) (by simp; omega)
    by_cases hlt : k < s.size
    · have hb := s[k].toNat_lt
      have hsn : bn (s.data.toList.take (k + 1)) = bn (s.data.toList.take k) * 256 + s[k].toNat := by rw [take_snocB _ _ (by simpa using hlt), bn_snoc]; rfl
      have HS := Lib.hid hsn
      clear hsn
      generalize bn (s.data.toList.take k) = R at *
      go_wp2_with fail
      go_round
      case rel => exact ⟨k + 1, by omega, by go_num, by rw [HS.out]; go_num⟩
      case measure => simp [intOf]; omega
    · obtain rfl : k = s.size := by omega
      have ht : s.data.toList.take s.size = s.data.toList := List.take_of_length_le (by simp)
      rw [ht] at hl ⊢
      clear ht
      go_wp2_with fail
      go_ret
      exact ⟨rfl, rfl⟩
theorem i64_or8 (n b : Nat) (hn : n < 1099511627776) (hb : b < 256) : bits .or .i64 ((n : Int) * 256) (b : Int) = ((n * 256 + b : Nat) : Int) := by
  have h1 : (BitVec.ofInt 64 ((n : Int) * 256)).toNat = n * 256 := by
    rw [show ((n : Int) * 256) = ((n * 256 : Nat) : Int) by omega, BitVec.ofInt_natCast, BitVec.toNat_ofNat]; exact Nat.mod_eq_of_lt (by omega)
  have h2 : (BitVec.ofInt 64 (b : Int)).toNat = b := by rw [BitVec.ofInt_natCast, BitVec.toNat_ofNat]; exact Nat.mod_eq_of_lt (by omega)
  show IntKind.i64.wrap ((BitVec.ofInt 64 ((n : Int) * 256) ||| BitVec.ofInt 64 (b : Int)).toNat : Int) = _
  rw [BitVec.toNat_or, h1, h2, show n * 256 ||| b = n * 256 + b from nat_join 8 _ _ (by omega) (by omega)]
  exact IntWalk.i64_in _ (by omega)
theorem bigNumber_c (s : ByteArray) (w : World) (hs : s.size ≤ 5) :
    Calls Try.prog 45 #[.string s] w fun e w' => e = .returned (.int .i64 (bn s.data.toList)) ∧ w = w' := by
  go_enter Try.func45, Try.ntmps45
  go_wp2_with fail
  go_loop [3, 4, 7] (fun n _ i => ∃ k : Nat, k ≤ s.size ∧ i = .int .i64 k ∧ n = .int .i64 (bn (s.data.toList.take k))) (fun _ _ i => s.size - (intOf i).toNat)
  case atStart => exact ⟨0, Nat.zero_le _, rfl, rfl⟩
  case round =>
    obtain ⟨k, hk, rfl, rfl⟩ := hrel
    have hl := bn_lt6 (s.data.toList.take k) (by simp; omega)
    by_cases hlt : k < s.size
    · have hb := s[k].toNat_lt
      have hsn : bn (s.data.toList.take (k + 1)) = bn (s.data.toList.take k) * 256 + s[k].toNat := by rw [take_snocB _ _ (by simpa using hlt), bn_snoc]; rfl
      have HS := Lib.hid hsn
      clear hsn
      generalize bn (s.data.toList.take k) = R at *
      have hor : bits .or .i64 ((R : Int) * 256) (s[k].toNat : Int) = ((R * 256 + s[k].toNat : Nat) : Int) := i64_or8 R _ hl (by omega)
      go_wp2_with fail
      go_round
      case rel => exact ⟨k + 1, by omega, by go_num, by rw [HS.out]; try go_num⟩
      case measure => simp [intOf]; omega
    · obtain rfl : k = s.size := by omega
      have ht : s.data.toList.take s.size = s.data.toList := List.take_of_length_le (by simp)
      rw [ht] at hl ⊢
      clear ht
      go_wp2_with fail
      go_ret
      exact ⟨rfl, rfl⟩
end
section
open Go.RowKit
def hdr (s : ByteArray) : List UInt8 := be s.size 3
theorem strOf_append (a b : List UInt8) : strOf a ++ strOf b = strOf (a ++ b) := by
  unfold strOf
  apply ByteArray.ext
  simp
theorem strOf_data (s : ByteArray) : strOf s.data.toList = s := rfl
theorem strOf_toList (l : List UInt8) : (strOf l).data.toList = l := rfl
theorem strOf_size (l : List UInt8) : (strOf l).size = l.length := rfl
theorem byteOne : ∀ (x : UInt8), ∀ u ∈ byteE x, u.oneCell' = true := fun x u hu => by simp [byteE] at hu; subst hu; rfl
theorem sizeData (s : ByteArray) : s.data.toList.length = s.size := rfl
end
section
open Go.RowKit
theorem Try.sizeBuilder : (Try.prog.info? 93).map (·.size) = some 2 := by kernel_rfl
theorem Try.liesBuilder : liesAt Try.prog Try.prog.depth 93 (2 / Try.prog.cellsOf 93) 0 93 1 = true := by kernel_rfl
theorem copyCheck_used (b : Nat) (w : World) (h0 : w.cell? ⟨b, 0, none⟩ = some (.pointer (some ⟨b, 0, none⟩))) :
    Calls Try.prog 71 #[.pointer (some ⟨b, 0, none⟩)] w fun e w' => e = .returned (.tuple #[]) ∧ w' = w := by
  obtain ⟨j, hj, _⟩ := Option.map_eq_some_iff.1 Try.sizeBuilder
  go_enter Try.func71, Try.ntmps71
  go_wp2
  rw [Lib.run_neq_ptr_same w _ Try.underlying91 hj]
  go_wp2
  go_end0
  exact ⟨rfl, rfl⟩
theorem copyCheck_fresh (b : Nat) (w : World) (h0 : w.cell? ⟨b, 0, none⟩ = some (.pointer none)) (hsh : w.shape? b = some (93, 2)) (hfz : w.frozen? ⟨b, 0, none⟩ = false) :
    Calls Try.prog 71 #[.pointer (some ⟨b, 0, none⟩)] w fun e w' => e = .returned (.tuple #[]) ∧ w' = w.setCell ⟨b, 0, none⟩ (.pointer (some ⟨b, 0, none⟩)) := by
  obtain ⟨j, hj, hjs⟩ := Option.map_eq_some_iff.1 Try.sizeBuilder
  go_enter Try.func71, Try.ntmps71
  go_wp2
  rw [Lib.run_to_unsafe w ⟨b, 0, none⟩ Try.underlying91 Try.underlying116 hj (by rw [hjs]; decide) hsh (Nat.zero_lt_succ 1)]
  simp only [Result.andThen]
  rw [Oper.upon_value]
  go_wp2
  rw [run_callFunc_extern Try.func89 (by kernel_rfl) (by kernel_rfl) (by kernel_rfl) (e := Extern.AbiNoEscape.same) (by kernel_rfl)]
  rw [Lib.run_noEscape]
  simp only [Result.andThen]
  rw [Oper.upon_value]
  go_wp2
  rw [Lib.run_from_unsafe w ⟨b, 0, none⟩ Try.underlying116 Try.underlying91 hj hsh Try.liesBuilder]
  simp only [Result.andThen]
  rw [Oper.upon_value]
  go_wp2
  go_end0
  exact ⟨rfl, rfl⟩
theorem copyCheck_c (B b : Nat) (bs : List Value) (w : World) (h : Lib.IsBuilder 93 5 B b bs w) :
    Calls Try.prog 71 #[.pointer (some ⟨b, 0, none⟩)] w fun e w' => e = .returned (.tuple #[]) ∧ (Lib.BuilderAt 93 5 B b (.pointer (some ⟨b, 0, none⟩)) bs w' ∧ Below B w w') := by
  rcases h with h | h
  · refine (copyCheck_fresh b w h.cell0 h.shape h.frozen0).mono ?_
    rintro e w' ⟨rfl, rfl⟩
    exact ⟨rfl, h.used _, (Below.refl B w).setCell (p := ⟨b, 0, none⟩) h.1 _⟩
  · refine (copyCheck_used b w h.cell0).mono ?_
    rintro e w' ⟨rfl, rfl⟩
    exact ⟨rfl, h, Below.refl B _⟩
def Bld (B b : Nat) (l : List UInt8) (w : World) : Prop := Lib.IsBuilder 93 5 B b (Lib.byteCells l) w
theorem byteCells_app (l m : List UInt8) : Lib.byteCells (l ++ m) = Lib.byteCells l ++ Lib.byteCells m := by simp [Lib.byteCells]
theorem strCells_eq (s : ByteArray) : Lib.strCells s = Lib.byteCells s.data.toList := by simp [Lib.strCells, Lib.byteCells]
theorem writeString_c (B b : Nat) (l : List UInt8) (s : ByteArray) (w : World) (h : Bld B b l w) (hl : l.length ≤ 1099511627776) (hs : s.size ≤ 1099511627776) (hBw : B ≤ w.heap.size) :
    Calls Try.prog 57 #[.pointer (some ⟨b, 0, none⟩), .string s] w fun e w' => e = .returned (.tuple #[.int .i64 s.size, .nilIface]) ∧ Bld B b (l ++ s.data.toList) w' ∧ Below B w w' := by
  obtain ⟨i0, hi, hz0, hz1, hz2⟩ := info_parts Try.infoByte
  have hbl := Lib.byteCells_length l
  go_enter Try.func57, Try.ntmps57
  go_wp2_with (go_at_call 71; refine (copyCheck_c B b _ _ h).mono ?_)
  rintro e w1 ⟨rfl, h1, hb1⟩
  obtain ⟨hB, v, hbk, hown, hne⟩ := h1
  have c0 : w1.cell? ⟨b, 0, none⟩ = some (.pointer (some ⟨b, 0, none⟩)) := by rw [Lib.cell_of_heap hbk]; rfl
  have c1 : w1.cell? ⟨b, 1, none⟩ = some v := by rw [Lib.cell_of_heap hbk]; rfl
  go_wp2_with (at_builtin; refine Lib.wpList_append_own_string _ rfl _ _ 22 9 rfl B 5 i0 Try.underlying22 Try.underlying9 hi hz0 hz1 hz2 _ _ _ rfl hown s rfl ?c3 ?c4 ?c5 ?_)
  case c3 => unfold maxLen; omega
  case c4 => omega
  case c5 => have := hb1.size; omega
  intro v' w2 hown' hgrow _
  have hlt : b < w1.heap.size := by
    rcases Nat.lt_or_ge b w1.heap.size with h' | h'
    · exact h'
    · simp [Array.getElem?_eq_none h'] at hbk
  have hb2 : w2.heap[b]? = some (.cells #[.pointer (some ⟨b, 0, none⟩), v] 93 (0, 0)) := by
    rw [hgrow.block b hlt (fun e => hne e.symm)]
    exact hbk
  have d0 : w2.cell? ⟨b, 0, none⟩ = some (.pointer (some ⟨b, 0, none⟩)) := by rw [Lib.cell_of_heap hb2]; rfl
  have d1 : w2.cell? ⟨b, 1, none⟩ = some v := by rw [Lib.cell_of_heap hb2]; rfl
  have f1 : w2.frozen? ⟨b, 1, none⟩ = false := Lib.frozen_of_heap hb2 1
  obtain ⟨ao, n', cap, rfl⟩ : ∃ ao n' cap, v' = .slice ao n' cap := by
    rcases hown'.2 with ⟨hv, _⟩ | ⟨g, cap, cur, hv, _⟩
    · exact ⟨_, _, _, hv⟩
    · exact ⟨_, _, _, hv⟩
  have HO := Lib.hid hown'
  have HG := Lib.hid hgrow
  clear hown' hgrow
  go_wp2
  go_ret2
  have hgrow := HG.out
  have hown' := HO.out
  refine ⟨rfl, .inr ?_, ?_⟩
  · rw [byteCells_app, ← strCells_eq]
    exact Lib.BuilderAt.put (T := 93) (e := 5) hB hb2 (bs' := Lib.byteCells l ++ Lib.strCells s) (by rw [List.length_append, Lib.strCells_length, Lib.byteCells_length]; exact hown') (by decide)
  · exact (hb1.grown hgrow (by have := hb1.size; omega) (fun k hk => (hown.lt k hk).1)).setCell (p := ⟨b, 1, none⟩) hB _
theorem bldLen_c (B b : Nat) (l : List UInt8) (w : World) (h : Bld B b l w) :
    Calls Try.prog 74 #[.pointer (some ⟨b, 0, none⟩)] w fun e w' => e = .returned (.int .i64 l.length) ∧ w = w' := by
  obtain ⟨p, hB, v, hbk, hown, hne⟩ : ∃ p, Lib.BuilderAt 93 5 B b p (Lib.byteCells l) w := by
    rcases h with h | h
    · exact ⟨_, h⟩
    · exact ⟨_, h⟩
  have c1 : w.cell? ⟨b, 1, none⟩ = some v := by rw [Lib.cell_of_heap hbk]; rfl
  rw [Lib.byteCells_length] at hown
  obtain ⟨ao, cap, rfl⟩ : ∃ ao cap, v = .slice ao l.length cap := by
    rcases hown.2 with ⟨hv, h0⟩ | ⟨g, cap, cur, hv, _⟩
    · exact ⟨none, 0, by rw [hv, h0]⟩
    · exact ⟨_, _, hv⟩
  clear hown hne hbk h
  go_enter Try.func74, Try.ntmps74
  go_wp2
  go_ret
  exact ⟨rfl, rfl⟩
end
section
open Go.Shelf Go.RowKit
def Try.lays169_ren : Go.Shelf.Ren := ⟨fun | 169 => 59 | n => n, fun | 70 => 91 | 9 => 9 | 0 => 0 | 72 => 93 | 37 => 22 | 127 => 110 | 3 => 3 | 5 => 5 | n => n, fun | n => n⟩
theorem Try.lays169 : Go.Proofs.Lays.n169 Try.prog Try.lays169_ren := {
  mixed := by kernel_rfl
  f169 := Try.func59.trans (congrArg some (by kernel_rfl))
  t0 := Try.underlying0
  a0 := Try.isAgg0
  z0 := Try.sizeOf0
  v0 := Try.zeroValue0
  t3 := Try.underlying3
  a3 := Try.isAgg3
  z3 := Try.sizeOf3
  v3 := Try.zeroValue3
  t9 := Try.underlying9
  a9 := Try.isAgg9
  z9 := Try.sizeOf9
  v9 := Try.zeroValue9
  t37 := Try.underlying22
  a37 := Try.isAgg22
  z37 := Try.sizeOf22
  v37 := Try.zeroValue22
  t70 := Try.underlying91
  a70 := Try.isAgg91
  z70 := Try.sizeOf91
  v70 := Try.zeroValue91
  t72 := Try.underlying93
  a72 := Try.isAgg93
  z72 := Try.sizeOf93
  v72 := Try.zeroValue93
  t127 := Try.underlying110
  a127 := Try.isAgg110
  z127 := Try.sizeOf110
  v127 := Try.zeroValue110 }
theorem Try.Builder_Extra_169 : Builder.Extra Try.prog Try.lays169_ren := {
  sizeBuilder := by kernel_rfl
  liesBuilder := by kernel_rfl
  t5 := Try.underlying5
  a5 := Try.isAgg5
  z5 := Try.sizeOf5
  v5 := Try.zeroValue5
  infoByte := by kernel_rfl
  cellsByte := by kernel_rfl
  sizeByte := by kernel_rfl
  neB5 := by decide }
theorem bldString_c (B b : Nat) (l : List UInt8) (w : World) (h : Bld B b l w) (hBw : B ≤ w.heap.size) :
    Calls Try.prog 59 #[.pointer (some ⟨b, 0, none⟩)] w fun e w' => e = .returned (.string (strOf l)) ∧ Below B w w' := Any.Builder_String_any Try.lays169 Try.Builder_Extra_169 B b l w h hBw
theorem bld_new (w : World) (B : Nat) (hB : B ≤ w.heap.size) : Bld B w.heap.size [] (w.alloc (.cells #[.pointer none, .slice none 0 0] 93)) :=
  .inl ⟨hB, _, heap_alloc_new w _, World.ownsRow_nil _ _ _ _, by simp [Value.ownBlock]⟩
theorem Bld.below {B b : Nat} {l : List UInt8} {w w' : World} (h : Bld B b l w) (hb : Below w.heap.size w w') : Bld B b l w' := by
  have key : ∀ p, Lib.BuilderAt 93 5 B b p (Lib.byteCells l) w → Lib.BuilderAt 93 5 B b p (Lib.byteCells l) w' := by
    rintro p ⟨h1, v, h2, h3, h4⟩
    refine ⟨h1, v, ?_, own_below h3 hb, h4⟩
    rw [hb.block b (Array.getElem?_eq_some_iff.1 h2).1]
    exact h2
  rcases h with h | h
  · exact .inl (key _ h)
  · exact .inr (key _ h)
end
section
open Go.RowKit
theorem writeByte_c (B b : Nat) (l : List UInt8) (x : UInt8) (n : Int) (w : World) (h : Bld B b l w) (hx : n = (x.toNat : Int)) (hl : l.length ≤ 1099511627776) (hBw : B ≤ w.heap.size) :
    Calls Try.prog 73 #[.pointer (some ⟨b, 0, none⟩), .int .u8 n] w fun e w' => e = .returned .nilIface ∧ Bld B b (l ++ [x]) w' ∧ Below B w w' := by
  obtain ⟨i0, hi, hz0, hz1, hz2⟩ := info_parts Try.infoByte
  have hbl := Lib.byteCells_length l
  have HX := Lib.hid hx
  clear hx
  go_enter Try.func73, Try.ntmps73
  go_wp2_with (go_at_call 71; refine (copyCheck_c B b _ _ h).mono ?_)
  rintro e w1 ⟨rfl, h1, hb1⟩
  obtain ⟨hB, v, hbk, hown, hne⟩ := h1
  have c0 : w1.cell? ⟨b, 0, none⟩ = some (.pointer (some ⟨b, 0, none⟩)) := by rw [Lib.cell_of_heap hbk]; rfl
  have c1 : w1.cell? ⟨b, 1, none⟩ = some v := by rw [Lib.cell_of_heap hbk]; rfl
  go_wp2_with (at_builtin; refine wpList_append_own _ rfl _ _ 22 rfl B 5 i0 (.int .u8 0) 1 1 Try.underlying22 hi hz0 hz1 hz2 rfl (by decide) _ _ _ rfl (hown.alloc _) ⟨w1.heap.size, 0, none⟩ 1 1 [.int .u8 n] rfl rfl ?c1 ?c2 ?c3 ?c4 ?c5 ?_)
  case c1 =>
    intro j u hj
    match j, hj with
    | 0, hj => simp at hj; subst hj; simp [Addr.add]
  case c2 => intro u hu; simp at hu; subst hu; rfl
  case c3 => unfold maxLen; omega
  case c4 => omega
  case c5 => have := hb1.size; simp; omega
  intro v' w2 hown' hgrow _
  have hlt : b < w1.heap.size := by
    rcases Nat.lt_or_ge b w1.heap.size with h' | h'
    · exact h'
    · simp [Array.getElem?_eq_none h'] at hbk
  have hb2 : w2.heap[b]? = some (.cells #[.pointer (some ⟨b, 0, none⟩), v] 93 (0, 0)) := by
    rw [hgrow.block b (by simp; omega) (fun e => hne e.symm), Below.heap_alloc _ _ _ hlt]
    exact hbk
  have d0 : w2.cell? ⟨b, 0, none⟩ = some (.pointer (some ⟨b, 0, none⟩)) := by rw [Lib.cell_of_heap hb2]; rfl
  have d1 : w2.cell? ⟨b, 1, none⟩ = some v := by rw [Lib.cell_of_heap hb2]; rfl
  have f1 : w2.frozen? ⟨b, 1, none⟩ = false := Lib.frozen_of_heap hb2 1
  obtain ⟨ao, n', cap, rfl⟩ : ∃ ao n' cap, v' = .slice ao n' cap := by
    rcases hown'.2 with ⟨hv, _⟩ | ⟨g, cap, cur, hv, _⟩
    · exact ⟨_, _, _, hv⟩
    · exact ⟨_, _, _, hv⟩
  have HO := Lib.hid hown'
  have HG := Lib.hid hgrow
  clear hown' hgrow
  go_wp2
  go_ret
  have hgrow := HG.out
  have hown' := HO.out
  refine ⟨rfl, .inr ?_, ?_⟩
  · rw [byteCells_app, show Lib.byteCells [x] = [.int .u8 n] by rw [HX.out]; rfl]
    exact Lib.BuilderAt.put (T := 93) (e := 5) hB hb2 (bs' := Lib.byteCells l ++ [.int .u8 n]) (by rw [List.length_append, Lib.byteCells_length]; exact hown') (by decide)
  · exact ((hb1.alloc (by have := hb1.size; omega) _).grown hgrow (by have := hb1.size; simp; omega) (fun k hk => (hown.lt k hk).1)).setCell (p := ⟨b, 1, none⟩) hB _
end
section
open Go.RowKit
theorem take_none {α : Type} {p : α → Bool} {xs : List α} {k : Nat} (h : ∀ j (hj : j < xs.length), j < k → p xs[j] = false) (hk : xs.length ≤ k) : xs.any p = false := by
  rw [List.any_eq_false]
  intro x hx
  obtain ⟨j, hj, rfl⟩ := List.getElem_of_mem hx
  simp [h j hj (by omega)]
theorem any_at {α : Type} {p : α → Bool} {xs : List α} {k : Nat} (hk : k < xs.length) (h : p xs[k] = true) : xs.any p = true := List.any_eq_true.2 ⟨_, List.getElem_mem hk, h⟩
def longP (n : Int) : Bool := decide (65536 < n)
def sz_impl_isLong_1 (_ : Int) : Prop := True
theorem f_impl_isLong_1 (n : Int) (w : World) (_ : sz_impl_isLong_1 n) : Calls Try.prog 42 #[.int .i64 n] w fun e w' => e = .returned (.bool (longP n)) ∧ w = w' := by
  go_enter Try.func42, Try.ntmps42
  go_wp2_with fail
  go_ret
  exact ⟨rfl, rfl⟩
theorem index_impl_isLong_1 (a : Option Addr) (ca : Nat) (xs : List Int) (w : World) (ha : Sl intE 1 w a xs) (la : xs.length ≤ 1099511627776) (hq : ∀ x ∈ xs, sz_impl_isLong_1 x) :
    Calls Try.prog 63 #[.slice a xs.length ca, .func (.func 42) #[] #[]] w fun e w' => (∃ i : Int, e = .returned (.int .i64 i) ∧ Hid (decide (0 ≤ i) = xs.any longP)) ∧ w = w' := by
  have HQ := Lib.hid hq
  clear hq
  go_enter Try.func63, Try.ntmps63
  go_wp2_with fail
  go_loop [5, 8] (fun _ i => ∃ k : Nat, k ≤ xs.length ∧ i = .int .i64 k ∧ ∀ j (hj : j < xs.length), j < k → longP xs[j] = false) (fun _ i => xs.length - (intOf i).toNat)
  case atStart => exact ⟨0, Nat.zero_le _, rfl, fun j _ h => absurd h (Nat.not_lt_zero _)⟩
  case round =>
    obtain ⟨k, hk, rfl, hp⟩ := hrel
    have HP := Lib.hid hp
    clear hp
    by_cases hlt : k < xs.length
    · obtain ⟨b1, o1, rfl, hb1, hc1⟩ := ha.at hlt
      have c1 := hc1 k hlt 0 (by omega)
      simp only [intE, Nat.mul_one, Nat.add_zero, List.getElem?_cons_zero] at c1
      have hx := HQ.out xs[k] (List.getElem_mem _)
      clear hc1
      cases hpk : longP xs[k]
      · have HPK := Lib.hid hpk
        clear hpk
        go_wp2_with (go_at_call 42; refine (f_impl_isLong_1 xs[k] _ hx).mono ?_; rw [HPK.out]; rintro e w' ⟨rfl, rfl⟩)
        go_round
        case rel => exact ⟨k + 1, by omega, by go_num, fun j hj h => by
          rcases Nat.lt_succ_iff_lt_or_eq.1 h with h | rfl
          · exact HP.out j hj h
          · exact HPK.out⟩
        case measure => simp [intOf]; omega
      · have HPK := Lib.hid hpk
        clear hpk
        go_wp2_with (go_at_call 42; refine (f_impl_isLong_1 xs[k] _ hx).mono ?_; rw [HPK.out]; rintro e w' ⟨rfl, rfl⟩)
        go_ret
        exact ⟨⟨_, rfl, by rw [any_at hlt HPK.out]; show decide _ = _; simp⟩, rfl⟩
    · obtain rfl : k = xs.length := by omega
      go_wp2_with fail
      go_ret
      exact ⟨⟨_, rfl, by rw [take_none HP.out (Nat.le_refl _)]; rfl⟩, rfl⟩
theorem contains_impl_isLong_1 (a : Option Addr) (ca : Nat) (xs : List Int) (w : World) (ha : Sl intE 1 w a xs) (la : xs.length ≤ 1099511627776) (hq : ∀ x ∈ xs, sz_impl_isLong_1 x) :
    Calls Try.prog 41 #[.slice a xs.length ca, .func (.func 42) #[] #[]] w fun e w' => e = .returned (.bool (xs.any longP)) ∧ w = w' := by
  have HQ := Lib.hid hq
  clear hq
  go_enter Try.func41, Try.ntmps41
  go_wp2_with fail
  refine (index_impl_isLong_1 a ca xs _ ha la HQ.out).mono ?_
  rintro e w' ⟨⟨i, rfl, hi⟩, rfl⟩
  go_wp2_with fail
  go_ret
  exact ⟨by rw [← hi.out]; rfl, rfl⟩
theorem isLong_c (a : Option Addr) (ca : Nat) (xs : List Int) (w : World) (ha : Sl intE 1 w a xs) (la : xs.length ≤ 1099511627776) :
    Calls Try.prog 17 #[.slice a xs.length ca] w fun e w' => e = .returned (.bool (xs.any longP)) ∧ w = w' := by
  go_enter Try.func17, Try.ntmps17
  go_wp2_with fail
  refine (contains_impl_isLong_1 a ca xs _ ha la (fun _ _ => trivial)).mono ?_
  rintro e w' ⟨rfl, rfl⟩
  go_wp2_with fail
  go_ret
  exact ⟨rfl, rfl⟩
theorem Sl.box {w : World} {b : Nat} {n : Int} (hb : b < w.heap.size) (hc : w.cell? ⟨b, 0, none⟩ = some (.int .i64 n)) : Sl intE 1 w (some ⟨b, 0, none⟩) [n] :=
  .inr ⟨b, 0, rfl, hb, fun i hi j hj => by
    have h1 : i = 0 := by simpa using hi
    have h2 : j = 0 := by omega
    subst h1 h2
    simpa [intE] using hc⟩
theorem isLong1_c (b : Nat) (n : Int) (ca : Nat) (w : World) (hb : b < w.heap.size) (hc : w.cell? ⟨b, 0, none⟩ = some (.int .i64 n)) :
    Calls Try.prog 17 #[.slice (some ⟨b, 0, none⟩) 1 ca] w fun e w' => e = .returned (.bool (longP n)) ∧ w = w' :=
  (isLong_c _ ca [n] w (Sl.box hb hc) (by simp)).mono fun e w' ⟨h1, h2⟩ => ⟨by rw [h1]; simp, h2⟩
end
section
open Go.RowKit
def numL (ns : List Int) : List UInt8 := ns.flatMap fun n => be (n + 1).toNat 3
theorem numL_length (ns : List Int) : (numL ns).length = 3 * ns.length := by
  induction ns with
  | nil => rfl
  | cons n ns ih => simp only [numL, List.flatMap_cons, List.length_append, be_length, List.length_cons] at *; omega
theorem numL_snoc (ns : List Int) (k : Nat) (hk : k < ns.length) : numL (ns.take (k + 1)) = numL (ns.take k) ++ be (ns[k] + 1).toNat 3 := by
  unfold numL
  rw [List.take_succ_eq_append_getElem hk, List.flatMap_append]
  simp only [List.flatMap_cons, List.flatMap_nil, List.append_nil]
def fieldL (s : ByteArray) : List UInt8 := be s.size 2 ++ s.data.toList
def fldB (fs : List ByteArray) : List UInt8 := fs.flatMap fieldL
def fldL (fs : List ByteArray) : List UInt8 := UInt8.ofNat fs.length :: fldB fs
theorem fieldL_length (s : ByteArray) : (fieldL s).length = 2 + s.size := by simp [fieldL, be_length]
theorem fldB_snoc (fs : List ByteArray) (k : Nat) (hk : k < fs.length) : fldB (fs.take (k + 1)) = fldB (fs.take k) ++ fieldL fs[k] := by
  unfold fldB
  rw [List.take_succ_eq_append_getElem hk, List.flatMap_append]
  simp only [List.flatMap_cons, List.flatMap_nil, List.append_nil]
theorem fldB_le (fs : List ByteArray) (M : Nat) (h : ∀ s ∈ fs, s.size ≤ M) : (fldB fs).length ≤ fs.length * (2 + M) := by
  induction fs with
  | nil => simp [fldB]
  | cons s fs ih =>
    have h1 := h s (by simp)
    have h2 := ih (fun x hx => h x (by simp [hx]))
    simp only [fldB, List.flatMap_cons, List.length_append, List.length_cons, fieldL_length] at *
    rw [Nat.add_mul]
    omega
def bigP (s : ByteArray) : Bool := decide (20000 < s.size)
theorem numbersOf_c (a : Option Addr) (ca : Nat) (ns : List Int) (w : World) (ha : Sl intE 1 w a ns) (la : ns.length ≤ 1048576) (hn : ∀ n ∈ ns, -1 ≤ n ∧ n ≤ 1099511627775) :
    Calls Try.prog 32 #[.slice a ns.length ca] w fun e w' => e = .returned (.string (strOf (numL ns))) ∧ Below w.heap.size w w' := by
  have HN := Lib.hid hn
  clear hn
  go_enter Try.func32, Try.ntmps32
  go_wp2_with fail
  go_loopw [5, 8] (fun _ i wr => ∃ k : Nat, k ≤ ns.length ∧ i = .int .i64 k ∧ Bld w.heap.size w.heap.size (numL (ns.take k)) wr ∧ Below w.heap.size w wr) (fun _ i _ => ns.length - (intOf i).toNat)
  case atStart => exact ⟨0, Nat.zero_le _, rfl, bld_new w _ (Nat.le_refl _), (by repeat (first | exact Below.refl _ _ | (refine Below.alloc ?_ (by (try simp) <;> (try omega)) _) | (refine Below.setCell ?_ (by (try simp) <;> (try omega)) _) | (refine Below.drew ?_) | (refine Below.trans ?_ (Below.mono (by assumption) (by (try simp) <;> (try omega))))))⟩
  case round =>
    obtain ⟨k, hk, rfl, hB, hbel⟩ := hrel
    have hlen := numL_length (ns.take k)
    have hlen' : (numL (ns.take k)).length ≤ 3145728 := by rw [hlen, List.length_take]; omega
    have hz := hbel.size
    have HBW := Lib.hid hbel
    have HS := fun h => Lib.hid (numL_snoc ns k h)
    clear hlen
    by_cases hlt : k < ns.length
    · have HSN := HS hlt
      obtain ⟨b1, o1, rfl, hb1, hc1⟩ := (ha.keep hbel).at hlt
      have c1 := hc1 k hlt 0 (by omega)
      simp only [intE, Nat.mul_one, Nat.add_zero, List.getElem?_cons_zero] at c1
      have hin := HN.out ns[k] (List.getElem_mem _)
      obtain ⟨n, hn⟩ : ∃ n : Nat, ns[k] = (n : Int) - 1 := ⟨(ns[k] + 1).toNat, by omega⟩
      have hn40 : n ≤ 1099511627776 := by omega
      have hnn : (ns[k] + 1).toNat = n := by omega
      rw [hnn] at HSN
      rw [hn] at c1
      generalize numL (ns.take k) = L at *
      have HB := Lib.hid hB
      clear hc1 hbel HS hin hn hnn hB
      have e1 : ((n : Int) - 1 + 1) = (n : Int) := by omega
      have E1 := Lib.hid e1
      clear e1
      go_wp2_with fail
      try rw [E1.out]
      refine (bigBytes_c n 3 _ (by omega) (by omega)).mono ?_
      rintro e w2 ⟨rfl, hb2⟩
      have hz2 := hb2.size
      have HB2 := Lib.hid hb2
      have HBK2 := Lib.hid (HB.out.below hb2)
      have hsb : (strOf (be n 3)).size ≤ 3 := by rw [strOf_size, be_length]; omega
      clear hb2
      go_wp2_with fail
      refine (writeString_c w.heap.size w.heap.size L (strOf (be n 3)) _ HBK2.out (by omega) (by omega) (by omega)).mono ?_
      rintro e w3 ⟨rfl, hB3, hb3⟩
      rw [strOf_toList] at hB3
      have HB3 := Lib.hid hB3
      have HBB3 := Lib.hid hb3
      clear hB3 hb3
      go_wp2_with fail
      go_roundw
      case rel => exact ⟨k + 1, by omega, by go_num, by rw [HSN.out]; exact HB3.out, (HBW.out.trans (HB2.out.mono hz)).trans HBB3.out⟩
      case measure => simp [intOf]; omega
    · obtain rfl : k = ns.length := by omega
      rw [List.take_length] at hB
      have HB := Lib.hid hB
      clear hB hbel HS
      go_wp2_with fail
      refine (bldString_c w.heap.size w.heap.size (numL ns) _ HB.out hz).mono ?_
      rintro e w3 ⟨rfl, hb3⟩
      go_wp2_with fail
      go_ret
      exact ⟨rfl, HBW.out.trans hb3⟩
def sz_impl_fieldsOf_1 (_ : ByteArray) : Prop := True
theorem f_impl_fieldsOf_1 (r : ByteArray) (w : World) (_ : sz_impl_fieldsOf_1 r) : Calls Try.prog 72 #[.string r] w fun e w' => e = .returned (.bool (bigP r)) ∧ w = w' := by
  by_cases h : 20000 < r.size
  all_goals
    go_enter Try.func72, Try.ntmps72
    go_wp2_with fail
    go_ret
    exact ⟨by simp [bigP]; try omega, rfl⟩
theorem index_impl_fieldsOf_1 (a : Option Addr) (ca : Nat) (xs : List ByteArray) (w : World) (ha : Sl strE 1 w a xs) (la : xs.length ≤ 1099511627776) (hq : ∀ x ∈ xs, sz_impl_fieldsOf_1 x) :
    Calls Try.prog 55 #[.slice a xs.length ca, .func (.func 72) #[] #[]] w fun e w' => (∃ i : Int, e = .returned (.int .i64 i) ∧ Hid (decide (0 ≤ i) = xs.any bigP)) ∧ w = w' := by
  have HQ := Lib.hid hq
  clear hq
  go_enter Try.func55, Try.ntmps55
  go_wp2_with fail
  go_loop [5, 8] (fun _ i => ∃ k : Nat, k ≤ xs.length ∧ i = .int .i64 k ∧ ∀ j (hj : j < xs.length), j < k → bigP xs[j] = false) (fun _ i => xs.length - (intOf i).toNat)
  case atStart => exact ⟨0, Nat.zero_le _, rfl, fun j _ h => absurd h (Nat.not_lt_zero _)⟩
  case round =>
    obtain ⟨k, hk, rfl, hp⟩ := hrel
    have HP := Lib.hid hp
    clear hp
    by_cases hlt : k < xs.length
    · obtain ⟨b1, o1, rfl, hb1, hc1⟩ := ha.at hlt
      have c1 := hc1 k hlt 0 (by omega)
      simp only [strE, Nat.mul_one, Nat.add_zero, List.getElem?_cons_zero] at c1
      have hx := HQ.out xs[k] (List.getElem_mem _)
      clear hc1
      cases hpk : bigP xs[k]
      · have HPK := Lib.hid hpk
        clear hpk
        go_wp2_with (go_at_call 72; refine (f_impl_fieldsOf_1 xs[k] _ hx).mono ?_; rw [HPK.out]; rintro e w' ⟨rfl, rfl⟩)
        go_round
        case rel => exact ⟨k + 1, by omega, by go_num, fun j hj h => by
          rcases Nat.lt_succ_iff_lt_or_eq.1 h with h | rfl
          · exact HP.out j hj h
          · exact HPK.out⟩
        case measure => simp [intOf]; omega
      · have HPK := Lib.hid hpk
        clear hpk
        go_wp2_with (go_at_call 72; refine (f_impl_fieldsOf_1 xs[k] _ hx).mono ?_; rw [HPK.out]; rintro e w' ⟨rfl, rfl⟩)
        go_ret
        exact ⟨⟨_, rfl, by rw [any_at hlt HPK.out]; show decide _ = _; simp⟩, rfl⟩
    · obtain rfl : k = xs.length := by omega
      go_wp2_with fail
      go_ret
      exact ⟨⟨_, rfl, by rw [take_none HP.out (Nat.le_refl _)]; rfl⟩, rfl⟩
theorem contains_impl_fieldsOf_1 (a : Option Addr) (ca : Nat) (xs : List ByteArray) (w : World) (ha : Sl strE 1 w a xs) (la : xs.length ≤ 1099511627776) (hq : ∀ x ∈ xs, sz_impl_fieldsOf_1 x) :
    Calls Try.prog 27 #[.slice a xs.length ca, .func (.func 72) #[] #[]] w fun e w' => e = .returned (.bool (xs.any bigP)) ∧ w = w' := by
  have HQ := Lib.hid hq
  clear hq
  go_enter Try.func27, Try.ntmps27
  go_wp2_with fail
  refine (index_impl_fieldsOf_1 a ca xs _ ha la HQ.out).mono ?_
  rintro e w' ⟨⟨i, rfl, hi⟩, rfl⟩
  go_wp2_with fail
  go_ret
  exact ⟨by rw [← hi.out]; rfl, rfl⟩
def fldV (fs : List ByteArray) : List UInt8 × Int :=
  if 60 < fs.length then ([], 6) else if fs.any bigP then ([], 4) else if 65536 < (fldL fs).length then ([], 7) else (fldL fs, 0)
theorem big_le {fs : List ByteArray} (h : fs.any bigP = false) : ∀ r ∈ fs, r.size ≤ 20000 := by
  intro r hr
  have h1 : ∀ x ∈ fs, bigP x = false := by simpa using h
  have := h1 r hr
  simp [bigP] at this
  omega
theorem fieldsOf_c (a : Option Addr) (ca : Nat) (fs : List ByteArray) (w : World) (ha : Sl strE 1 w a fs) (la : fs.length ≤ 1048576) :
    Calls Try.prog 60 #[.slice a fs.length ca] w fun e w' => e = .returned (.tuple #[.string (strOf (fldV fs).1), .int .i64 (fldV fs).2]) ∧ Below w.heap.size w w' := by
  by_cases h1 : 60 < fs.length
  · have hv : fldV fs = ([], 6) := by simp [fldV, h1]
    rw [hv]
    clear hv
    go_enter Try.func60, Try.ntmps60
    go_wp2_with fail
    go_ret2
    exact ⟨rfl, Below.refl _ _⟩
  cases h2 : fs.any bigP
  · have hbig := big_le h2
    have H2 := Lib.hid h2
    have HBIG := Lib.hid hbig
    have HV : Hid (fldV fs = if 65536 < (fldL fs).length then ([], 7) else (fldL fs, 0)) := by show _ = _; unfold fldV; rw [if_neg h1, h2]; rfl
    clear h2 hbig
    go_enter Try.func60, Try.ntmps60
    go_wp2_with fail
    refine (contains_impl_fieldsOf_1 a ca fs _ ha (by omega) (fun _ _ => trivial)).mono ?_
    rw [H2.out]
    rintro e w1 ⟨rfl, rfl⟩
    go_wp2_with fail
    have hu8 : (fs.length : Int) % 256 = ((UInt8.ofNat fs.length).toNat : Int) := by rw [UInt8.toNat_ofNat']; omega
    refine Calls.mono (writeByte_c w.heap.size w.heap.size [] (UInt8.ofNat fs.length) _ _ (bld_new w _ (Nat.le_refl _)) ?_ (by simp) (by simp)) ?_
    · first | exact hu8 | (rw [← hu8]; omega)
    rintro e w1 ⟨rfl, hB1, hb1⟩
    have HB1 := Lib.hid hB1
    have HBB1 : Hid (Below w.heap.size w w1) := (by repeat (first | exact Below.refl _ _ | (refine Below.alloc ?_ (by (try simp) <;> (try omega)) _) | (refine Below.setCell ?_ (by (try simp) <;> (try omega)) _) | (refine Below.drew ?_) | (refine Below.trans ?_ (Below.mono (by assumption) (by (try simp) <;> (try omega))))))
    clear hu8 hB1 hb1
    go_wp2_with fail
    go_loopw [6, 18] (fun _ i wr => ∃ k : Nat, k ≤ fs.length ∧ i = .int .i64 k ∧ Bld w.heap.size w.heap.size (UInt8.ofNat fs.length :: fldB (fs.take k)) wr ∧ Below w.heap.size w wr) (fun _ i _ => fs.length - (intOf i).toNat)
    case atStart => exact ⟨0, Nat.zero_le _, rfl, HB1.out, HBB1.out⟩
    case round =>
      obtain ⟨k, hk, rfl, hB, hbel⟩ := hrel
      have hlen := fldB_le (fs.take k) 20000 (fun s hs => HBIG.out s (List.mem_of_mem_take hs))
      have hlen' : (UInt8.ofNat fs.length :: fldB (fs.take k)).length ≤ 2000000 := by simp only [List.length_cons, List.length_take] at hlen ⊢; omega
      have hz := hbel.size
      have HBW := Lib.hid hbel
      have HS := fun h => Lib.hid (fldB_snoc fs k h)
      clear hlen
      by_cases hlt : k < fs.length
      · have HSN := HS hlt
        obtain ⟨b1, o1, rfl, hb1, hc1⟩ := (ha.keep hbel).at hlt
        have c1 := hc1 k hlt 0 (by omega)
        simp only [strE, Nat.mul_one, Nat.add_zero, List.getElem?_cons_zero] at c1
        have hsz := HBIG.out fs[k] (List.getElem_mem _)
        generalize fs[k] = G at *
        generalize hL : UInt8.ofNat fs.length :: fldB (fs.take k) = L at *
        have HL := Lib.hid hL
        have HB := Lib.hid hB
        clear hc1 hbel HS hB hL
        go_wp2_with fail
        refine (bigBytes_c G.size 2 _ (by omega) (by omega)).mono ?_
        rintro e w2 ⟨rfl, hb2⟩
        have hz2 := hb2.size
        have HB2 := Lib.hid hb2
        have HBK2 := Lib.hid (HB.out.below hb2)
        have hsb : (strOf (be G.size 2)).size ≤ 2 := by rw [strOf_size, be_length]; omega
        have hsc : (strOf (be G.size 2) ++ G).size ≤ 20002 := by rw [ByteArray.size_append]; omega
        clear hb2
        generalize hE : strOf (be G.size 2) = E at *
        have HE := Lib.hid hE
        clear hE
        go_wp2_with fail
        refine (writeString_c w.heap.size w.heap.size L (E ++ G) _ HBK2.out (by omega) (by omega) (by omega)).mono ?_
        rintro e w3 ⟨rfl, hB3, hb3⟩
        have HB3 := Lib.hid hB3
        have HBB3 := Lib.hid hb3
        clear hB3 hb3
        go_wp2_with fail
        go_roundw
        case rel =>
          refine ⟨k + 1, by omega, by go_num, ?_, (HBW.out.trans (HB2.out.mono hz)).trans HBB3.out⟩
          have h3 := HB3.out
          rw [← HL.out, ← HE.out, ← strOf_data G, strOf_append, strOf_toList, List.cons_append] at h3
          rw [HSN.out]
          exact h3
        case measure => simp [intOf]; omega
      · obtain rfl : k = fs.length := by omega
        rw [List.take_length] at hB hlen'
        have hE : UInt8.ofNat fs.length :: fldB fs = fldL fs := rfl
        rw [hE] at hB hlen'
        have HB := Lib.hid hB
        have HV3 : Hid (fldV fs = if 65536 < (fldL fs).length then ([], 7) else (fldL fs, 0)) := HV.out
        clear hB hbel HS hE
        clear HV
        have HV := HV3
        clear HV3
        generalize fldL fs = L at *
        go_wp2_with fail
        refine (bldLen_c w.heap.size w.heap.size L _ HB.out).mono ?_
        rintro e w3 ⟨rfl, rfl⟩
        by_cases hl : 65536 < L.length
        · have hv : fldV fs = ([], 7) := by rw [HV.out, if_pos hl]
          have HV2 := Lib.hid hv
          clear hv
          go_wp2_with fail
          go_ret2
          exact ⟨by rw [HV2.out]; rfl, HBW.out⟩
        · have hv : fldV fs = (L, 0) := by rw [HV.out, if_neg hl]
          have HV2 := Lib.hid hv
          clear hv
          go_wp2_with fail
          refine (bldString_c w.heap.size w.heap.size L _ HB.out hz).mono ?_
          rintro e w3 ⟨rfl, hb3⟩
          go_wp2_with fail
          go_ret2
          exact ⟨by rw [HV2.out]; rfl, HBW.out.trans hb3⟩
  · have hv : fldV fs = ([], 4) := by simp only [fldV, if_neg h1, h2, if_true]
    have H2 := Lib.hid h2
    rw [hv]
    clear hv h2
    go_enter Try.func60, Try.ntmps60
    go_wp2_with fail
    refine (contains_impl_fieldsOf_1 a ca fs _ ha (by omega) (fun _ _ => trivial)).mono ?_
    rw [H2.out]
    rintro e w1 ⟨rfl, rfl⟩
    go_wp2_with fail
    go_ret2
    exact ⟨rfl, Below.refl _ _⟩
theorem fields_c (a : Option Addr) (ca : Nat) (fs : List ByteArray) (w : World) (ha : Sl strE 1 w a fs) (la : fs.length ≤ 1048576) :
    Calls Try.prog 33 #[.slice a fs.length ca] w fun e w' => e = .returned (.string (strOf (fldV fs).1)) ∧ Below w.heap.size w w' := by
  go_enter Try.func33, Try.ntmps33
  go_wp2_with fail
  refine (fieldsOf_c a ca fs _ ha la).mono ?_
  rintro e w1 ⟨rfl, hb1⟩
  go_wp2_with fail
  go_ret
  exact ⟨rfl, hb1⟩
theorem fldV_ok {fs : List ByteArray} (h1 : fs.length ≤ 60) (h2 : ∀ s ∈ fs, s.size ≤ 20000) (h3 : (fldL fs).length ≤ 65536) : fldV fs = (fldL fs, 0) := by
  have hb : fs.any bigP = false := by
    rw [List.any_eq_false]
    intro x hx
    have := h2 x hx
    simp [bigP]
    omega
  unfold fldV
  rw [if_neg (by omega), hb, if_neg (by simp), if_neg (by omega)]
end
section
open Go.RowKit
section
variable {α : Type} {enc : α → List Value} {w : World}
theorem wp_append_fresh {P : Program} {o : Oper} {a : Act} {K : Act → World → Prop} {Q : Exit → Act → World → Prop} (s x : Operand) (t tx : TypeId)
    (ho : o.op = .call { callee := .builtin .append, args := #[s, x], argTypes := #[t, tx] })
    (lo hi : Nat) (e : TypeId) (i : TypeInfo) (z : Value) (size bytes : Nat) (ht : P.underlying t = some (.slice e)) (hinfo : P.info? e = some i) (hz : i.zero = some z)
    (hsize : i.size = size) (hby : i.bytes = bytes) (hzs : z.cells.size = size) (hbp : 0 < bytes)
    (v : Value) (zs : List α) (hs : a.eval s = v) (hF : FreshIn enc e size lo hi v zs w)
    (xv : Value) (ys : List α) (hx : a.eval x = xv) (hsrc : Src P size tx xv ys.length (ys.flatMap enc) w)
    (hbytes : (zs.length + ys.length) * bytes ≤ 140737488355328) (hlo : lo ≤ w.heap.size)
    (h : ∀ a' c' w' us, Hid (us = zs ++ ys) → FreshIn enc e size lo w'.heap.size (.slice a' us.length c') us w' → Mid lo hi w w' → K (a.put o.dst (.slice a' us.length c')) w') : o.wp P a w K Q := by
  have hrow := hF.row
  obtain ⟨⟨a', cap', rfl, h1, h2⟩, h3⟩ := hF
  have h63 : zs.length + ys.length ≤ maxLen := by
    have : zs.length + ys.length ≤ (zs.length + ys.length) * bytes := Nat.le_mul_of_pos_right _ hbp
    unfold maxLen; omega
  obtain ⟨v', w', hr, k1, k2, k3⟩ := run_append_own_src (P := P) w lo t tx o.type e i z size bytes ht hinfo hz hsize hby hzs _ zs.length (zs.flatMap enc) h2 xv ys.length (ys.flatMap enc) hsrc h63 hbytes hlo
  have hf : Fresh enc e size lo v' (zs ++ ys) w' := Fresh.of_own k1 (by simp) (by simp)
  obtain ⟨a1, c1, rfl, _⟩ := id hf
  unfold Oper.wp execOp
  simp only [ho, resolve, invoke, builtin, Sem.run_bind, Sem.run_pure, Result.andThen_ok, List.map_toArray, List.map_cons, List.map_nil, hs, hx, hr]
  exact h a1 c1 w' _ rfl hf.here (Mid.of_grown k2 hrow)
theorem step_append_fresh {P : Program} {ops : Array Oper} {o : Oper} {a : Act} {K : Act → World → Prop} {Q : Exit → Act → World → Prop} {E : Prop} (hgd : o.guard = none) (s x : Operand) (t tx : TypeId)
    (ho : o.op = .call { callee := .builtin .append, args := #[s, x], argTypes := #[t, tx] })
    (lo hi : Nat) (e : TypeId) (i : TypeInfo) (z : Value) (size bytes : Nat) (ht : P.underlying t = some (.slice e)) (hinfo : P.info? e = some i) (hz : i.zero = some z)
    (hsize : i.size = size) (hby : i.bytes = bytes) (hzs : z.cells.size = size) (hbp : 0 < bytes)
    (v : Value) (zs : List α) (hs : a.eval s = v) (hF : FreshIn enc e size lo hi v zs w)
    (xv : Value) (ys : List α) (hx : a.eval x = xv) (hsrc : Src P size tx xv ys.length (ys.flatMap enc) w)
    (hbytes : (zs.length + ys.length) * bytes ≤ 140737488355328) (hlo : lo ≤ w.heap.size)
    (h : ∀ a' c' w' us, Hid (us = zs ++ ys) → FreshIn enc e size lo w'.heap.size (.slice a' us.length c') us w' → Mid lo hi w w' → K (a.put o.dst (.slice a' us.length c')) w') :
    if Region.wanted o (yielded ops a.tmps) = true then Oper.wp P o a w K Q else E := by
  have hw : Region.wanted o (yielded ops a.tmps) = true := by simp [Region.wanted, hgd]
  rw [if_pos hw]
  exact wp_append_fresh s x t tx ho lo hi e i z size bytes ht hinfo hz hsize hby hzs hbp v zs hs hF xv ys hx hsrc hbytes hlo h
end
end
section
open Go.RowKit
theorem intOneC : ∀ (x : Int), ∀ u ∈ intE x, u.oneCell' = true := fun x u hu => by simp [intE] at hu; subst hu; rfl
theorem l02Numbers_c (a : Option Addr) (ca : Nat) (ns : List Int) (w : World) (ha : Sl intE 1 w a ns) (la : ns.length ≤ 1048576) (hn : ∀ n ∈ ns, -1 ≤ n ∧ n ≤ 1099511627775) :
    Calls Try.prog 38 #[.slice a ns.length ca] w (FreshR byteE 5 1 w (numL ns)) := by
  obtain ⟨i0, hi, hz0, hz1, hz2⟩ := info_parts Try.infoByte
  have HN := Lib.hid hn
  clear hn
  go_enter Try.func38, Try.ntmps38
  go_wp2_with fail
  go_loopw [3, 4] (fun v i wr => ∃ (k : Nat) (av : Option Addr) (cv : Nat) (L : List UInt8), k ≤ ns.length ∧ i = .int .i64 k ∧ v = .slice av L.length cv ∧ Hid (L = numL (ns.take k)) ∧ L.length ≤ 3145728 ∧ Fresh byteE 5 1 w.heap.size (.slice av L.length cv) L wr ∧ Below w.heap.size w wr) (fun _ i _ => ns.length - (intOf i).toNat)
  case atStart => exact ⟨0, _, _, [], Nat.zero_le _, rfl, rfl, rfl, by simp, Fresh.of_own (World.ownsRow_made _ #[] 0 (Nat.le_refl _) (by decide) rfl) rfl rfl, (by repeat (first | exact Below.refl _ _ | (refine Below.alloc ?_ (by (try simp) <;> (try omega)) _) | (refine Below.setCell ?_ (by (try simp) <;> (try omega)) _) | (refine Below.drew ?_) | (refine Below.trans ?_ (Below.mono (by assumption) (by (try simp) <;> (try omega))))))⟩
  case round =>
    obtain ⟨k, av, cv, L, hk, rfl, rfl, hL, hl, hf, hbel⟩ := hrel
    have hz := hbel.size
    have HF := Lib.hid hf.here
    have HBW := Lib.hid hbel
    clear hf
    by_cases hlt : k < ns.length
    · have HSN := Lib.hid (numL_snoc ns k hlt)
      obtain ⟨b1, o1, rfl, hb1, hc1⟩ := (ha.keep hbel).at hlt
      have c1 := hc1 k hlt 0 (by omega)
      simp only [intE, Nat.mul_one, Nat.add_zero, List.getElem?_cons_zero] at c1
      have hin := HN.out ns[k] (List.getElem_mem _)
      obtain ⟨n, hn⟩ : ∃ n : Nat, ns[k] = (n : Int) - 1 := ⟨(ns[k] + 1).toNat, by omega⟩
      have hn40 : n ≤ 1099511627776 := by omega
      have hnn : (ns[k] + 1).toNat = n := by omega
      rw [hnn] at HSN
      rw [hn] at c1
      have E1 : Hid ((n : Int) - 1 + 1 = (n : Int)) := by show _ = _; omega
      clear hc1 hbel hin hn hnn
      go_wp2_with fail
      try rw [E1.out]
      refine (l02Number_c n 3 _ (by omega) (by omega)).mono ?_
      rintro e w2 ⟨v2, rfl, hf2, hb2⟩
      obtain ⟨a2, c2, rfl, hc2, ho2⟩ := id hf2
      have hs2 : Sl byteE 1 w2 a2 (be n 3) := Sl.of_own (fun _ => rfl) ho2
      have hy2 := hb2.size
      have HB2 := Lib.hid hb2
      have HF2 := Lib.hid (HF.out.below hb2)
      have hlb : (be n 3).length ≤ 3 := by rw [be_length]; omega
      clear hb2 hf2 ho2
      generalize hE : be n 3 = E at *
      have HE := Lib.hid hE
      clear hE
      go_wp2_with (first
        | (skip
           at_builtin
           refine wpList_append_fresh rfl (.tmp 12) (.tmp 18) 22 22 rfl (w.heap.size) (wr.heap.size) 5 i0 (.int .u8 0) 1 1 Try.underlying22 hi hz0 hz1 hz2 rfl (by decide) (.slice av L.length cv) (L) rfl (HF2.out) _ (E) rfl (Src.ofSl (enc := byteE) Try.underlying22 (fun _ => rfl) byteOne hs2 _) (by (try simp) <;> (try omega)) (by (try simp) <;> (try omega)) ?_
           intro a3 c3 w3 L3 hL3 hf3 hm3
           skip))
      go_roundw
      case rel =>
        have hl3 := numL_length (ns.take (k + 1))
        have e3 : L3 = numL (ns.take (k + 1)) := by rw [hL3.out, hL.out, HSN.out]
        refine ⟨k + 1, a3, c3, L3, by omega, by go_num, rfl, e3, by rw [e3, hl3, List.length_take]; omega, hf3.1, (HBW.out.trans (HB2.out.mono hz)).trans (hm3.below (Nat.le_refl _) (by omega))⟩
      case measure => simp [intOf]; omega
    · obtain rfl : k = ns.length := by omega
      have e1 : L = numL ns := by rw [hL.out, List.take_length]
      have E1 := Lib.hid e1
      clear hbel e1
      go_wp2_with fail
      go_ret
      rw [← E1.out]
      exact ⟨_, rfl, HF.out.1, HBW.out⟩
theorem l02Fields_c (a : Option Addr) (ca : Nat) (fs : List ByteArray) (w : World) (ha : Sl strE 1 w a fs) (la : fs.length ≤ 4096) (hs : ∀ s ∈ fs, s.size ≤ 1048576) :
    Calls Try.prog 39 #[.slice a fs.length ca] w (FreshR byteE 5 1 w (fldL fs)) := by
  obtain ⟨i0, hi, hz0, hz1, hz2⟩ := info_parts Try.infoByte
  have HS := Lib.hid hs
  clear hs
  go_enter Try.func39, Try.ntmps39
  go_wp2_with fail
  go_loopw [3, 4] (fun v i wr => ∃ (k : Nat) (av : Option Addr) (cv : Nat) (L : List UInt8), k ≤ fs.length ∧ i = .int .i64 k ∧ v = .slice av L.length cv ∧ Hid (L = UInt8.ofNat fs.length :: fldB (fs.take k)) ∧ L.length ≤ 5000000000 ∧ Fresh byteE 5 1 w.heap.size (.slice av L.length cv) L wr ∧ Below w.heap.size w wr) (fun _ i _ => fs.length - (intOf i).toNat)
  case atStart =>
    refine ⟨0, some ⟨w.heap.size, 0, none⟩, 1, [UInt8.ofNat fs.length], Nat.zero_le _, rfl, rfl, rfl, by simp, ⟨_, _, rfl, by simp, ?_⟩, (by repeat (first | exact Below.refl _ _ | (refine Below.alloc ?_ (by (try simp) <;> (try omega)) _) | (refine Below.setCell ?_ (by (try simp) <;> (try omega)) _) | (refine Below.drew ?_) | (refine Below.trans ?_ (Below.mono (by assumption) (by (try simp) <;> (try omega))))))⟩
    refine ⟨by simp [byteE], .inr ⟨w.heap.size, 1, _, rfl, Nat.le_refl _, heap_alloc_new w _, Nat.le_refl _, by unfold maxLen; omega, rfl, ?_⟩⟩
    have hu8 : (fs.length : Int) % 256 = ((UInt8.ofNat fs.length).toNat : Int) := by rw [UInt8.toNat_ofNat']; omega
    simp [byteE, ← hu8]
  case round =>
    obtain ⟨k, av, cv, L, hk, rfl, rfl, hL, hl, hf, hbel⟩ := hrel
    have hz := hbel.size
    have HF := Lib.hid hf.here
    have HBW := Lib.hid hbel
    clear hf
    by_cases hlt : k < fs.length
    · have HSN := Lib.hid (fldB_snoc fs k hlt)
      obtain ⟨b1, o1, rfl, hb0, _⟩ := ha.at hlt
      obtain ⟨b1', o1', he, hb1, hc1⟩ := (ha.keep hbel).at hlt
      cases he
      have c1 := hc1 k hlt 0 (by omega)
      simp only [strE, Nat.mul_one, Nat.add_zero, List.getElem?_cons_zero] at c1
      have hsz := HS.out fs[k] (List.getElem_mem _)
      have hi0 : (0 : Int) ≤ (k : Int) := by omega
      have hi1 : (k : Int) < (fs.length : Int) := by omega
      generalize fs[k] = G at *
      have hdl := sizeData G
      have HDL := Lib.hid hdl
      have hdl' : G.data.toList.length ≤ 1048576 := by omega
      clear hc1 hbel hdl
      go_wp2_with fail
      go_region_held3 (fun w' => w'.cell? ⟨b1, o1 + k, none⟩ = some (.string G))
        (first | go_keep | assumption)
        (first
          | (go_at_call 62
             refine (l02Number_c G.size 2 _ (by omega) (by omega)).mono ?_
             rintro e w2 ⟨v2, rfl, hf2, hb2⟩
             obtain ⟨a2, c2, rfl, hc2, ho2⟩ := id hf2
             have hs2 : Sl byteE 1 w2 a2 (be G.size 2) := Sl.of_own (fun _ => rfl) ho2
             have hy2 := hb2.size
             simp at hy2
             have HB2 := Lib.hid hb2
             have HF2 := Lib.hid (HF.out.drew.below hb2)
             have hlb : (be G.size 2).length ≤ 2 := by rw [be_length]; omega
             have g2 : w2.cell? ⟨b1, o1 + k, none⟩ = some (.string G) := by
               rw [hb2.cell (p := ⟨b1, o1 + k, none⟩) (by show b1 < _; simp; omega)]
               simpa using c1
             clear hb2 hf2 ho2)
          | (have tok1 := HF2
             clear HF2
             refine step_append_fresh (by rfl) (.tmp 15) (.tmp 21) 22 22 (by rfl) w.heap.size wr.heap.size 5 i0 (.int .u8 0) 1 1 Try.underlying22 hi hz0 hz1 hz2 rfl (by decide) (.slice av L.length cv) L (by rfl) tok1.out _ (be G.size 2) (by rfl) (Src.ofSl (enc := byteE) Try.underlying22 (fun _ => rfl) byteOne hs2 _) (by omega) (by omega) ?_
             intro a3 c3 w3 L3 hL3 hf3 hm3
             have hy3 := hm3.size
             have hl3 : L3.length ≤ 5000000002 := by rw [hL3.out, List.length_append]; omega
             have g3 : w3.cell? ⟨b1, o1 + k, none⟩ = some (.string G) := by
               rw [hm3.cell (p := ⟨b1, o1 + k, none⟩) (by show b1 < _; omega) (.inl (by show b1 < _; omega))]
               exact g2)
          | (have tok2 := hf3
             refine step_append_fresh (by rfl) (.tmp 22) (.tmp 26) 22 9 (by rfl) w.heap.size w3.heap.size 5 i0 (.int .u8 0) 1 1 Try.underlying22 hi hz0 hz1 hz2 rfl (by decide) (.slice a3 L3.length c3) L3 (by rfl) tok2 _ G.data.toList (by rfl) (Src.ofStr Try.underlying9 G) (by omega) (by omega) ?_
             intro a4 c4 w4 L4 hL4 hf4 hm4
             have g4 : w4.cell? ⟨b1, o1 + k, none⟩ = some (.string G) := by
               rw [hm4.cell (p := ⟨b1, o1 + k, none⟩) (by show b1 < _; omega) (.inl (by show b1 < _; omega))]
               exact g3))
      go_wp2_with fail
      go_roundw
      case rel =>
        have e4 : L4 = UInt8.ofNat fs.length :: fldB (fs.take (k + 1)) := by
          rw [hL4.out, hL3.out, hL.out, HSN.out]
          simp [fieldL]
        have hle := fldB_le (fs.take (k + 1)) 1048576 (fun s hs => HS.out s (List.mem_of_mem_take hs))
        refine ⟨k + 1, a4, c4, L4, by omega, by go_num, rfl, e4, ?_, hf4.1, ?_⟩
        · rw [e4]
          simp only [List.length_cons, List.length_take] at hle ⊢
          have : min (k + 1) fs.length * (2 + 1048576) ≤ 4096 * (2 + 1048576) := Nat.mul_le_mul_right _ (by omega)
          omega
        · exact (((HBW.out.drew).trans (HB2.out.mono (by simp; omega))).trans (hm3.below (Nat.le_refl _) (by omega))).trans (hm4.below (Nat.le_refl _) (by omega))
      case measure => simp [intOf]; omega
    · obtain rfl : k = fs.length := by omega
      have e1 : L = fldL fs := by rw [hL.out, List.take_length]; rfl
      have E1 := Lib.hid e1
      clear hbel e1
      go_wp2_with fail
      go_ret
      rw [← E1.out]
      exact ⟨_, rfl, HF.out.1, HBW.out⟩
end
section
open Go.RowKit
theorem extract_takeN (l : List UInt8) (n : Nat) : (strOf l).extract 0 n = strOf (l.take n) := by
  apply ByteArray.ext
  apply Array.toList_inj.1
  rw [Lib.extract_data]
  rfl
theorem extract_drop (l : List UInt8) (n : Nat) : (strOf l).extract n (strOf l).size = strOf (l.drop n) := by
  apply ByteArray.ext
  apply Array.toList_inj.1
  rw [Lib.extract_data, List.take_of_length_le (by rw [List.length_drop]; exact Nat.le_refl _)]
  rfl
theorem strOf_toL (l : List UInt8) : (strOf l).toList = l := Lib.toList_data _
def lenOf : Value → Nat
  | .string s => s.size
  | _ => 0
theorem strOneC : ∀ (x : ByteArray), ∀ u ∈ strE x, u.oneCell' = true := fun x u hu => by simp [strE] at hu; subst hu; rfl
end
section
open Go.RowKit
theorem Sl.sub {α : Type} {enc : α → List Value} {sz : Nat} {w : World} {b off : Nat} {xs : List α} (h : Sl enc sz w (some ⟨b, off, none⟩) xs) (k j : Nat) (hk : k < xs.length) : Sl enc sz w (some ⟨b, off + k * sz, none⟩) ((xs.drop k).take j) := by
  obtain ⟨b', off', he, hb, hc⟩ := h.at hk
  cases he
  refine .inr ⟨b, off + k * sz, rfl, hb, fun i hi j' hj => ?_⟩
  have hi' : i < j ∧ i < xs.length - k := by simp at hi; omega
  have := hc (k + i) (by omega) j' hj
  rw [show off + k * sz + i * sz + j' = off + (k + i) * sz + j' by rw [Nat.add_mul]; omega, this]
  simp
end
section
open Go.RowKit
def rdF : Nat → List UInt8 → Option (List ByteArray)
  | 0, l => if l = [] then some [] else none
  | n + 1, l => if l.length < 2 then none else if 20000 < bn (l.take 2) then none else if l.length < 2 + bn (l.take 2) then none
    else (rdF n (l.drop (2 + bn (l.take 2)))).map (strOf ((l.drop 2).take (bn (l.take 2))) :: ·)
def rdAll : List UInt8 → Option (List ByteArray)
  | [] => none
  | c :: r => if 60 < c.toNat then none else rdF c.toNat r
def ReadR (o : Option (List ByteArray)) (w : World) (e : Ending) (w' : World) : Prop :=
  ∃ a c L, e = .returned (.tuple #[.slice a L.length c, .bool o.isSome]) ∧ Fresh strE 9 1 w.heap.size (.slice a L.length c) L w' ∧ (∀ L', o = some L' → L = L') ∧ Below w.heap.size w w'
theorem extract_mid (l : List UInt8) (i m : Nat) : (strOf l).extract i (i + m) = strOf ((l.drop i).take m) := by
  apply ByteArray.ext
  apply Array.toList_inj.1
  rw [Lib.extract_data, Nat.add_sub_cancel_left]
  rfl
theorem rdF_succ {n : Nat} {l : List UInt8} (h1 : 2 ≤ l.length) (h2 : bn (l.take 2) ≤ 20000) (h3 : 2 + bn (l.take 2) ≤ l.length) : rdF (n + 1) l = (rdF n (l.drop (2 + bn (l.take 2)))).map (strOf ((l.drop 2).take (bn (l.take 2))) :: ·) := by
  rw [rdF, if_neg (by omega), if_neg (by omega), if_neg (by omega)]
theorem rdF_short {n : Nat} {l : List UInt8} (h1 : l.length < 2) : rdF (n + 1) l = none := by rw [rdF, if_pos h1]
theorem rdF_big {n : Nat} {l : List UInt8} (h1 : 2 ≤ l.length) (h : 20000 < bn (l.take 2)) : rdF (n + 1) l = none := by rw [rdF, if_neg (by omega), if_pos h]
theorem rdF_cut {n : Nat} {l : List UInt8} (h1 : 2 ≤ l.length) (h : l.length < 2 + bn (l.take 2)) : rdF (n + 1) l = none := by
  rw [rdF, if_neg (by omega)]
  split
  · rfl
  · rfl
theorem ReadR.none {w w' : World} {o : Option (List ByteArray)} (ho : o = none) (hb : Below w.heap.size w w') : ReadR o w (.returned (.tuple #[.slice none 0 0, .bool false])) w' := by
  subst ho
  exact ⟨Option.none, 0, [], rfl, (FreshIn.nil _ _ _ _ 0 _).1, (fun _ h => by cases h), hb⟩
theorem readFields_c (l0 : List UInt8) (w : World) (hs : l0.length ≤ 65536) :
    Calls Try.prog 43 #[.string (strOf l0)] w (ReadR (rdAll l0) w) := by
  obtain ⟨i0, hi, hz0, hz1, hz2⟩ := info_parts Try.infoString
  have hss : (strOf l0).size ≤ 65536 := hs
  cases l0 with
  | nil =>
    have e1 : (strOf ([] : List UInt8)).toList = [] := strOf_toL _
    go_enter Try.func43, Try.ntmps43
    go_wp2_with fail
    go_ret2
    exact ReadR.none rfl (Below.refl _ _)
  | cons c r =>
    have e1 : ((strOf (c :: r)).toList == []) = false := by rw [strOf_toL]; rfl
    have hsz0 : 0 < (strOf (c :: r)).size := by rw [strOf_size]; simp
    have hc0 : ((strOf (c :: r))[0]'hsz0).toNat = c.toNat := rfl
    have hex : (strOf (c :: r)).extract 1 (strOf (c :: r)).size = strOf r := by rw [extract_drop]; rfl
    have HEX := Lib.hid hex
    have hrl : r.length ≤ 65536 := by simp at hs; omega
    by_cases h60 : 60 < c.toNat
    · have hro : rdAll (c :: r) = none := by rw [rdAll, if_pos h60]
      have HRO := Lib.hid hro
      have h60' : (60 : Int) < (c.toNat : Int) := by omega
      clear hro hex
      generalize strOf (c :: r) = S at *
      go_enter Try.func43, Try.ntmps43
      go_wp2_with fail
      go_ret2
      exact ReadR.none HRO.out (Below.refl _ _)
    · have hro : rdAll (c :: r) = rdF c.toNat r := by rw [rdAll, if_neg h60]
      have HRO := Lib.hid hro
      have h60' : (c.toNat : Int) ≤ 60 := by omega
      have h65 : (((strOf (c :: r)).size : Nat) : Int) ≤ 65536 := by omega
      rw [hro]
      clear hro hex h60 hs
      generalize strOf (c :: r) = S at *
      generalize hcn : c.toNat = cn at *
      have HCN := Lib.hid hcn
      clear hcn
      go_enter Try.func43, Try.ntmps43
      go_wp2_with fail
      go_loopw [4, 5, 23] (fun v s i wr => ∃ (j n : Nat) (l : List UInt8) (av : Option Addr) (cv : Nat) (L : List ByteArray), Hid (j + n = cn) ∧ j ≤ cn ∧ l.length ≤ 65536 ∧ L.length ≤ j ∧ i = .int .u8 j ∧ s = .string (strOf l) ∧ v = .slice av L.length cv ∧ Hid ((rdF n l).map (L ++ ·) = rdF cn r) ∧ Fresh strE 9 1 w.heap.size (.slice av L.length cv) L wr ∧ Below w.heap.size w wr) (fun _ _ i _ => cn - (intOf i).toNat)
      case atStart => exact ⟨0, cn, r, none, 0, [], by show _ = _; omega, by omega, hrl, by simp, rfl, by rw [HEX.out], rfl, by show _ = _; simp, (FreshIn.nil _ _ _ _ 0 _).1, Below.refl _ _⟩
      case round =>
        obtain ⟨j, n, l, av, cv, L, hjn, hj, hl, hLj, rfl, rfl, rfl, hT, hf, hbel⟩ := hrel
        have HF := Lib.hid hf.here
        have HBW := Lib.hid hbel
        have hz := hbel.size
        have hsl : (strOf l).size ≤ 65536 := hl
        have HSL : Hid ((strOf l).size = l.length) := rfl
        clear hf hbel
        by_cases hjc : j < cn
        · obtain ⟨m, rfl⟩ : ∃ m, n = m + 1 := ⟨n - 1, by have := hjn.out; omega⟩
          by_cases g1 : l.length < 2
          · have g1' : (strOf l).size < 2 := g1
            have hr : rdF cn r = none := by rw [← hT.out, rdF_short g1]; rfl
            have HR := Lib.hid hr
            clear hr
            go_wp2_with fail
            go_ret2
            exact ReadR.none HR.out HBW.out
          · have g1' : 2 ≤ (strOf l).size := by rw [HSL.out]; omega
            have hb2 : bn (l.take 2) < 65536 := Nat.lt_of_lt_of_le (bn_lt _) (by
              have : (l.take 2).length ≤ 2 := by simp; omega
              exact Nat.le_trans (Nat.pow_le_pow_right (by omega) this) (by decide))
            have hx2 : ((strOf l).extract 0 2).size ≤ 5 := by rw [extract_takeN, strOf_size]; simp; omega
            go_wp2_with fail
            refine (bigNumber_c ((strOf l).extract 0 2) _ hx2).mono ?_
            rw [extract_takeN, strOf_toList]
            rintro e w2 ⟨rfl, rfl⟩
            have HA := fun h => Lib.hid (rdF_succ (n := m) (l := l) (by omega) h)
            have HB := fun h => Lib.hid (rdF_big (n := m) (l := l) (by omega) h)
            have HC := fun h => Lib.hid (rdF_cut (n := m) (l := l) (by omega) h)
            generalize bn (l.take 2) = B at *
            by_cases g2 : 20000 < B
            · have hr : rdF cn r = none := by rw [← hT.out, (HB g2).out]; rfl
              have HR := Lib.hid hr
              clear hr HA HB HC
              go_wp2_with fail
              go_ret2
              exact ReadR.none HR.out HBW.out
            · by_cases g3 : l.length < 2 + B
              · have g3' : (strOf l).size < 2 + B := g3
                have hr : rdF cn r = none := by rw [← hT.out, (HC g3).out]; rfl
                have HR := Lib.hid hr
                clear hr HA HB HC
                go_wp2_with fail
                go_ret2
                exact ReadR.none HR.out HBW.out
              · have g3' : 2 + B ≤ (strOf l).size := by rw [HSL.out]; omega
                have HA2 := Lib.hid ((HA (by omega)).out (by omega))
                have hxm : (strOf l).extract 2 (2 + B) = strOf ((l.drop 2).take B) := extract_mid l 2 B
                have hxd : (strOf l).extract (2 + B) (strOf l).size = strOf (l.drop (2 + B)) := extract_drop l (2 + B)
                have HXD := Lib.hid hxd
                have HXM := Lib.hid hxm
                clear hxm hxd HA HB HC
                go_wp2_with (first
                  | (skip
                     at_builtin
                     refine wpList_append_fresh rfl (.tmp 40) (.tmp 45) 24 24 rfl (w.heap.size) (wr.heap.size) 9 i0 (.string ⟨#[]⟩) 1 16 Try.underlying24 hi hz0 hz1 hz2 rfl (by decide) (.slice av L.length cv) (L) rfl (HF.out.alloc _) _ ([(strOf l).extract 2 (2 + B)]) rfl (Src.ofBox (enc := strE) (w := wr) Try.underlying24 (fun _ => rfl) strOneC ((strOf l).extract 2 (2 + B)) #[.string ((strOf l).extract 2 (2 + B))] 9 rfl wr.heap.size rfl) (by (try simp) <;> (try omega)) (by (try simp) <;> (try omega)) ?_
                     intro a2 c2 w2 L2 hL2 hf2 hm2
                     skip))
                go_roundw
                case rel =>
                  refine ⟨j + 1, m, l.drop (2 + B), a2, c2, L2, by show _ = _; have := hjn.out; omega, by omega, by simp; omega, by rw [hL2.out]; simp; omega, by go_num, by rw [← HXD.out], rfl, ?_, hf2.1, ?_⟩
                  · show _ = _
                    rw [← hT.out, HA2.out, hL2.out, HXM.out, Option.map_map]
                    congr 1
                    funext x
                    simp
                  · exact (HBW.out.alloc hz _).trans (hm2.below (Nat.le_refl _) (by simp; omega))
                case measure => simp [intOf]; omega
        · obtain rfl : n = 0 := by have := hjn.out; omega
          obtain rfl : j = cn := by have := hjn.out; omega
          by_cases hnil : l = []
          · have e2 : ((strOf l).toList == []) = true := by rw [strOf_toL, hnil]; rfl
            have e3 : (strOf l).toList = [] := by rw [strOf_toL, hnil]
            have hr : rdF j r = some L := by rw [← hT.out, rdF, if_pos hnil]; simp
            have HR := Lib.hid hr
            clear hr hnil
            go_wp2_with fail
            go_ret2
            rw [HR.out]
            exact ⟨_, _, L, rfl, HF.out.1, (fun L' h => by cases h; rfl), HBW.out⟩
          · have e2 : ((strOf l).toList == []) = false := by rw [strOf_toL]; simpa using hnil
            have hr : rdF j r = none := by rw [← hT.out, rdF, if_neg hnil]; rfl
            have HR := Lib.hid hr
            clear hr hnil
            go_wp2_with fail
            go_ret2
            rw [HR.out]
            exact ⟨_, _, L, rfl, HF.out.1, (fun L' h => by cases h), HBW.out⟩
end
section
open Go.RowKit
def ReadS (o : Option (List ByteArray)) (w : World) (e : Ending) (w' : World) : Prop :=
  ∃ a c L, e = .returned (.tuple #[.slice a L.length c, .bool o.isSome]) ∧ Fresh strE 9 1 w.heap.size (.slice a L.length c) L w' ∧ (∀ L', o = some L' → L = L') ∧ Below w.heap.size w w'
theorem fresh_made (w : World) (B : Nat) (hB : B ≤ w.heap.size) : Fresh strE 9 1 B (.slice (some ⟨w.heap.size, 0, none⟩) 0 0) [] (w.alloc (.cells #[] 9)) :=
  Fresh.of_own (World.ownsRow_made (base := B) w #[] 0 hB (by decide) rfl) rfl rfl
theorem ReadS.none {w w' : World} {o : Option (List ByteArray)} (ho : o = none) (hb : Below w.heap.size w w') : ReadS o w (.returned (.tuple #[.slice (some ⟨w'.heap.size, 0, Option.none⟩) 0 0, .bool false])) (w'.alloc (.cells #[] 9)) := by
  subst ho
  exact ⟨some ⟨w'.heap.size, 0, Option.none⟩, 0, [], rfl, fresh_made w' _ hb.size, (fun _ h => by cases h), hb.alloc hb.size _⟩
theorem l02Read_c (l0 : List UInt8) (w : World) (hs : l0.length ≤ 1048576) :
    Calls Try.prog 46 #[.string (strOf l0)] w (ReadS (rdAll l0) w) := by
  obtain ⟨i0, hi, hz0, hz1, hz2⟩ := info_parts Try.infoString
  have hss : (strOf l0).size ≤ 1048576 := hs
  cases l0 with
  | nil =>
    have e1 : (strOf ([] : List UInt8)).toList = [] := strOf_toL _
    go_enter Try.func46, Try.ntmps46
    go_wp2_with fail
    go_ret2
    exact ReadS.none rfl (Below.refl _ _)
  | cons c r =>
    have e1 : ((strOf (c :: r)).toList == []) = false := by rw [strOf_toL]; rfl
    have hsz0 : 0 < (strOf (c :: r)).size := by rw [strOf_size]; simp
    have hc0 : ((strOf (c :: r))[0]'hsz0).toNat = c.toNat := rfl
    have hsz1 : (strOf (c :: r)).size = r.length + 1 := by rw [strOf_size]; simp
    have HSZ := Lib.hid hsz1
    have hex := fun k m => extract_mid (c :: r) (1 + k) m
    have HEX := Lib.hid hex
    have hrl : r.length ≤ 1048576 := by simp at hs; omega
    by_cases h60 : 60 < c.toNat
    · have hro : rdAll (c :: r) = none := by rw [rdAll, if_pos h60]
      have HRO := Lib.hid hro
      have h60' : (60 : Int) < (c.toNat : Int) := by omega
      clear hro hex hsz1
      generalize strOf (c :: r) = S at *
      go_enter Try.func46, Try.ntmps46
      go_wp2_with fail
      go_ret2
      exact ReadS.none HRO.out (Below.refl _ _)
    · have hro : rdAll (c :: r) = rdF c.toNat r := by rw [rdAll, if_neg h60]
      have HRO := Lib.hid hro
      have h60' : (c.toNat : Int) ≤ 60 := by omega
      have hsl1 : (strOf (c :: r)).size ≤ r.length + 1 := by omega
      have hsl2 : r.length + 1 ≤ (strOf (c :: r)).size := by omega
      rw [hro]
      clear hro hex h60 hs hsz1
      have HDR : Hid (∀ k, (c :: r).drop (1 + k) = r.drop k) := fun k => by rw [Nat.add_comm, List.drop_succ_cons]
      generalize strOf (c :: r) = S at *
      generalize hcn : c.toNat = cn at *
      have HCN := Lib.hid hcn
      clear hcn
      go_enter Try.func46, Try.ntmps46
      go_wp2_with fail
      go_loopw [4, 5, 6] (fun v p i wr => ∃ (n k : Nat) (av : Option Addr) (cv : Nat) (L : List ByteArray), n ≤ cn ∧ k ≤ r.length ∧ Hid (L.length + n = cn) ∧ i = .int .i64 n ∧ p = .int .i64 ((1 + k : Nat)) ∧ v = .slice av L.length cv ∧ Hid ((rdF n (r.drop k)).map (L ++ ·) = rdF cn r) ∧ Fresh strE 9 1 w.heap.size (.slice av L.length cv) L wr ∧ Below w.heap.size w wr) (fun _ _ i _ => (intOf i).toNat)
      case atStart => exact ⟨cn, 0, _, _, [], by omega, by omega, by show _ = _; simp, rfl, rfl, rfl, by show _ = _; simp, fresh_made w _ (Nat.le_refl _), (by repeat (first | exact Below.refl _ _ | (refine Below.alloc ?_ (by (try simp) <;> (try omega)) _) | (refine Below.setCell ?_ (by (try simp) <;> (try omega)) _) | (refine Below.drew ?_) | (refine Below.trans ?_ (Below.mono (by assumption) (by (try simp) <;> (try omega))))))⟩
      case round =>
        obtain ⟨n, k, av, cv, L, hn, hk, hLn, rfl, rfl, rfl, hT, hf, hbel⟩ := hrel
        have HF := Lib.hid hf.here
        have HBW := Lib.hid hbel
        have hz := hbel.size
        have hLl : L.length ≤ cn := by have := hLn.out; omega
        have hcn60 : cn ≤ 60 := by omega
        have hdl : (r.drop k).length = r.length - k := by simp
        have HDL := Lib.hid hdl
        clear hf hbel hdl
        by_cases hn0 : 0 < n
        · obtain ⟨m, rfl⟩ : ∃ m, n = m + 1 := ⟨n - 1, by omega⟩
          by_cases g1 : r.length < k + 2
          · have hr : rdF cn r = none := by rw [← hT.out, rdF_short (by rw [HDL.out]; omega)]; rfl
            have HR := Lib.hid hr
            clear hr
            go_wp2_with fail
            go_ret2
            exact ReadS.none HR.out HBW.out
          · have hb2 : bn ((r.drop k).take 2) < 65536 := Nat.lt_of_lt_of_le (bn_lt _) (by
              have : ((r.drop k).take 2).length ≤ 2 := by simp; omega
              exact Nat.le_trans (Nat.pow_le_pow_right (by omega) this) (by decide))
            have hx2 : (S.extract (1 + k) (1 + k + 2)).size ≤ 5 := by rw [HEX.out, strOf_size, HDR.out]; simp; omega
            go_wp2_with fail
            refine (l02Of_c (S.extract (1 + k) (1 + k + 2)) _ hx2).mono ?_
            rw [HEX.out, strOf_toList, HDR.out]
            rintro e w2 ⟨rfl, rfl⟩
            have hle : 2 ≤ (r.drop k).length := by rw [HDL.out]; omega
            have HA := fun h => Lib.hid (rdF_succ (n := m) (l := r.drop k) hle h)
            have HB := fun h => Lib.hid (rdF_big (n := m) (l := r.drop k) hle h)
            have HC := fun h => Lib.hid (rdF_cut (n := m) (l := r.drop k) hle h)
            generalize bn ((r.drop k).take 2) = B at *
            clear hle
            by_cases g2 : 20000 < B
            · have hr : rdF cn r = none := by rw [← hT.out, (HB g2).out]; rfl
              have HR := Lib.hid hr
              clear hr HA HB HC
              go_wp2_with fail
              go_ret2
              exact ReadS.none HR.out HBW.out
            · by_cases g3 : r.length < k + 2 + B
              · have hr : rdF cn r = none := by rw [← hT.out, (HC (by rw [HDL.out]; omega)).out]; rfl
                have HR := Lib.hid hr
                clear hr HA HB HC
                go_wp2_with fail
                go_ret2
                exact ReadS.none HR.out HBW.out
              · have HA2 := Lib.hid ((HA (by omega)).out (by rw [HDL.out]; omega))
                clear HA HB HC
                go_wp2_with (first
                  | (skip
                     at_builtin
                     refine wpList_append_fresh rfl (.tmp 48) (.tmp 57) 24 24 rfl (w.heap.size) (wr.heap.size) 9 i0 (.string ⟨#[]⟩) 1 16 Try.underlying24 hi hz0 hz1 hz2 rfl (by decide) (.slice av L.length cv) (L) rfl (HF.out.alloc _) _ ([S.extract (1 + k + 2) (1 + k + 2 + B)]) rfl (Src.ofBox (enc := strE) (w := wr) Try.underlying24 (fun _ => rfl) strOneC (S.extract (1 + k + 2) (1 + k + 2 + B)) #[.string (S.extract (1 + k + 2) (1 + k + 2 + B))] 9 rfl wr.heap.size rfl) (by (try simp) <;> (try omega)) (by (try simp) <;> (try omega)) ?_
                     intro a2 c2 w2 L2 hL2 hf2 hm2
                     skip))
                go_roundw
                case rel =>
                  refine ⟨m, k + (2 + B), a2, c2, L2, by omega, by omega, by show _ = _; rw [hL2.out]; have := hLn.out; simp; omega, by go_num, by go_num, rfl, ?_, hf2.1, ?_⟩
                  · show _ = _
                    rw [← hT.out, HA2.out, hL2.out, Option.map_map, List.drop_drop, show 1 + k + 2 = 1 + (k + 2) by omega, HEX.out, HDR.out, List.drop_drop]
                    congr 1
                    funext x
                    simp
                  · exact (HBW.out.alloc hz _).trans (hm2.below (Nat.le_refl _) (by simp; omega))
                case measure => simp [intOf]
        · obtain rfl : n = 0 := by omega
          by_cases hkr : k = r.length
          · have hr : rdF cn r = some L := by rw [← hT.out, rdF, if_pos (by rw [hkr, List.drop_length])]; simp
            have HR := Lib.hid hr
            have g4 : ((1 + k : Nat) : Int) = (S.size : Int) := by omega
            have G4 : (((1 : Int) + (k : Int)) != (S.size : Int)) = false := by simp; omega
            clear hr g4
            have HKR := Lib.hid hkr
            clear hkr
            go_wp2_with fail
            go_ret2
            rw [HR.out]
            exact ⟨_, _, L, rfl, HF.out.1, (fun L' h => by cases h; rfl), HBW.out⟩
          · have hr : rdF cn r = none := by
              rw [← hT.out, rdF, if_neg (by intro h; have := congrArg List.length h; simp at this; omega)]; rfl
            have HR := Lib.hid hr
            have G4 : (((1 : Int) + (k : Int)) != (S.size : Int)) = true := by simp; omega
            clear hr
            go_wp2_with fail
            go_ret2
            exact ReadS.none HR.out HBW.out
end
section
open Go.RowKit
def rnF : Nat → List UInt8 → List Int
  | 0, _ => []
  | n + 1, l => ((bn (l.take 3) : Int) - 1) :: rnF n (l.drop 3)
theorem rnF_length : ∀ (n : Nat) (l : List UInt8), (rnF n l).length = n
  | 0, _ => rfl
  | n + 1, l => by simp [rnF, rnF_length n]
def IntsR (L : List Int) (w : World) (e : Ending) (w' : World) : Prop :=
  ∃ a c, e = .returned (.slice a L.length c) ∧ Fresh intE 3 1 w.heap.size (.slice a L.length c) L w' ∧ Below w.heap.size w w'
theorem bn3 (l : List UInt8) : bn (l.take 3) < 16777216 := Nat.lt_of_lt_of_le (bn_lt _) (by
  have : (l.take 3).length ≤ 3 := by simp; omega
  exact Nat.le_trans (Nat.pow_le_pow_right (by omega) this) (by decide))
theorem readNumbers_c (l0 : List UInt8) (N : Nat) (w : World) (hN : l0.length = 3 * N) (hs : N ≤ 1048576) :
    Calls Try.prog 64 #[.string (strOf l0)] w (IntsR (rnF N l0) w) := by
  obtain ⟨i0, hi, hz0, hz1, hz2⟩ := info_parts Try.infoInt
  go_enter Try.func64, Try.ntmps64
  go_wp2_with fail
  go_loopw [0, 3] (fun s v wr => ∃ (n : Nat) (l : List UInt8) (av : Option Addr) (cv : Nat) (L : List Int), n ≤ N ∧ Hid (l.length = 3 * n) ∧ Hid (L.length + n = N) ∧ s = .string (strOf l) ∧ v = .slice av L.length cv ∧ Hid (L ++ rnF n l = rnF N l0) ∧ Fresh intE 3 1 w.heap.size (.slice av L.length cv) L wr ∧ Below w.heap.size w wr) (fun s _ _ => lenOf s)
  case atStart => exact ⟨N, l0, none, 0, [], Nat.le_refl _, hN, by show _ = _; simp, rfl, rfl, rfl, (FreshIn.nil _ _ _ _ 0 _).1, Below.refl _ _⟩
  case round =>
    obtain ⟨n, l, av, cv, L, hn, hl, hLn, rfl, rfl, hT, hf, hbel⟩ := hrel
    have HF := Lib.hid hf.here
    have HBW := Lib.hid hbel
    have hz := hbel.size
    have hLl : L.length ≤ N := by have := hLn.out; omega
    have hsl : (strOf l).size ≤ 3145728 := by rw [strOf_size]; have := hl.out; omega
    clear hf hbel
    by_cases hn0 : 0 < n
    · obtain ⟨m, rfl⟩ : ∃ m, n = m + 1 := ⟨n - 1, by omega⟩
      have g1 : 3 ≤ (strOf l).size := by rw [strOf_size]; have := hl.out; omega
      have hb3 := bn3 l
      have hx3 : ((strOf l).extract 0 3).size ≤ 5 := by rw [extract_takeN, strOf_size]; simp; omega
      go_wp2_with fail
      refine (bigNumber_c ((strOf l).extract 0 3) _ hx3).mono ?_
      rw [extract_takeN, strOf_toList]
      rintro e w2 ⟨rfl, rfl⟩
      have HA : Hid (rnF (m + 1) l = ((bn (l.take 3) : Int) - 1) :: rnF m (l.drop 3)) := rfl
      have hxd : (strOf l).extract 3 (strOf l).size = strOf (l.drop 3) := extract_drop l 3
      have HXD := Lib.hid hxd
      generalize bn (l.take 3) = B at *
      clear hxd
      go_wp2_with (first
        | (skip
           at_builtin
           refine wpList_append_fresh rfl (.tmp 9) (.tmp 14) 48 48 rfl (w.heap.size) (wr.heap.size) 3 i0 (.int .i64 0) 1 8 Try.underlying48 hi hz0 hz1 hz2 rfl (by decide) (.slice av L.length cv) (L) rfl (HF.out.alloc _) _ ([(B : Int) - 1]) rfl (Src.ofBox (enc := intE) (w := wr) Try.underlying48 (fun _ => rfl) intOneC ((B : Int) - 1) #[.int .i64 ((B : Int) - 1)] 3 rfl wr.heap.size rfl) (by (try simp) <;> (try omega)) (by (try simp) <;> (try omega)) ?_
           intro a2 c2 w2 L2 hL2 hf2 hm2
           skip))
      go_roundw
      case rel =>
        refine ⟨m, l.drop 3, a2, c2, L2, by omega, by show _ = _; have := hl.out; simp; omega, by show _ = _; rw [hL2.out]; have := hLn.out; simp; omega, by rw [← HXD.out], rfl, ?_, hf2.1, ?_⟩
        · show _ = _
          rw [hL2.out, ← hT.out, HA.out, List.append_assoc]
          rfl
        · exact (HBW.out.alloc hz _).trans (hm2.below (Nat.le_refl _) (by simp; omega))
      case measure => simp [lenOf, strOf_size]; have := hl.out; omega
    · obtain rfl : n = 0 := by omega
      have g1 : (strOf l).size < 3 := by rw [strOf_size]; have := hl.out; omega
      have e1 : L = rnF N l0 := by rw [← hT.out]; simp [rnF]
      have E1 := Lib.hid e1
      clear e1
      go_wp2_with fail
      go_ret
      rw [← E1.out]
      exact ⟨_, _, rfl, HF.out.1, HBW.out⟩
def NumsR (o : Option (List Int)) (w : World) (e : Ending) (w' : World) : Prop :=
  ∃ a c L, e = .returned (.tuple #[.slice a L.length c, .bool o.isSome]) ∧ Fresh intE 3 1 w.heap.size (.slice a L.length c) L w' ∧ (∀ L', o = some L' → L = L') ∧ Below w.heap.size w w'
def someN (l : List UInt8) (c : Nat) : Option (List Int) := if l.length = 3 * c then some (rnF c l) else none
theorem someNumbers_c (l : List UInt8) (c : Nat) (w : World) (hl : l.length ≤ 3145728) (hc : c ≤ 1048576) :
    Calls Try.prog 44 #[.string (strOf l), .int .i64 c] w (NumsR (someN l c) w) := by
  have hsz : (strOf l).size = l.length := rfl
  by_cases h : l.length = 3 * c
  · have hv : someN l c = some (rnF c l) := by rw [someN, if_pos h]
    rw [hv]
    have H := Lib.hid h
    have hg : (((strOf l).size : Int) != 3 * (c : Int)) = false := by simp; omega
    clear hv hsz h
    go_enter Try.func44, Try.ntmps44
    go_wp2_with fail
    refine (readNumbers_c l c _ H.out hc).mono ?_
    rintro e w1 ⟨a, c1, rfl, hf, hb⟩
    go_wp2_with fail
    go_ret2
    exact ⟨_, _, rnF c l, rfl, hf, (fun L' h => by cases h; rfl), hb⟩
  · have hv : someN l c = none := by rw [someN, if_neg h]
    rw [hv]
    have hg : (((strOf l).size : Int) != 3 * (c : Int)) = true := by simp; omega
    clear hv hsz h
    go_enter Try.func44, Try.ntmps44
    go_wp2_with fail
    go_ret2
    exact ⟨none, 0, [], rfl, (FreshIn.nil _ _ _ _ 0 _).1, (fun L' h => by cases h), Below.refl _ _⟩
def allN (l : List UInt8) : Option (List Int) := if l.length % 3 = 0 then some (rnF (l.length / 3) l) else none
theorem rnF_step (N : Nat) : ∀ (l : List UInt8) (k : Nat), rnF (N + 1) (l.drop (3 * k)) = ((bn ((l.drop (3 * k)).take 3) : Int) - 1) :: rnF N (l.drop (3 * (k + 1))) := fun l k => by
  show _ :: rnF N ((l.drop (3 * k)).drop 3) = _
  rw [List.drop_drop, show 3 * k + 3 = 3 * (k + 1) by omega]
theorem l02ReadNumbers_c (l0 : List UInt8) (w : World) (hs : l0.length ≤ 1048576) :
    Calls Try.prog 47 #[.string (strOf l0)] w (NumsR (allN l0) w) := by
  obtain ⟨i0, hi, hz0, hz1, hz2⟩ := info_parts Try.infoInt
  have hsz : (strOf l0).size = l0.length := rfl
  have hss : (strOf l0).size ≤ 1048576 := hs
  by_cases h : l0.length % 3 = 0
  · obtain ⟨N, hN⟩ : ∃ N, l0.length = 3 * N := ⟨l0.length / 3, by omega⟩
    have hv : allN l0 = some (rnF N l0) := by rw [allN, if_pos h, show l0.length / 3 = N by omega]
    rw [hv]
    have hg : ((((strOf l0).size : Nat) : Int) % 3 != 0) = false := by simp; omega
    have hs1 : (strOf l0).size ≤ 3 * N := by omega
    have hs2 : 3 * N ≤ (strOf l0).size := by omega
    have HEX := Lib.hid (fun k => extract_mid l0 (3 * k) 3)
    clear hv hsz h hN
    generalize hS : strOf l0 = S at *
    clear hS
    go_enter Try.func47, Try.ntmps47
    go_wp2_with fail
    go_loopw [4, 5] (fun v i wr => ∃ (k : Nat) (av : Option Addr) (cv : Nat) (L : List Int), k ≤ N ∧ L.length ≤ k ∧ i = .int .i64 ((3 * k : Nat)) ∧ v = .slice av L.length cv ∧ Hid (L ++ rnF (N - k) (l0.drop (3 * k)) = rnF N l0) ∧ Fresh intE 3 1 w.heap.size (.slice av L.length cv) L wr ∧ Below w.heap.size w wr) (fun _ i _ => S.size - (intOf i).toNat)
    case atStart => exact ⟨0, _, _, [], Nat.zero_le _, by simp, rfl, rfl, rfl, Fresh.of_own (World.ownsRow_made (base := w.heap.size) w #[] 0 (Nat.le_refl _) (by decide) rfl) rfl rfl, (by repeat (first | exact Below.refl _ _ | (refine Below.alloc ?_ (by (try simp) <;> (try omega)) _) | (refine Below.setCell ?_ (by (try simp) <;> (try omega)) _) | (refine Below.drew ?_) | (refine Below.trans ?_ (Below.mono (by assumption) (by (try simp) <;> (try omega))))))⟩
    case round =>
      obtain ⟨k, av, cv, L, hk, hLk, rfl, rfl, hT, hf, hbel⟩ := hrel
      have HF := Lib.hid hf.here
      have HBW := Lib.hid hbel
      have hz := hbel.size
      clear hf hbel
      by_cases hlt : k < N
      · have hb3 := bn3 (l0.drop (3 * k))
        have hx3 : (S.extract (3 * k) (3 * k + 3)).size ≤ 5 := by rw [HEX.out, strOf_size]; simp; omega
        go_wp2_with fail
        refine (l02Of_c (S.extract (3 * k) (3 * k + 3)) _ hx3).mono ?_
        rw [HEX.out, strOf_toList]
        rintro e w2 ⟨rfl, rfl⟩
        have HA := Lib.hid (rnF_step (N - (k + 1)) l0 k)
        generalize bn ((l0.drop (3 * k)).take 3) = B at *
        go_wp2_with (first
          | (skip
             at_builtin
             refine wpList_append_fresh rfl (.tmp 18) (.tmp 26) 48 48 rfl (w.heap.size) (wr.heap.size) 3 i0 (.int .i64 0) 1 8 Try.underlying48 hi hz0 hz1 hz2 rfl (by decide) (.slice av L.length cv) (L) rfl (HF.out.alloc _) _ ([(B : Int) - 1]) rfl (Src.ofBox (enc := intE) (w := wr) Try.underlying48 (fun _ => rfl) intOneC ((B : Int) - 1) #[.int .i64 ((B : Int) - 1)] 3 rfl wr.heap.size rfl) (by (try simp) <;> (try omega)) (by (try simp) <;> (try omega)) ?_
             intro a2 c2 w2 L2 hL2 hf2 hm2
             skip))
        go_roundw
        case rel =>
          refine ⟨k + 1, a2, c2, L2, by omega, by rw [hL2.out]; simp; omega, by go_num, rfl, ?_, hf2.1, ?_⟩
          · show _ = _
            rw [hL2.out, ← hT.out, show N - k = N - (k + 1) + 1 by omega, HA.out, List.append_assoc]
            rfl
          · exact (HBW.out.alloc hz _).trans (hm2.below (Nat.le_refl _) (by simp; omega))
        case measure => simp [intOf]; omega
      · obtain rfl : k = N := by omega
        have e1 : L = rnF k l0 := by rw [← hT.out, Nat.sub_self]; simp [rnF]
        have E1 := Lib.hid e1
        clear e1
        go_wp2_with fail
        go_ret2
        rw [← E1.out]
        exact ⟨_, _, L, rfl, HF.out.1, (fun L' h => by cases h; rfl), HBW.out⟩
  · have hv : allN l0 = none := by rw [allN, if_neg h]
    rw [hv]
    have hg : ((((strOf l0).size : Nat) : Int) % 3 != 0) = true := by simp; omega
    clear hv hsz h
    go_enter Try.func47, Try.ntmps47
    go_wp2_with fail
    go_ret2
    exact ⟨some ⟨w.heap.size, 0, none⟩, 0, [], rfl, Fresh.of_own (World.ownsRow_made (base := w.heap.size) w #[] 0 (Nat.le_refl _) (by decide) rfl) rfl rfl, (fun L' h => by cases h), (by repeat (first | exact Below.refl _ _ | (refine Below.alloc ?_ (by (try simp) <;> (try omega)) _) | (refine Below.setCell ?_ (by (try simp) <;> (try omega)) _) | (refine Below.drew ?_) | (refine Below.trans ?_ (Below.mono (by assumption) (by (try simp) <;> (try omega))))))⟩
end
section
open Go.RowKit
theorem be_two (n : Nat) : be n 2 = [beB n 2 0, beB n 2 1] := rfl
theorem be_three (n : Nat) : be n 3 = [beB n 3 0, beB n 3 1, beB n 3 2] := rfl
theorem bn_be2 (n : Nat) (h : n < 65536) : bn (be n 2) = n := by
  rw [be_two]
  simp only [bn, List.foldl_cons, List.foldl_nil, beB_toNat]
  simp
  omega
theorem bn_be3 (n : Nat) (h : n < 16777216) : bn (be n 3) = n := by
  rw [be_three]
  simp only [bn, List.foldl_cons, List.foldl_nil, beB_toNat]
  simp
  omega
theorem rdF_fields : ∀ (fs : List ByteArray), (∀ s ∈ fs, s.size ≤ 20000) → rdF fs.length (fldB fs) = some fs
  | [], _ => by
    show rdF 0 (fldB []) = _
    rw [rdF]
    rfl
  | f :: fs, h => by
    have h1 : f.size ≤ 20000 := h f (by simp)
    have ih := rdF_fields fs (fun s hs => h s (by simp [hs]))
    have hl : fldB (f :: fs) = be f.size 2 ++ (f.data.toList ++ fldB fs) := by simp [fldB, fieldL]
    have ht : (fldB (f :: fs)).take 2 = be f.size 2 := by rw [hl]; exact List.take_left' (be_length _ _)
    have hd : (fldB (f :: fs)).drop 2 = f.data.toList ++ fldB fs := by rw [hl]; exact List.drop_left' (be_length _ _)
    have hb : bn ((fldB (f :: fs)).take 2) = f.size := by rw [ht]; exact bn_be2 _ (by omega)
    have hs : f.data.toList.length = f.size := rfl
    have hlen : (fldB (f :: fs)).length = 2 + (f.size + (fldB fs).length) := by rw [hl]; simp [be_length]
    show rdF (fs.length + 1) _ = _
    rw [rdF_succ (by omega) (by rw [hb]; omega) (by rw [hb]; omega), hb, ← List.drop_drop, hd, List.drop_left' hs, List.take_left' hs, ih]
    rfl
theorem rdAll_fldL (fs : List ByteArray) (h : ∀ s ∈ fs, s.size ≤ 20000) (hl : fs.length ≤ 60) : rdAll (fldL fs) = some fs := by
  have h1 : (UInt8.ofNat fs.length).toNat = fs.length := by simp; omega
  show rdAll (UInt8.ofNat fs.length :: fldB fs) = _
  rw [rdAll, h1, if_neg (by omega)]
  exact rdF_fields fs h
theorem strOf_data' (l : List UInt8) : (strOf l).data.toList = l := by simp [strOf]
theorem be_bn2 (a b : UInt8) : be (bn [a, b]) 2 = [a, b] := by
  have ha := a.toNat_lt
  have hb := b.toNat_lt
  have h1 : beB (bn [a, b]) 2 0 = a := UInt8.toNat_inj.1 (by rw [beB_toNat]; simp [bn]; omega)
  have h2 : beB (bn [a, b]) 2 1 = b := UInt8.toNat_inj.1 (by rw [beB_toNat]; simp [bn])
  rw [be_two, h1, h2]
theorem be_bn3 (a b c : UInt8) : be (bn [a, b, c]) 3 = [a, b, c] := by
  have ha := a.toNat_lt
  have hb := b.toNat_lt
  have hc := c.toNat_lt
  have h1 : beB (bn [a, b, c]) 3 0 = a := UInt8.toNat_inj.1 (by rw [beB_toNat]; simp [bn]; omega)
  have h2 : beB (bn [a, b, c]) 3 1 = b := UInt8.toNat_inj.1 (by rw [beB_toNat]; simp [bn]; omega)
  have h3 : beB (bn [a, b, c]) 3 2 = c := UInt8.toNat_inj.1 (by rw [beB_toNat]; simp [bn])
  rw [be_three, h1, h2, h3]
theorem be_bn_two {l : List UInt8} (h : l.length = 2) : be (bn l) 2 = l := by
  match l, h with
  | [a, b], _ => exact be_bn2 a b
theorem be_bn_three {l : List UInt8} (h : l.length = 3) : be (bn l) 3 = l := by
  match l, h with
  | [a, b, c], _ => exact be_bn3 a b c
theorem rdF_canon : ∀ (n : Nat) (l : List UInt8) (fs : List ByteArray), rdF n l = some fs → fs.length = n ∧ fldB fs = l ∧ ∀ s ∈ fs, s.size ≤ 20000
  | 0, l, fs, h => by
    rw [rdF] at h
    split at h
    · next h0 =>
      cases h
      subst h0
      simp [fldB]
    · cases h
  | n + 1, l, fs, h => by
    rw [rdF] at h
    split at h
    · cases h
    split at h
    · cases h
    split at h
    · cases h
    next h1 h2 h3 =>
    cases hg : rdF n (l.drop (2 + bn (l.take 2))) with
    | none => rw [hg] at h; cases h
    | some gs =>
      rw [hg] at h
      simp only [Option.map_some, Option.some.injEq] at h
      subst h
      obtain ⟨k1, k2, k3⟩ := rdF_canon n _ gs hg
      have hsz : (strOf ((l.drop 2).take (bn (l.take 2)))).size = bn (l.take 2) := by
        rw [strOf_size, List.length_take, List.length_drop]
        omega
      refine ⟨by simp [k1], ?_, ?_⟩
      · show fieldL _ ++ fldB gs = l
        rw [fieldL, hsz, k2, be_bn_two (by rw [List.length_take]; omega), strOf_data', List.append_assoc, ← List.drop_drop, List.take_append_drop, List.take_append_drop]
      · intro s hs
        rcases List.mem_cons.1 hs with rfl | hs
        · rw [hsz]
          omega
        · exact k3 s hs
theorem rdAll_canon {l : List UInt8} {fs : List ByteArray} (h : rdAll l = some fs) : l = fldL fs ∧ fs.length ≤ 60 ∧ ∀ s ∈ fs, s.size ≤ 20000 := by
  cases l with
  | nil => cases h
  | cons c r =>
    rw [rdAll] at h
    split at h
    · cases h
    next h1 =>
    obtain ⟨k1, k2, k3⟩ := rdF_canon _ _ _ h
    refine ⟨?_, by omega, k3⟩
    rw [fldL, k1, k2]
    simp
theorem numL_rnF : ∀ (n : Nat) (l : List UInt8), l.length = 3 * n → numL (rnF n l) = l
  | 0, l, h => by
    have : l = [] := List.length_eq_zero_iff.1 (by omega)
    subst this
    rfl
  | n + 1, l, h => by
    have ih := numL_rnF n (l.drop 3) (by rw [List.length_drop]; omega)
    show be (((bn (l.take 3) : Int) - 1) + 1).toNat 3 ++ numL (rnF n (l.drop 3)) = l
    rw [ih, show (((bn (l.take 3) : Int) - 1) + 1).toNat = bn (l.take 3) by omega, be_bn_three (by rw [List.length_take]; omega), List.take_append_drop]
theorem rnF_numL : ∀ (ns : List Int), (∀ x ∈ ns, -1 ≤ x ∧ x < 16777215) → rnF ns.length (numL ns) = ns
  | [], _ => rfl
  | x :: ns, h => by
    have hx := h x (by simp)
    have ih := rnF_numL ns (fun y hy => h y (by simp [hy]))
    have hl : numL (x :: ns) = be (x + 1).toNat 3 ++ numL ns := by simp [numL]
    show ((bn ((numL (x :: ns)).take 3) : Int) - 1) :: rnF ns.length ((numL (x :: ns)).drop 3) = _
    rw [hl, List.take_left' (be_length _ _), List.drop_left' (be_length _ _), ih, bn_be3 _ (by omega)]
    congr 1
    omega
def nAt (l : List UInt8) (i : Nat) : Int := (bn ((l.drop (3 * i)).take 3) : Int) - 1
end
section
open Go.RowKit
structure Upd (g lo hi : Nat) (S : Nat → Prop) (w w' : World) : Prop where
  os : w'.os = w.os
  tape : w'.tape = w.tape
  output : w'.output = w.output
  size : w.heap.size ≤ w'.heap.size
  block : ∀ k, k < w.heap.size → k ≠ g → ¬ S k → w'.heap[k]? = w.heap[k]?
  cell : ∀ o, (o < lo ∨ hi ≤ o) → w'.cell? ⟨g, o, none⟩ = w.cell? ⟨g, o, none⟩
  fz : ∀ o, w'.frozen? ⟨g, o, none⟩ = w.frozen? ⟨g, o, none⟩
section
variable {g lo hi : Nat} {S : Nat → Prop} {a w w' : World}
theorem Upd.refl : Upd g lo hi S w w := ⟨rfl, rfl, rfl, Nat.le_refl _, fun _ _ _ _ => rfl, fun _ _ => rfl, fun _ => rfl⟩
theorem Upd.trans (h : Upd g lo hi S a w) (k : Upd g lo hi S w w') : Upd g lo hi S a w' :=
  ⟨k.os.trans h.os, k.tape.trans h.tape, k.output.trans h.output, Nat.le_trans h.size k.size, fun i h1 h2 h3 => (k.block i (Nat.lt_of_lt_of_le h1 h.size) h2 h3).trans (h.block i h1 h2 h3), fun o ho => (k.cell o ho).trans (h.cell o ho), fun o => (k.fz o).trans (h.fz o)⟩
theorem Upd.setCell (h : Upd g lo hi S a w) (o : Nat) (h1 : lo ≤ o) (h2 : o < hi) (u : Value) : Upd g lo hi S a (w.setCell ⟨g, o, none⟩ u) :=
  h.trans ⟨rfl, rfl, rfl, by simp [World.setCell], fun k _ hk _ => Below.heap_setCell _ _ _ _ hk, fun o' ho => World.cell?_setCell_other _ _ _ _ (fun e => by cases e; omega), fun o' => World.frozen?_setCell _ _ _ _⟩
theorem Upd.mid {l r : Nat} (h : Upd g lo hi S a w) (hm : Mid l r w w') (hg : g < w.heap.size) (hd : g < l ∨ r ≤ g) (hS : ∀ k, l ≤ k → k < r → k < w.heap.size → S k) : Upd g lo hi S a w' :=
  h.trans ⟨hm.os, hm.tape, hm.output, hm.size, fun k h1 _ h3 => hm.block k h1 (by
    rcases Nat.lt_or_ge k l with hl | hl
    · exact .inl hl
    · rcases Nat.lt_or_ge k r with hr | hr
      · exact absurd (hS k hl hr h1) h3
      · exact .inr hr), fun o _ => hm.cell (p := ⟨g, o, none⟩) hg hd, fun o => hm.frozen (p := ⟨g, o, none⟩) hg hd⟩
theorem Upd.below (h : Upd g lo hi S a w) (hb : Below w.heap.size w w') (hg : g < w.heap.size) : Upd g lo hi S a w' :=
  h.trans ⟨hb.os, hb.tape, hb.output, hb.size, fun k h1 _ _ => hb.block k h1, fun o _ => hb.cell (p := ⟨g, o, none⟩) hg, fun o => hb.frozen (p := ⟨g, o, none⟩) hg⟩
theorem Upd.mono {lo' hi' : Nat} {T : Nat → Prop} (h : Upd g lo hi S w w') (h1 : lo' ≤ lo) (h2 : hi ≤ hi') (hS : ∀ k, S k → T k) : Upd g lo' hi' T w w' :=
  ⟨h.os, h.tape, h.output, h.size, fun k a b c => h.block k a b (fun hs => c (hS k hs)), fun o ho => h.cell o (by omega), h.fz⟩
theorem Upd.toMid {l r : Nat} (h : Upd g lo hi S w w') (h1 : l ≤ g) (h2 : g < r) (hS : ∀ k, S k → l ≤ k ∧ k < r) : Mid l r w w' :=
  ⟨h.os, h.tape, h.output, h.size, fun k hk hd => h.block k hk (by omega) (fun hs => by have := hS k hs; omega)⟩
theorem Upd.toBelow {B : Nat} (h : Upd g lo hi S w w') (hB : B ≤ w.heap.size) (h1 : B ≤ g) (hS : ∀ k, S k → B ≤ k) : Below B w w' :=
  ⟨h.os, h.tape, h.output, h.size, fun k hk => h.block k (by omega) (by omega) (fun hs => by have := hS k hs; omega)⟩
variable {α : Type} {enc : α → List Value} {sz : Nat} {ad : Option Addr} {xs : List α}
theorem Sl.row (h : Sl enc sz w (some ⟨g, 0, none⟩) xs) (hg : g < w.heap.size) {q : Nat} (hq : q < xs.length) (hu : Upd g (q * sz) (q * sz + sz) S w w') (x : α) (hx : ∀ j, j < sz → w'.cell? ⟨g, q * sz + j, none⟩ = (enc x)[j]?) : Sl enc sz w' (some ⟨g, 0, none⟩) (xs.set q x) := by
  obtain ⟨b, off, he, hlt, hc⟩ := h.at hq
  simp only [Option.some.injEq, Addr.mk.injEq] at he
  obtain ⟨rfl, rfl, _⟩ := he
  refine .inr ⟨g, 0, rfl, Nat.lt_of_lt_of_le hg hu.size, fun i hi j hj => ?_⟩
  have hi' : i < xs.length := by simpa using hi
  rw [Nat.zero_add]
  by_cases hiq : i = q
  · subst hiq
    rw [hx j hj]
    simp
  · have h1 := hc i hi' j hj
    rw [Nat.zero_add] at h1
    rw [hu.cell _ (by
      rcases Nat.lt_or_gt_of_ne hiq with h | h
      · left
        have : (i + 1) * sz ≤ q * sz := Nat.mul_le_mul_right _ h
        rw [Nat.add_mul] at this
        omega
      · right
        have : (q + 1) * sz ≤ i * sz := Nat.mul_le_mul_right _ h
        rw [Nat.add_mul] at this
        omega), h1]
    rw [List.getElem_set_ne (fun e => hiq e.symm)]
def blkOf : Option Addr → List Nat
  | some p => [p.block]
  | none => []
theorem FreshIn.upd {e : TypeId} {B n c : Nat} (h : FreshIn enc e sz B w.heap.size (.slice ad n c) xs w) (hu : Upd g lo hi S w w') (hd : ∀ k ∈ blkOf ad, k ≠ g ∧ ¬ S k) : FreshIn enc e sz B w'.heap.size (.slice ad n c) xs w' := by
  obtain ⟨⟨a', cap', hv, h1, h2, h3⟩, h4⟩ := h
  refine ⟨⟨a', cap', hv, h1, h2, ?_⟩, fun k hk => Nat.lt_of_lt_of_le (h4 k hk) hu.size⟩
  cases hv
  rcases h3 with h3 | ⟨b, cap, cur, hv, hg, hb, r'⟩
  · exact .inl h3
  · refine .inr ⟨b, cap, cur, hv, hg, ?_, r'⟩
    cases hv
    have hk := hd b (by simp [blkOf])
    rw [hu.block b (Array.getElem?_eq_some_iff.1 hb).1 hk.1 hk.2]
    exact hb
theorem FreshIn.tight {e : TypeId} {B n c : Nat} (h : FreshIn enc e sz B w.heap.size (.slice ad n c) xs w) : ∃ b, FreshIn enc e sz b (b + 1) (.slice ad n c) xs w ∧ b ≤ w.heap.size ∧ (∀ k, b ≤ k → k < b + 1 → k < w.heap.size → k ∈ blkOf ad) ∧ (b < w.heap.size → b ∈ blkOf ad ∧ B ≤ b) := by
  obtain ⟨⟨a', cap', hv, h1, h2, h3⟩, h4⟩ := h
  cases hv
  rcases h3 with ⟨h3, hn⟩ | ⟨b, cap, cur, hv, hg, hb, r'⟩
  · refine ⟨w.heap.size, ⟨⟨ad, c, rfl, h1, h2, .inl ⟨h3, hn⟩⟩, fun k hk => ?_⟩, Nat.le_refl _, fun k h5 _ h6 => by omega, fun h5 => by omega⟩
    rw [h3] at hk
    simp [Value.ownBlock] at hk
  · cases hv
    have hlt := (Array.getElem?_eq_some_iff.1 hb).1
    refine ⟨b, ⟨⟨_, _, rfl, h1, h2, .inr ⟨b, _, cur, rfl, Nat.le_refl _, hb, r'⟩⟩, fun k hk => ?_⟩, Nat.le_of_lt hlt, fun k h5 h6 _ => ?_, fun _ => ⟨by simp [blkOf], hg⟩⟩
    · simp [Value.ownBlock] at hk
      omega
    · have : k = b := by omega
      subst this
      simp [blkOf]
theorem FreshIn.grow {e : TypeId} {B n c b : Nat} (h : FreshIn enc e sz b (b + 1) (.slice ad n c) xs w) (hB : B ≤ b) (hb : b < w.heap.size) : FreshIn enc e sz B w.heap.size (.slice ad n c) xs w := h.mono hB hb
end
end
section
open Go.RowKit
open Classical in
noncomputable def extW (w x : World) : World := if Below w.heap.size w x then x else w
theorem extW_below (w x : World) : Below w.heap.size w (extW w x) := by
  unfold extW
  split
  · assumption
  · exact Below.refl _ _
theorem extW_self {w x : World} (h : Below w.heap.size w x) : extW w x = x := by
  unfold extW
  rw [if_pos h]
theorem extW_cell {w : World} {b : Nat} (h : b < w.heap.size) : ∀ (x : World) (o : Nat), (extW w x).cell? ⟨b, o, none⟩ = w.cell? ⟨b, o, none⟩ :=
  fun x o => (extW_below w x).cell (p := ⟨b, o, none⟩) h
theorem wp_region_quietx {P : Program} {id : Nat} {Q : Exit → Act → World → Prop} {a : Act} {w : World} {l : List Oper} (w0 : World) (h0 : w0 = w) (hm : P.follows .mixedOrders = true) (hB : Region.lexB .any l.toArray = true)
    (h : wpQuiet P l.toArray (fun w' => ∃ x, w' = extW w0 x) (fun a' => ∀ w', (∃ x, w' = extW w0 x) → Q .normal a' w') l a) : (Code.region id l.toArray true).wp P Q a w := by
  subst h0
  exact wp_region_quiet (C := fun w' => ∃ x, w' = extW w0 x) hm hB ⟨w0.drew, (extW_self ((Below.refl _ _).drew)).symm⟩ (by simpa using h)
theorem Calls.quietx_same {P : Program} {f : FuncId} {args : Array Value} {w x : World} {v : Value}
    (h : Calls P f args (extW w x) fun e w' => e = .returned v ∧ extW w x = w') : Calls P f args (extW w x) fun e w'' => e = .returned v ∧ ∃ y, w'' = extW w y :=
  h.mono fun _ w' ⟨he, hb⟩ => ⟨he, x, hb.symm⟩
end
section
open Go.RowKit
def over {α : Type} (f : Nat → α) (xs : List α) (k : Nat) : List α := (List.range k).map f ++ xs.drop k
end
section
open Go.RowKit
def Sep (g : Nat) (bs : List (List Nat)) : Prop :=
  (∀ i (h : i < bs.length), g ∉ bs[i] ∧ bs[i].Nodup) ∧ ∀ i j (hi : i < bs.length) (hj : j < bs.length), i ≠ j → ∀ b ∈ bs[i], b ∉ bs[j]
structure RowsR {R : Type} (enc : R → List Value) (sz : Nat) (ok : Nat → World → R → Prop) (blk : R → List Nat) (B : Nat) (w : World) (g : Nat) (rs : List R) : Prop where
  low : B ≤ g
  lt : g < w.heap.size
  sl : Sl enc sz w (some ⟨g, 0, none⟩) rs
  fz : ∀ o, w.frozen? ⟨g, o, none⟩ = false
  ok : ∀ i (h : i < rs.length), ok B w rs[i]
  sep : Sep g (rs.map blk)
section
variable {R : Type} {enc : R → List Value} {sz : Nat} {ok : Nat → World → R → Prop} {blk : R → List Nat} {B : Nat} {w w' : World} {g : Nat} {rs : List R}
theorem RowsR.step (h : RowsR enc sz ok blk B w g rs) {q : Nat} (hq : q < rs.length) {x : R} (hb : blk x = blk rs[q])
    (hu : Upd g (q * sz) (q * sz + sz) (· ∈ blk rs[q]) w w') (hx : ∀ j, j < sz → w'.cell? ⟨g, q * sz + j, none⟩ = (enc x)[j]?) (ho : ok B w' x)
    (hk : ∀ r, ok B w r → (∀ k ∈ blk r, k ≠ g ∧ k ∉ blk rs[q]) → ok B w' r) : RowsR enc sz ok blk B w' g (rs.set q x) where
  low := h.low
  lt := Nat.lt_of_lt_of_le h.lt hu.size
  sl := Sl.row h.sl h.lt hq hu x hx
  fz := fun o => (hu.fz o).trans (h.fz o)
  ok := fun i hi => by
    have hi' : i < rs.length := by simpa using hi
    by_cases hiq : i = q
    · subst hiq
      simpa using ho
    · rw [List.getElem_set_ne (fun e => hiq e.symm)]
      refine hk _ (h.ok i hi') (fun k hk' => ⟨fun e => ?_, ?_⟩)
      · subst e
        have := (h.sep.1 i (by simpa using hi')).1
        simp at this
        exact this hk'
      · have := h.sep.2 i q (by simpa using hi') (by simpa using hq) hiq k (by simpa using hk')
        simpa using this
  sep := by
    have : (rs.set q x).map blk = rs.map blk := by
      rw [List.map_set, hb]
      exact List.ext_getElem (by simp) (fun i h1 h2 => by
        by_cases hiq : q = i
        · subst hiq; simp
        · rw [List.getElem_set_ne hiq])
    rw [this]
    exact h.sep
theorem RowsR.in (h : RowsR enc sz ok blk B w g rs) {q : Nat} (hq : q < rs.length) : g ∉ blk rs[q] ∧ (blk rs[q]).Nodup := by
  have := h.sep.1 q (by simpa using hq)
  simpa using this
theorem RowsR.below (h : RowsR enc sz ok blk B w g rs) (hb : Below w.heap.size w w') (hk : ∀ r, ok B w r → ok B w' r) : RowsR enc sz ok blk B w' g rs where
  low := h.low
  lt := Nat.lt_of_lt_of_le h.lt hb.size
  sl := h.sl.keep hb
  fz := fun o => (hb.frozen (p := ⟨g, o, none⟩) h.lt).trans (h.fz o)
  ok := fun i hi => hk _ (h.ok i hi)
  sep := h.sep
end
end
section
open Go.RowKit
structure RowsG {R : Type} (own : Nat → World → R → Prop) (blk : R → List Nat) (st : R → Prop) (B : Nat) (w : World) (L : List R) : Prop where
  ow : ∀ r ∈ L, own B w r
  nd : ∀ r ∈ L, (blk r).Nodup
  bd : ∀ r ∈ L, ∀ b ∈ blk r, B ≤ b ∧ b < w.heap.size
  sta : ∀ r ∈ L, st r
  ap : L.Pairwise (fun r s => ∀ b ∈ blk r, b ∉ blk s)
section
variable {R : Type} {own : Nat → World → R → Prop} {blk : R → List Nat} {st : R → Prop} {B lo : Nat} {w w' : World} {L : List R} {t : R}
theorem RowsG.nil : RowsG own blk st B w [] := ⟨by simp, by simp, by simp, by simp, .nil⟩
theorem RowsG.to (h : RowsG own blk st B w L) (hz : w.heap.size ≤ w'.heap.size) (hk : ∀ r, own B w r → own B w' r) : RowsG own blk st B w' L :=
  ⟨fun r hr => hk r (h.ow r hr), h.nd, fun r hr b hb => ⟨(h.bd r hr b hb).1, Nat.lt_of_lt_of_le (h.bd r hr b hb).2 hz⟩, h.sta, h.ap⟩
theorem RowsG.rows {enc : R → List Value} {sz B' g : Nat} (h : RowsG own blk st B w L) (hs : Sl enc sz w (some ⟨g, 0, none⟩) L) (hB : B' ≤ g) (hg : g < B) (hgw : g < w.heap.size) (hf : ∀ o, w.frozen? ⟨g, o, none⟩ = false) (hm : ∀ r, own B w r → own B' w r) : RowsR enc sz own blk B' w g L where
  low := hB
  lt := hgw
  sl := hs
  fz := hf
  ok := fun i hi => hm _ (h.ow _ (List.getElem_mem hi))
  sep := by
    refine ⟨fun i hi => ?_, fun i j hi hj hij b hb => ?_⟩
    · have hi' : i < L.length := by simpa using hi
      rw [List.getElem_map]
      refine ⟨fun hb => ?_, h.nd _ (List.getElem_mem hi')⟩
      have := h.bd _ (List.getElem_mem hi') g hb
      omega
    · have hi' : i < L.length := by simpa using hi
      have hj' : j < L.length := by simpa using hj
      rw [List.getElem_map] at hb ⊢
      have hp := List.pairwise_iff_getElem.1 h.ap
      rcases Nat.lt_or_gt_of_ne hij with hlt | hlt
      · exact hp i j hi' hj' hlt b hb
      · exact fun hbj => hp j i hj' hi' hlt b hbj hb
theorem blkOf_nodup (a : Option Addr) : (blkOf a).Nodup := by cases a <;> simp [blkOf]
theorem FreshIn.blks {α : Type} {enc : α → List Value} {sz : Nat} {e : TypeId} {hi n c : Nat} {ad : Option Addr} {xs : List α} (h : FreshIn enc e sz lo hi (.slice ad n c) xs w) : ∀ k ∈ blkOf ad, lo ≤ k ∧ k < hi := by
  intro k hk
  cases ad with
  | none => simp [blkOf] at hk
  | some p =>
    simp only [blkOf, List.mem_singleton] at hk
    subst hk
    exact (FreshIn.row h) p.block (by simp [Value.ownBlock])
theorem FreshIn.low {α : Type} {enc : α → List Value} {sz : Nat} {e : TypeId} {hi n c : Nat} {ad : Option Addr} {xs : List α} {B' : Nat} (h : FreshIn enc e sz lo hi (.slice ad n c) xs w) (h1 : B' ≤ lo) : FreshIn enc e sz B' hi (.slice ad n c) xs w := h.mono h1 (Nat.le_refl _)
theorem FreshIn.keepB {α : Type} {enc : α → List Value} {sz : Nat} {e : TypeId} {n c : Nat} {ad : Option Addr} {xs : List α} (h : FreshIn enc e sz B w.heap.size (.slice ad n c) xs w) (hb : Below w.heap.size w w') : FreshIn enc e sz B w'.heap.size (.slice ad n c) xs w' := (h.below hb).mono (Nat.le_refl _) hb.size
theorem FreshIn.setB {α : Type} {enc : α → List Value} {sz : Nat} {e : TypeId} {n c : Nat} {ad : Option Addr} {xs : List α} (h : FreshIn enc e sz B w.heap.size (.slice ad n c) xs w) {p : Addr} (hp : p.block < B) (u : Value) : FreshIn enc e sz B (w.setCell p u).heap.size (.slice ad n c) xs (w.setCell p u) := by
  have := h.setCell hp u
  simpa [World.setCell] using this
end
end
section
open Go.RowKit
structure Ch (M : Nat → Prop) (w w' : World) : Prop where
  os : w'.os = w.os
  tape : w'.tape = w.tape
  output : w'.output = w.output
  size : w.heap.size ≤ w'.heap.size
  block : ∀ k, k < w.heap.size → ¬ M k → w'.heap[k]? = w.heap[k]?
section
variable {M N : Nat → Prop} {a w w' : World}
theorem Ch.refl : Ch M w w := ⟨rfl, rfl, rfl, Nat.le_refl _, fun _ _ _ => rfl⟩
theorem Ch.trans (h : Ch M a w) (k : Ch N w w') (hN : ∀ i, N i → M i ∨ a.heap.size ≤ i) : Ch M a w' :=
  ⟨k.os.trans h.os, k.tape.trans h.tape, k.output.trans h.output, Nat.le_trans h.size k.size, fun i h1 h2 => (k.block i (Nat.lt_of_lt_of_le h1 h.size) (fun t => by
    rcases hN i t with h4 | h4
    · exact h2 h4
    · omega)).trans (h.block i h1 h2)⟩
theorem Ch.mono (h : Ch N w w') (hN : ∀ i, N i → M i ∨ w.heap.size ≤ i) : Ch M w w' := Ch.trans Ch.refl h hN
theorem Ch.of_below (h : Below w.heap.size w w') : Ch M w w' := ⟨h.os, h.tape, h.output, h.size, fun k hk _ => h.block k hk⟩
theorem Ch.of_mid {l r : Nat} (h : Mid l r w w') (hM : ∀ k, l ≤ k → k < r → k < w.heap.size → M k) : Ch M w w' :=
  ⟨h.os, h.tape, h.output, h.size, fun k hk hn => h.block k hk (by
    rcases Nat.lt_or_ge k l with h1 | h1
    · exact .inl h1
    · rcases Nat.lt_or_ge k r with h2 | h2
      · exact absurd (hM k h1 h2 hk) hn
      · exact .inr h2)⟩
theorem Ch.setCell (h : Ch M a w) {p : Addr} (hp : M p.block ∨ a.heap.size ≤ p.block) (u : Value) : Ch M a (w.setCell p u) :=
  h.trans (N := fun k => k = p.block) ⟨rfl, rfl, rfl, by simp [World.setCell], fun k _ hk => Below.heap_setCell _ _ _ _ hk⟩ (fun i hi => by subst hi; exact hp)
theorem Ch.alloc (h : Ch M a w) (o : Obj) : Ch M a (w.alloc o) := h.trans (N := fun _ => False) (Ch.of_below ((Below.refl _ _).alloc (Nat.le_refl _) _)) (fun _ h => h.elim)
theorem Ch.drew (h : Ch M a w) : Ch M a w.drew := h.trans (N := fun _ => False) (Ch.of_below ((Below.refl _ _).drew)) (fun _ h => h.elim)
theorem Ch.below1 (h : Ch M a w) (k : Below w.heap.size w w') : Ch M a w' := h.trans (N := fun _ => False) (Ch.of_below k) (fun _ h => h.elim)
theorem Ch.cell (h : Ch M w w') {p : Addr} (hp : p.block < w.heap.size) (hd : ¬ M p.block) : w'.cell? p = w.cell? p := World.cell?_of_block (w := w) (h.block p.block hp hd)
theorem Ch.frozen (h : Ch M w w') {p : Addr} (hp : p.block < w.heap.size) (hd : ¬ M p.block) : w'.frozen? p = w.frozen? p := World.frozen?_of_block (w := w) (h.block p.block hp hd)
theorem Ch.below {B : Nat} (h : Ch M w w') (hB : B ≤ w.heap.size) (hM : ∀ k, M k → B ≤ k) : Below B w w' :=
  ⟨h.os, h.tape, h.output, h.size, fun k hk => h.block k (by omega) (fun hm => by have := hM k hm; omega)⟩
theorem Ch.mid {l r : Nat} (h : Ch M w w') (hM : ∀ k, M k → l ≤ k ∧ k < r) : Mid l r w w' :=
  ⟨h.os, h.tape, h.output, h.size, fun k hk hd => h.block k hk (fun hm => by have := hM k hm; omega)⟩
variable {α : Type} {enc : α → List Value} {sz : Nat} {ad : Option Addr} {xs : List α}
theorem Sl.ch (h : Sl enc sz w ad xs) (hc : Ch M w w') (hd : ∀ k ∈ blkOf ad, ¬ M k) : Sl enc sz w' ad xs := by
  rcases h with h1 | ⟨b, off, rfl, hlt, hq⟩
  · exact .inl h1
  · exact .inr ⟨b, off, rfl, Nat.lt_of_lt_of_le hlt hc.size, fun i hi j hj => by
      rw [hc.cell (p := ⟨b, _, none⟩) hlt (hd b (by simp [blkOf]))]; exact hq i hi j hj⟩
theorem FreshIn.ch {e : TypeId} {B n c : Nat} (h : FreshIn enc e sz B w.heap.size (.slice ad n c) xs w) (hu : Ch M w w') (hd : ∀ k ∈ blkOf ad, ¬ M k) : FreshIn enc e sz B w'.heap.size (.slice ad n c) xs w' := by
  obtain ⟨⟨a', cap', hv, h1, h2, h3⟩, h4⟩ := h
  refine ⟨⟨a', cap', hv, h1, h2, ?_⟩, fun k hk => Nat.lt_of_lt_of_le (h4 k hk) hu.size⟩
  cases hv
  rcases h3 with h3 | ⟨b, cap, cur, hv, hg, hb, r'⟩
  · exact .inl h3
  · refine .inr ⟨b, cap, cur, hv, hg, ?_, r'⟩
    cases hv
    rw [hu.block b (Array.getElem?_eq_some_iff.1 hb).1 (hd b (by simp [blkOf]))]
    exact hb
end
structure OwnL {R : Type} (own : Nat → World → R → Prop) (blk : R → List Nat) : Prop where
  ch : ∀ {lo w w' r} {M : Nat → Prop}, own lo w r → Ch M w w' → (∀ k ∈ blk r, ¬ M k) → own lo w' r
  low : ∀ {lo lo' w r}, lo' ≤ lo → own lo w r → own lo' w r
  bd : ∀ {lo w r}, own lo w r → ∀ k ∈ blk r, lo ≤ k ∧ k < w.heap.size
  nd : ∀ {lo w r}, own lo w r → (blk r).Nodup
def roB {R : Type} (blk : R → List Nat) (am : Option Addr) (L : List R) : List Nat := blkOf am ++ L.flatMap blk
structure RO {R : Type} (enc : R → List Value) (T : TypeId) (sz : Nat) (own : Nat → World → R → Prop) (blk : R → List Nat) (lo : Nat) (L : List R) (am : Option Addr) (cm : Nat) (w : World) : Prop where
  row : FreshIn enc T sz lo w.heap.size (.slice am L.length cm) L w
  ow : ∀ r ∈ L, own lo w r
  nd : (roB blk am L).Nodup
section
variable {R : Type} {enc : R → List Value} {T : TypeId} {sz : Nat} {own : Nat → World → R → Prop} {blk : R → List Nat} {lo : Nat} {L : List R} {am : Option Addr} {cm : Nat} {w w' : World} {M : Nat → Prop}
theorem RO.nil : RO enc T sz own blk lo [] none 0 w := ⟨FreshIn.nil _ _ _ _ _ _, by simp, by simp [roB, blkOf]⟩
theorem RO.ch (hO : OwnL own blk) (h : RO enc T sz own blk lo L am cm w) (hc : Ch M w w') (hd : ∀ k ∈ roB blk am L, ¬ M k) : RO enc T sz own blk lo L am cm w' :=
  ⟨h.row.ch hc (fun k hk => hd k (by simp [roB, hk])), fun r hr => hO.ch (h.ow r hr) hc (fun k hk => hd k (by simp only [roB, List.mem_append, List.mem_flatMap]; exact .inr ⟨r, hr, hk⟩)), h.nd⟩
theorem RO.keep (hO : OwnL own blk) (h : RO enc T sz own blk lo L am cm w) (hb : Below w.heap.size w w') : RO enc T sz own blk lo L am cm w' := h.ch hO (M := fun _ => False) (Ch.of_below hb) (fun _ _ h => h)
theorem RO.bd (hO : OwnL own blk) (h : RO enc T sz own blk lo L am cm w) : ∀ k ∈ roB blk am L, lo ≤ k ∧ k < w.heap.size := by
  intro k hk
  simp only [roB, List.mem_append, List.mem_flatMap] at hk
  rcases hk with hk | ⟨r, hr, hk⟩
  · exact FreshIn.blks h.row k hk
  · exact hO.bd (h.ow r hr) k hk
theorem RO.low (hO : OwnL own blk) {lo' : Nat} (h : RO enc T sz own blk lo L am cm w) (hl : lo' ≤ lo) : RO enc T sz own blk lo' L am cm w := ⟨h.row.mono hl (Nat.le_refl _), fun r hr => hO.low hl (h.ow r hr), h.nd⟩
theorem RO.push (hO : OwnL own blk) {x : R} {us : List R} {am' : Option Addr} {cm' : Nat} (h : RO enc T sz own blk lo L am cm w) (hx : own lo w x) (hd : ∀ k ∈ blk x, k ∉ roB blk am L)
    (hus : us = L ++ [x]) (hf : FreshIn enc T sz lo w'.heap.size (.slice am' us.length cm') us w') (hc : Ch (· ∈ blkOf am) w w') (hk : ∀ k ∈ blkOf am', k ∈ blkOf am ∨ k = w.heap.size) : RO enc T sz own blk lo us am' cm' w' := by
  have hnd := h.nd
  simp only [roB, List.nodup_append] at hnd
  obtain ⟨n1, n2, n3⟩ := hnd
  subst hus
  refine ⟨hf, fun r hr => ?_, ?_⟩
  · rcases List.mem_append.1 hr with hr | hr
    · exact hO.ch (h.ow r hr) hc (fun k hk1 hk2 => n3 k hk2 k (List.mem_flatMap.2 ⟨r, hr, hk1⟩) rfl)
    · simp at hr; subst hr
      exact hO.ch hx hc (fun k hk1 hk2 => hd k hk1 (by simp [roB, hk2]))
  · simp only [roB, List.flatMap_append, List.flatMap_cons, List.flatMap_nil, List.append_nil, List.nodup_append]
    refine ⟨blkOf_nodup _, ⟨n2, hO.nd hx, fun k hk1 j hj e => ?_⟩, fun k hk1 j hj e => ?_⟩
    · subst e
      exact hd k hj (by simp only [roB, List.mem_append]; exact .inr hk1)
    · subst e
      have hb : k ∈ L.flatMap blk ++ blk x → k < w.heap.size := fun hk2 => by
        rcases List.mem_append.1 hk2 with hk2 | hk2
        · obtain ⟨r, hr, hk3⟩ := List.mem_flatMap.1 hk2
          exact (hO.bd (h.ow r hr) k hk3).2
        · exact (hO.bd hx k hk2).2
      have hlt := hb (by simpa using hj)
      rcases hk k hk1 with h1 | h1
      · rcases List.mem_append.1 (by simpa using hj : k ∈ L.flatMap blk ++ blk x) with h2 | h2
        · exact n3 k h1 k h2 rfl
        · exact hd k h2 (by simp [roB, h1])
      · omega
end
section
variable {α : Type} {enc : α → List Value} {w : World}
theorem blkOf_own' {a : Option Addr} {n c : Nat} {k : Nat} : k ∈ blkOf a ↔ (Value.slice a n c).ownBlock = some k := by
  cases a with
  | none => simp [blkOf, Value.ownBlock]
  | some p => simp [blkOf, Value.ownBlock, eq_comm]
theorem wpList_append_ch {P : Program} {ops : Array Oper} {rest : List Oper} {o : Oper} {a : Act} {Q : Exit → Act → World → Prop} (s x : Operand) (t tx : TypeId)
    (lo : Nat) (e : TypeId) (i : TypeInfo) (z : Value) (size bytes : Nat) (ht : P.underlying t = some (.slice e)) (hinfo : P.info? e = some i) (hz : i.zero = some z)
    (hsize : i.size = size) (hby : i.bytes = bytes) (hzs : z.cells.size = size) (hbp : 0 < bytes)
    (ad : Option Addr) (n c : Nat) (zs : List α) (hF : FreshIn enc e size lo w.heap.size (.slice ad n c) zs w)
    (xv : Value) (ys : List α) (hsrc : Src P size tx xv ys.length (ys.flatMap enc) w)
    (hbytes : (zs.length + ys.length) * bytes ≤ 140737488355328) (hlo : lo ≤ w.heap.size)
    (hgd : o.guard = none) (ho : o.op = .call { callee := .builtin .append, args := #[s, x], argTypes := #[t, tx] }) (hs : a.eval s = .slice ad n c) (hx : a.eval x = xv)
    (h : ∀ a' c' w' us, Hid (us = zs ++ ys) → FreshIn enc e size lo w'.heap.size (.slice a' us.length c') us w' → Ch (· ∈ blkOf ad) w w' → (∀ k ∈ blkOf a', k ∈ blkOf ad ∨ k = w.heap.size) → wpList P ops Q rest (a.put o.dst (.slice a' us.length c')) w') : wpList P ops Q (o :: rest) a w := by
  obtain ⟨b, t1, t2, t3, t4⟩ := hF.tight
  have hblk := FreshIn.blks hF
  have hrow := t1.row
  obtain ⟨⟨a', cap', hv, h1, h2⟩, h3⟩ := t1
  cases hv
  refine wpList_append_src w hgd s x t tx ho b e i z size bytes ht hinfo hz hsize hby hzs _ zs.length (zs.flatMap enc) hs h2 xv ys.length (ys.flatMap enc) hx hsrc ?_ hbytes t2 ?_
  · have : zs.length + ys.length ≤ (zs.length + ys.length) * bytes := Nat.le_mul_of_pos_right _ hbp
    unfold maxLen; omega
  · intro v' w' k1 k2 k3
    have hf : Fresh enc e size b v' (zs ++ ys) w' := Fresh.of_own k1 (by simp) (by simp)
    obtain ⟨a1, c1, rfl, _⟩ := id hf
    have hm : Mid b (b + 1) w w' := Mid.of_grown k2 hrow
    have hk : ∀ k ∈ blkOf a1, k ∈ blkOf ad ∨ k = w.heap.size := fun k hk => by
      have hk' := (blkOf_own' (n := (zs ++ ys).length) (c := c1)).1 hk
      rcases k3 with k3 | k3
      · exact .inl ((blkOf_own' (n := zs.length) (c := c)).2 (k3 ▸ hk'))
      · rw [k3] at hk'
        exact .inr (Option.some.inj hk').symm
    refine h a1 c1 w' _ rfl ?_ (Ch.of_mid hm t3) hk
    rcases Nat.lt_or_ge b w.heap.size with hb | hb
    · exact hf.here.mono (t4 hb).2 (Nat.le_refl _)
    · exact hf.here.mono (by omega) (Nat.le_refl _)
end
end
section
open Go
section
variable {P : Program} {ops : Array Oper} {Q : Exit → Act → World → Prop} {md : Region.Mode} {S : World → Prop} {ex : Nat → Bool}
def wpAnyG (P : Program) (md : Region.Mode) (ops : Array Oper) (Q : Exit → Act → World → Prop) (S : World → Prop) (ex : Nat → Bool) : Nat → Array Bool → Act → World → Prop
  | 0, listed, a, w => Region.ready md ops listed = [] ∧ Q .normal a w
  | fuel + 1, listed, a, w =>
    (Region.ready md ops listed = [] → Q .normal a w) ∧
    ∀ i ∈ Region.ready md ops listed, wpOp P ops Q i (fun a' w' => (ex i = true ∨ (S w → S w')) ∧ wpAnyG P md ops Q S ex fuel (listed.setIfInBounds i true) a' w') a w
theorem wpAny_of_G : ∀ (fuel : Nat) (listed : Array Bool) (a : Act) (w : World), wpAnyG P md ops Q S ex fuel listed a w → wpAny P md ops Q fuel listed a w
  | 0, _, _, _, h => h
  | fuel + 1, _, _, _, h => ⟨h.1, fun i hi => wpOp_mono (fun a' w' h' => wpAny_of_G fuel _ a' w' h'.2) (h.2 i hi)⟩
def waitsB (md : Region.Mode) (ops : Array Oper) (ex : Nat → Bool) (i : Nat) : Bool :=
  (List.range ops.size).all fun j => !ex j || (match ops[j]? with | some o => o.after.any fun e => Region.binds md e && e.on == i | none => true)
theorem wpAnyG_first {i : Nat} {oi : Oper} {v : Value} (hi : ops[i]? = some oi) (hsel : ∀ (j : Nat) (o : Oper) cs b, ops[j]? = some o → o.op ≠ .select cs b)
    (hQ : ∀ c a w, Q (.panic c) (a.put oi.dst v) w → Q (.panic c) a w)
    (hex : ∀ j oj, ops[j]? = some oj → ex j = true → ∃ e ∈ oj.after, Region.binds md e = true ∧ e.on = i) :
    ∀ (fuel : Nat) (listed : Array Bool) (a : Act) (w : World),
      (∀ j oj, ops[j]? = some oj → j ≠ i → listed.getD j true = false → (∀ e ∈ oj.after, Region.binds md e = true → e.on ≠ i) → oi.apart ops oj = true) →
      i ∈ Region.ready md ops listed → YieldsIf P ops S oi v a → S w →
      wpAnyG P md ops Q S ex fuel (listed.setIfInBounds i true) (a.put oi.dst v) w → wpAnyG P md ops Q S ex (fuel + 1) listed a w := by
  intro fuel
  induction fuel with
  | zero =>
    intro listed a w _ hr hy hS H
    refine ⟨fun h => (by rw [h] at hr; cases hr), fun j hj => ?_⟩
    by_cases hji : j = i
    · subst hji; exact hy.wpOp hi hS ⟨.inr id, H⟩
    · have := ready_mono hj hji
      rw [H.1] at this
      cases this
  | succ fuel ih =>
    intro listed a w hfree hr hy hS H
    refine ⟨fun h => (by rw [h] at hr; cases hr), fun j hj => ?_⟩
    by_cases hji : j = i
    · subst hji; exact hy.wpOp hi hS ⟨.inr id, H⟩
    · have h1 := H.2 j (ready_mono hj hji)
      obtain ⟨hjun, oj, hoj, hall⟩ := mem_ready.1 hj
      have hnot : ∀ e ∈ oj.after, Region.binds md e = true → e.on ≠ i := fun e he hb heq => by
        have h1 := hall e he hb
        have h0 := (mem_ready.1 hr).1
        rw [heq] at h1
        rcases Nat.lt_or_ge i listed.size with h' | h'
        · simp [h'] at h0 h1; rw [h0] at h1; cases h1
        · simp [Array.getElem?_eq_none h'] at h1
      have hjex : ex j = true → False := fun he => by
        obtain ⟨e, h2, h3, h4⟩ := hex j oj hoj he
        exact hnot e h2 h3 h4
      have h2 := wpOp_putIf hoj (hfree j oj hoj hji hjun hnot) (fun cs b => hsel i oi cs b hi) (fun cs b => hsel j oj cs b hoj) hQ hy h1
      have hfree' : ∀ k ok, ops[k]? = some ok → k ≠ i → (listed.setIfInBounds j true).getD k true = false →
          (∀ e ∈ ok.after, Region.binds md e = true → e.on ≠ i) → oi.apart ops ok = true := fun k ok hk hki hun hno => by
        refine hfree k ok hk hki ?_ hno
        by_cases hjk : j = k
        · subst hjk; exact hjun
        · rw [getD_set_ne true hjk] at hun; exact hun
      refine wpOp_mono (fun a' w' h3 => ?_) h2
      have hSw : S w' := h3.2.1.resolve_left (fun he => hjex he) hS
      refine ⟨.inr (fun _ => hSw), ih (listed.setIfInBounds j true) a' w' hfree' (ready_mono hr (Ne.symm hji)) h3.1 hSw ?_⟩
      rw [Array.setIfInBounds_comm _ _ hji]
      exact h3.2.2
theorem wpAnyG_firstW {i : Nat} {oi : Oper} {v : Value} (hi : ops[i]? = some oi) (hsel : ∀ (j : Nat) (o : Oper) cs b, ops[j]? = some o → o.op ≠ .select cs b)
    (hQ : ∀ c a w, Q (.panic c) (a.put oi.dst v) w → Q (.panic c) a w) :
    ∀ (fuel : Nat) (listed : Array Bool) (a : Act) (w : World),
      (∀ j oj, ops[j]? = some oj → j ≠ i → listed.getD j true = false → (∀ e ∈ oj.after, Region.binds md e = true → e.on ≠ i) → oi.apart ops oj = true) →
      i ∈ Region.ready md ops listed → YieldsIf P ops (fun _ => True) oi v a →
      wpAnyG P md ops Q S ex fuel (listed.setIfInBounds i true) (a.put oi.dst v) w → wpAnyG P md ops Q S ex (fuel + 1) listed a w := by
  intro fuel
  induction fuel with
  | zero =>
    intro listed a w _ hr hy H
    refine ⟨fun h => (by rw [h] at hr; cases hr), fun j hj => ?_⟩
    by_cases hji : j = i
    · subst hji; exact hy.wpOp hi trivial ⟨.inr id, H⟩
    · have := ready_mono hj hji
      rw [H.1] at this
      cases this
  | succ fuel ih =>
    intro listed a w hfree hr hy H
    refine ⟨fun h => (by rw [h] at hr; cases hr), fun j hj => ?_⟩
    by_cases hji : j = i
    · subst hji; exact hy.wpOp hi trivial ⟨.inr id, H⟩
    · have h1 := H.2 j (ready_mono hj hji)
      obtain ⟨hjun, oj, hoj, hall⟩ := mem_ready.1 hj
      have hnot : ∀ e ∈ oj.after, Region.binds md e = true → e.on ≠ i := fun e he hb heq => by
        have h1 := hall e he hb
        have h0 := (mem_ready.1 hr).1
        rw [heq] at h1
        rcases Nat.lt_or_ge i listed.size with h' | h'
        · simp [h'] at h0 h1; rw [h0] at h1; cases h1
        · simp [Array.getElem?_eq_none h'] at h1
      have h2 := wpOp_putIf hoj (hfree j oj hoj hji hjun hnot) (fun cs b => hsel i oi cs b hi) (fun cs b => hsel j oj cs b hoj) hQ hy h1
      have hfree' : ∀ k ok, ops[k]? = some ok → k ≠ i → (listed.setIfInBounds j true).getD k true = false →
          (∀ e ∈ ok.after, Region.binds md e = true → e.on ≠ i) → oi.apart ops ok = true := fun k ok hk hki hun hno => by
        refine hfree k ok hk hki ?_ hno
        by_cases hjk : j = k
        · subst hjk; exact hjun
        · rw [getD_set_ne true hjk] at hun; exact hun
      refine wpOp_mono (fun a' w' h3 => ?_) h2
      refine ⟨h3.2.1, ih (listed.setIfInBounds j true) a' w' hfree' (ready_mono hr (Ne.symm hji)) h3.1 ?_⟩
      rw [Array.setIfInBounds_comm _ _ hji]
      exact h3.2.2
theorem wpAnyG_takeW {i : Nat} {oi : Oper} {v : Value} {fuel : Nat} {listed : Array Bool} {a : Act} {w : World} (hi : ops[i]? = some oi)
    (hs : Region.noSelect ops = true) (hf : Region.free md ops listed i = true) (hr : (Region.ready md ops listed).contains i = true)
    (hQ : ∀ c a w, Q (.panic c) (a.put oi.dst v) w → Q (.panic c) a w) (hy : YieldsIf P ops (fun _ => True) oi v a)
    (h : wpAnyG P md ops Q S ex fuel (listed.setIfInBounds i true) (a.put oi.dst v) w) : wpAnyG P md ops Q S ex (fuel + 1) listed a w :=
  wpAnyG_firstW hi (Region.noSelect_spec hs) hQ fuel listed a w (Region.free_spec hi hf) (by simpa using hr) hy h
theorem waitsB_spec {i : Nat} (h : waitsB md ops ex i = true) : ∀ j oj, ops[j]? = some oj → ex j = true → ∃ e ∈ oj.after, Region.binds md e = true ∧ e.on = i := by
  intro j oj hj he
  have h1 := (List.all_eq_true.1 h) j (List.mem_range.2 (Array.getElem?_eq_some_iff.1 hj).1)
  rw [hj, he] at h1
  simp only [Bool.not_true, Bool.false_or] at h1
  obtain ⟨k, hk, h2⟩ := Array.any_eq_true.1 h1
  simp only [Bool.and_eq_true, beq_iff_eq] at h2
  exact ⟨oj.after[k], Array.getElem_mem hk, h2.1, h2.2⟩
theorem wpAnyG_take {i : Nat} {oi : Oper} {v : Value} {fuel : Nat} {listed : Array Bool} {a : Act} {w : World} (hi : ops[i]? = some oi)
    (hs : Region.noSelect ops = true) (hf : Region.free md ops listed i = true) (hr : (Region.ready md ops listed).contains i = true) (hw : waitsB md ops ex i = true)
    (hQ : ∀ c a w, Q (.panic c) (a.put oi.dst v) w → Q (.panic c) a w) (hS : S w) (hy : YieldsIf P ops S oi v a)
    (h : wpAnyG P md ops Q S ex fuel (listed.setIfInBounds i true) (a.put oi.dst v) w) : wpAnyG P md ops Q S ex (fuel + 1) listed a w :=
  wpAnyG_first hi (Region.noSelect_spec hs) hQ (waitsB_spec hw) fuel listed a w (Region.free_spec hi hf) (by simpa using hr) hy hS h
theorem wpAnyG_one {i : Nat} {o : Oper} {fuel : Nat} {listed : Array Bool} {a : Act} {w : World} (hr : Region.ready md ops listed = [i]) (ho : ops[i]? = some o)
    (hS : S w) (h : ∀ K' : Act → World → Prop, Shut (∀ a w, (ex i = true ∨ S w) → wpAnyG P md ops Q S ex fuel (listed.setIfInBounds i true) a w → K' a w) → if Region.wanted o (yielded ops a.tmps) = true then Oper.wp P o a w K' Q else K' (a.put o.dst undef) w) : wpAnyG P md ops Q S ex (fuel + 1) listed a w :=
  ⟨fun h0 => (by rw [hr] at h0; cases h0), fun j hj => by
    rw [hr] at hj
    obtain rfl : j = i := by simpa using hj
    exact wpOp_step ho (fun K' hK => h K' (fun a w h1 h2 => hK a w ⟨h1.imp id (fun h3 _ => h3), h2⟩))⟩
theorem wpAnyG_done {listed : Array Bool} {a : Act} {w : World} (hr : Region.ready md ops listed = []) (h : Q .normal a w) : ∀ fuel, wpAnyG P md ops Q S ex fuel listed a w
  | 0 => ⟨hr, h⟩
  | _ + 1 => ⟨fun _ => h, by rw [hr]; simp⟩
theorem wp_region_G {id : Nat} {a : Act} {w : World} (S : World → Prop) (ex : Nat → Bool) (hm : P.follows .mixedOrders = true) (hS : S w.drew)
    (h : wpAnyG P .any ops Q S ex ops.size (Array.replicate ops.size false) a w.drew) : (Code.region id ops true).wp P Q a w :=
  wp_region_any hm (wpAny_of_G _ _ _ _ h)
end
end
section
variable {P : Program} {md : Region.Mode} {ops : Array Oper} {Q : Exit → Act → World → Prop} {S : World → Prop} {ex : Nat → Bool} {oi : Oper} {fuel : Nat} {listed : Array Bool} {a : Act} {w : World}
theorem tW (v : Value) (i : Nat) (hi : ops[i]? = some oi) (h2 : ∀ w, True → (execOp a.eval oi).run P w = .ok (.value v) w) (h : wpAnyG P md ops Q S ex fuel (listed.setIfInBounds i true) (a.put oi.dst v) w)
    (hs : Region.noSelect ops = true := by kernel_rfl) (hf : Region.free md ops listed i = true := by kernel_rfl) (hr : (Region.ready md ops listed).contains i = true := by kernel_rfl)
    (hQ : ∀ c a w, Q (.panic c) (a.put oi.dst v) w → Q (.panic c) a w := by exact fun _ _ _ h => h) (h1 : Region.wanted oi (yielded ops a.tmps) = true := by rfl) : wpAnyG P md ops Q S ex (fuel + 1) listed a w := wpAnyG_takeW hi hs hf hr hQ (.inl ⟨h1, h2⟩) h
theorem tL (v : Value) (i : Nat) (hi : ops[i]? = some oi) (hS : S w) (h2 : ∀ w, S w → (execOp a.eval oi).run P w = .ok (.value v) w) (h : wpAnyG P md ops Q S ex fuel (listed.setIfInBounds i true) (a.put oi.dst v) w)
    (hs : Region.noSelect ops = true := by kernel_rfl) (hf : Region.free md ops listed i = true := by kernel_rfl) (hr : (Region.ready md ops listed).contains i = true := by kernel_rfl) (hw : waitsB md ops ex i = true := by kernel_rfl)
    (hQ : ∀ c a w, Q (.panic c) (a.put oi.dst v) w → Q (.panic c) a w := by exact fun _ _ _ h => h) (h1 : Region.wanted oi (yielded ops a.tmps) = true := by rfl) : wpAnyG P md ops Q S ex (fuel + 1) listed a w := wpAnyG_take hi hs hf hr hw hQ hS (.inl ⟨h1, h2⟩) h
end
section
open Go.RowKit
section
variable {α : Type} {enc : α → List Value} {w : World}
theorem step_append_wp {P : Program} {o : Oper} {a : Act} {K : Act → World → Prop} {Q : Exit → Act → World → Prop} (s x : Operand) (t tx : TypeId)
    (ho : o.op = .call { callee := .builtin .append, args := #[s, x], argTypes := #[t, tx] })
    (lo hi : Nat) (e : TypeId) (i : TypeInfo) (z : Value) (size bytes : Nat) (ht : P.underlying t = some (.slice e)) (hinfo : P.info? e = some i) (hz : i.zero = some z)
    (hsize : i.size = size) (hby : i.bytes = bytes) (hzs : z.cells.size = size) (hbp : 0 < bytes)
    (ad : Option Addr) (n c : Nat) (zs : List α) (hs : a.eval s = .slice ad n c) (hF : FreshIn enc e size lo hi (.slice ad n c) zs w)
    (xv : Value) (ys : List α) (hx : a.eval x = xv) (hsrc : Src P size tx xv ys.length (ys.flatMap enc) w)
    (hbytes : (zs.length + ys.length) * bytes ≤ 140737488355328) (hlo : lo ≤ w.heap.size)
    (h : ∀ a' c' w' us, Hid (us = zs ++ ys) → FreshIn enc e size lo w'.heap.size (.slice a' us.length c') us w' → Mid lo hi w w' → (∀ k ∈ blkOf a', k ∈ blkOf ad ∨ k = w.heap.size) → K (a.put o.dst (.slice a' us.length c')) w') :
    Oper.wp P o a w K Q := by
  have hrow := hF.row
  obtain ⟨⟨a', cap', hv, h1, h2⟩, h3⟩ := hF
  cases hv
  have h63 : zs.length + ys.length ≤ maxLen := by
    have : zs.length + ys.length ≤ (zs.length + ys.length) * bytes := Nat.le_mul_of_pos_right _ hbp
    unfold maxLen; omega
  obtain ⟨v', w', hr, k1, k2, k3⟩ := run_append_own_src (P := P) w lo t tx o.type e i z size bytes ht hinfo hz hsize hby hzs _ zs.length (zs.flatMap enc) h2 xv ys.length (ys.flatMap enc) hsrc h63 hbytes hlo
  have hf : Fresh enc e size lo v' (zs ++ ys) w' := Fresh.of_own k1 (by simp) (by simp)
  obtain ⟨a1, c1, rfl, _⟩ := id hf
  unfold Oper.wp execOp
  simp only [ho, resolve, invoke, builtin, Sem.run_bind, Sem.run_pure, Result.andThen_ok, List.map_toArray, List.map_cons, List.map_nil, hs, hx, hr]
  refine h a1 c1 w' _ rfl hf.here (Mid.of_grown k2 hrow) (fun k hk => ?_)
  have hk' := (blkOf_own' (n := (zs ++ ys).length) (c := c1)).1 hk
  rcases k3 with k3 | k3
  · exact .inl ((blkOf_own' (n := zs.length) (c := c)).2 (k3 ▸ hk'))
  · rw [k3] at hk'
    exact .inr (Option.some.inj hk').symm
end
section
variable {α : Type} {enc : α → List Value} {w : World}
theorem step_append_ch {P : Program} {o : Oper} {a : Act} {K : Act → World → Prop} {Q : Exit → Act → World → Prop} (s x : Operand) (t tx : TypeId)
    (lo : Nat) (e : TypeId) (i : TypeInfo) (z : Value) (size bytes : Nat) (ht : P.underlying t = some (.slice e)) (hinfo : P.info? e = some i) (hz : i.zero = some z)
    (hsize : i.size = size) (hby : i.bytes = bytes) (hzs : z.cells.size = size) (hbp : 0 < bytes)
    (ad : Option Addr) (n c : Nat) (zs : List α) (hF : FreshIn enc e size lo w.heap.size (.slice ad n c) zs w)
    (xv : Value) (ys : List α) (hsrc : Src P size tx xv ys.length (ys.flatMap enc) w)
    (hbytes : (zs.length + ys.length) * bytes ≤ 140737488355328) (hlo : lo ≤ w.heap.size)
    (ho : o.op = .call { callee := .builtin .append, args := #[s, x], argTypes := #[t, tx] }) (hs : a.eval s = .slice ad n c) (hx : a.eval x = xv)
    (h : ∀ a' c' w' us, Hid (us = zs ++ ys) → FreshIn enc e size lo w'.heap.size (.slice a' us.length c') us w' → Ch (· ∈ blkOf ad) w w' → (∀ k ∈ blkOf a', k ∈ blkOf ad ∨ k = w.heap.size) → K (a.put o.dst (.slice a' us.length c')) w') : Oper.wp P o a w K Q := by
  obtain ⟨b, t1, t2, t3, t4⟩ := hF.tight
  refine step_append_wp s x t tx ho b (b + 1) e i z size bytes ht hinfo hz hsize hby hzs hbp ad n c zs hs t1 xv ys hx hsrc hbytes t2 ?_
  intro a' c' w' us hus hf hm hk
  refine h a' c' w' us hus ?_ (Ch.of_mid hm t3) hk
  rcases Nat.lt_or_ge b w.heap.size with hb | hb
  · exact hf.mono (t4 hb).2 (Nat.le_refl _)
  · exact hf.mono (by omega) (Nat.le_refl _)
end
end
section
open Go.RowKit
def Win {α : Type} (enc : α → List Value) (e : TypeId) (sz lo : Nat) (w : World) (ad : Option Addr) (c : Nat) (xs : List α) : Prop :=
  (ad = none ∧ c = 0 ∧ xs = []) ∨ ∃ g off cur, ad = some ⟨g, off, none⟩ ∧ lo ≤ g ∧ w.heap[g]? = some (.cells cur e (0, 0)) ∧ xs.length ≤ c ∧ off + c * sz ≤ cur.size ∧ c ≤ maxLen ∧ (cur.toList.drop off).take (xs.length * sz) = xs.flatMap enc
section
variable {α : Type} {enc : α → List Value} {e : TypeId} {sz lo : Nat} {w w' : World} {ad : Option Addr} {c : Nat} {xs : List α}
theorem Win.nil : Win enc e sz lo w none 0 [] := .inl ⟨rfl, rfl, rfl⟩
theorem Win.cap (h : Win enc e sz lo w ad c xs) : xs.length ≤ c ∧ c ≤ maxLen := by
  rcases h with ⟨_, rfl, rfl⟩ | ⟨g, off, cur, _, _, _, h1, _, h2, _⟩
  · exact ⟨Nat.le_refl _, Nat.zero_le _⟩
  · exact ⟨h1, h2⟩
theorem Win.blk (h : Win enc e sz lo w ad c xs) : ∀ k ∈ blkOf ad, lo ≤ k ∧ k < w.heap.size := by
  rcases h with ⟨rfl, _⟩ | ⟨g, off, cur, rfl, hlo, hg, _⟩
  · simp [blkOf]
  · intro k hk
    simp only [blkOf, List.mem_singleton] at hk
    subst hk
    exact ⟨hlo, (Array.getElem?_eq_some_iff.1 hg).1⟩
theorem Win.ch {M : Nat → Prop} (h : Win enc e sz lo w ad c xs) (hc : Ch M w w') (hM : ∀ k ∈ blkOf ad, ¬ M k) : Win enc e sz lo w' ad c xs := by
  rcases h with h | ⟨g, off, cur, rfl, hlo, hg, r⟩
  · exact .inl h
  · refine .inr ⟨g, off, cur, rfl, hlo, ?_, r⟩
    rw [hc.block g (Array.getElem?_eq_some_iff.1 hg).1 (hM g (by simp [blkOf]))]
    exact hg
theorem Win.below (h : Win enc e sz lo w ad c xs) (hb : Below w.heap.size w w') : Win enc e sz lo w' ad c xs := h.ch (M := fun _ => False) (Ch.of_below hb) (fun _ _ h => h)
theorem Win.alloc (h : Win enc e sz lo w ad c xs) (o : Obj) : Win enc e sz lo (w.alloc o) ad c xs := h.below ((Below.refl _ _).alloc (Nat.le_refl _) _)
theorem Win.drew (h : Win enc e sz lo w ad c xs) : Win enc e sz lo w.drew ad c xs := h.below ((Below.refl _ _).drew)
theorem Win.low {lo' : Nat} (h : Win enc e sz lo w ad c xs) (hl : lo' ≤ lo) : Win enc e sz lo' w ad c xs := by
  rcases h with h | ⟨g, off, cur, r1, r2, r3⟩
  · exact .inl h
  · exact .inr ⟨g, off, cur, r1, Nat.le_trans hl r2, r3⟩
theorem Win.cells (h : Win enc e sz lo w ad c xs) (h0 : xs ≠ []) : ∃ g off, ad = some ⟨g, off, none⟩ ∧ g < w.heap.size ∧ ∀ j u, (xs.flatMap enc)[j]? = some u → w.cell? ⟨g, off + j, none⟩ = some u := by
  rcases h with ⟨_, _, rfl⟩ | ⟨g, off, cur, rfl, hlo, hg, h1, h2, _, h3⟩
  · exact absurd rfl h0
  · refine ⟨g, off, rfl, (Array.getElem?_eq_some_iff.1 hg).1, fun j u hu => ?_⟩
    rw [← h3, List.getElem?_take] at hu
    split at hu
    · rw [List.getElem?_drop] at hu
      rw [cell_of_row w g _ cur e (0, 0) hg]
      simpa using hu
    · cases hu
theorem Win.sl (hs : ∀ x, (enc x).length = sz) (h : Win enc e sz lo w ad c xs) : Sl enc sz w ad xs := by
  by_cases h0 : xs = []
  · exact .inl h0
  · obtain ⟨g, off, rfl, hlt, hc⟩ := h.cells h0
    refine .inr ⟨g, off, rfl, hlt, fun i hi j hj => ?_⟩
    have h1 := flat_get enc sz hs xs i hi j hj
    have hlt : j < (enc xs[i]).length := by rw [hs]; exact hj
    rw [List.getElem?_eq_getElem hlt] at h1 ⊢
    have := hc _ _ h1
    rwa [← Nat.add_assoc] at this
theorem FreshIn.win {hi n : Nat} (h : FreshIn enc e sz lo hi (.slice ad n c) xs w) : Win enc e sz lo w ad c xs := by
  obtain ⟨⟨a', cap', hv, h1, h2⟩, h3⟩ := h
  cases hv
  rcases h2.2 with ⟨hv, hn⟩ | ⟨g, cap, cur, hv, hbg, hg, hnc, hcm, hcs, htake⟩
  · simp only [Value.slice.injEq] at hv
    obtain ⟨rfl, _, rfl⟩ := hv
    exact .inl ⟨rfl, rfl, List.eq_nil_of_length_eq_zero hn⟩
  · simp only [Value.slice.injEq] at hv
    obtain ⟨rfl, _, rfl⟩ := hv
    exact .inr ⟨g, 0, cur, rfl, hbg, hg, hnc, by omega, hcm, by simpa using htake⟩
theorem Win.tail {x : α} {g off : Nat} (hs : ∀ x, (enc x).length = sz) (h : Win enc e sz lo w (some ⟨g, off, none⟩) c (x :: xs)) : Win enc e sz lo w (some ⟨g, off + sz, none⟩) (c - 1) xs := by
  rcases h with ⟨h, _⟩ | ⟨g', off', cur, he, hlo, hg, h1, h2, h4, h3⟩
  · cases h
  · cases he
    simp only [List.length_cons] at h1 h3
    have e1 : c * sz = (c - 1) * sz + sz := by rw [← Nat.succ_mul]; congr 1; omega
    refine .inr ⟨g, off + sz, cur, rfl, hlo, hg, by omega, by omega, by omega, ?_⟩
    have h5 := congrArg (List.drop sz) h3
    rw [List.drop_take, List.drop_drop, List.flatMap_cons, List.drop_left' (hs x)] at h5
    rw [← h5]
    congr 1
    rw [Nat.succ_mul]
    omega
theorem Win.pre {ys : List α} (hs : ∀ x, (enc x).length = sz) (h : Win enc e sz lo w ad c (xs ++ ys)) : Win enc e sz lo w ad c xs := by
  rcases h with ⟨h1, h2, h3⟩ | ⟨g, off, cur, h1, hlo, hg, h2, h3, h4, h5⟩
  · exact .inl ⟨h1, h2, (List.append_eq_nil_iff.1 h3).1⟩
  · refine .inr ⟨g, off, cur, h1, hlo, hg, by simp at h2; omega, h3, h4, ?_⟩
    have h6 := congrArg (List.take (xs.length * sz)) h5
    rw [List.take_take, List.length_append, Nat.add_mul, Nat.min_eq_left (by omega), List.flatMap_append, ← flat_length enc sz hs xs, List.take_left] at h6
    rwa [flat_length enc sz hs xs] at h6
theorem run_append_win {P : Program} (t tx ty : TypeId) (i : TypeInfo) (z : Value) (bytes : Nat) (ht : P.underlying t = some (.slice e)) (hi : P.info? e = some i) (hz : i.zero = some z)
    (hsize : i.size = sz) (hby : i.bytes = bytes) (hzs : z.cells.size = sz) (hbp : 0 < bytes) (hs : ∀ x, (enc x).length = sz)
    (hw : Win enc e sz lo w ad c xs) (x : Value) (ys : List α) (hsrc : Src P sz tx x ys.length (ys.flatMap enc) w)
    (hbytes : (xs.length + ys.length) * bytes ≤ 140737488355328) (hlo : lo ≤ w.heap.size) :
    ∃ a' c' w', (Builtin.append_ #[t, tx] ty #[.slice ad xs.length c, x]).run P w = .ok (.slice a' (xs ++ ys).length c') w' ∧ Win enc e sz lo w' a' c' (xs ++ ys) ∧ Ch (· ∈ blkOf ad) w w' ∧ (∀ k ∈ blkOf a', k ∈ blkOf ad ∨ k = w.heap.size) ∧ Win enc e sz lo w' ad c xs ∧ ((a' = ad ∧ c' = c) ∨ ∀ k ∈ blkOf a', k = w.heap.size) := by
  subst hsize
  subst hby
  have hnl := hsrc.newsLen
  have h63 : xs.length + ys.length ≤ maxLen := by
    have : xs.length + ys.length ≤ (xs.length + ys.length) * i.bytes := Nat.le_mul_of_pos_right _ hbp
    unfold maxLen; omega
  have hsmall : ((xs.length + ys.length : Nat) : Int) ≤ 9223372036854775807 := by simp only [maxLen] at h63; omega
  have hlen := flat_length enc i.size hs (xs ++ ys)
  have hfl : xs.flatMap enc ++ ys.flatMap enc = (xs ++ ys).flatMap enc := by rw [List.flatMap_append]
  have hll : (xs ++ ys).length = xs.length + ys.length := by simp
  have grown : ∀ (old : Nat) (hr : (Builtin.append_ #[t, tx] ty #[.slice ad xs.length c, x]).run P w = .ok (.slice (some ⟨w.heap.size, 0, none⟩) (xs.length + ys.length) (grownCap w (xs.length + ys.length) old e)) (w.drew.alloc (.cells ((xs.flatMap enc ++ ys.flatMap enc).toArray ++ Builtin.zeroCells z.cells (grownCap w (xs.length + ys.length) old e - (xs.length + ys.length))) e))),
      ∃ a' c' w', (Builtin.append_ #[t, tx] ty #[.slice ad xs.length c, x]).run P w = .ok (.slice a' (xs ++ ys).length c') w' ∧ Win enc e i.size lo w' a' c' (xs ++ ys) ∧ Ch (· ∈ blkOf ad) w w' ∧ (∀ k ∈ blkOf a', k ∈ blkOf ad ∨ k = w.heap.size) ∧ Win enc e i.size lo w' ad c xs ∧ ((a' = ad ∧ c' = c) ∨ ∀ k ∈ blkOf a', k = w.heap.size) := by
    intro old hr
    have hge := grownCap_ge w (xs.length + ys.length) old e
    have hcm : grownCap w (xs.length + ys.length) old e ≤ maxLen := grownCap_le_maxLen w (xs.length + ys.length) old e h63
    refine ⟨_, _, _, by rw [hll]; exact hr, .inr ⟨w.heap.size, 0, _, rfl, hlo, heap_alloc_new w.drew _, by rw [hll]; exact hge, ?_, hcm, ?_⟩, (Ch.refl.drew).alloc _, fun k hk => .inr (by simpa [blkOf] using hk), hw.ch (M := fun _ => False) ((Ch.refl.drew).alloc _) (fun _ _ h => h), .inr (fun k hk => by simpa [blkOf] using hk)⟩
    · simp only [Array.size_append, List.size_toArray, size_zeroCells, hzs]
      rw [hfl, hlen, hll, ← Nat.add_mul, Nat.zero_add]
      exact Nat.mul_le_mul_right _ (by omega)
    · rw [List.drop_zero, ← hlen, ← hfl, Array.toList_append]
      exact List.take_left
  by_cases h0 : xs = [] ∧ ad = none
  · obtain ⟨rfl, rfl⟩ := h0
    obtain rfl : c = 0 := by
      rcases hw with ⟨_, h, _⟩ | ⟨_, _, _, h, _⟩
      · exact h
      · cases h
    by_cases hm : ys.length = 0
    · obtain rfl : ys = [] := List.eq_nil_of_length_eq_zero hm
      exact ⟨none, 0, w, run_append_nothing w t tx ty e i ht hi none 0 0 (Nat.le_refl _) x hsrc, .inl ⟨rfl, rfl, rfl⟩, Ch.refl, fun k hk => .inl hk, .inl ⟨rfl, rfl, rfl⟩, .inl ⟨rfl, rfl⟩⟩
    · have hr := run_append_grow_src (P := P) w t tx ty e i z ht hi hz none 0 0 [] (run_firstCells_none w.drew i.size 0 0 0) x ys.length (ys.flatMap enc) hsrc (by omega) (by simpa using hsmall) (growslice_fits (by omega) (by simpa using hbytes))
      exact grown 0 (by simpa using hr)
  · have hw' := hw
    rcases hw' with ⟨h1, _, h2⟩ | ⟨g, off, cur, rfl, hlo', hg, h1, h2, h4, h3⟩
    · exact absurd ⟨h2, h1⟩ h0
    · by_cases hroom : xs.length + ys.length ≤ c
      · have hk : (xs.length + ys.length) * i.size ≤ c * i.size := Nat.mul_le_mul_right _ hroom
        rw [Nat.add_mul] at hk
        have hcl : ∀ j, j < (ys.flatMap enc).length → (w.cell? ⟨g, off + xs.length * i.size + j, none⟩).isSome = true := by
          intro j hj
          rw [cell_of_row w g _ cur e (0, 0) hg, Array.getElem?_eq_getElem (by omega)]
          rfl
        have hf : ∀ j, j < (ys.flatMap enc).length → w.frozen? ⟨g, off + xs.length * i.size + j, none⟩ = false := fun j hj => frozen_of_row w g _ cur e hg
        have hr := run_append_room_src (P := P) w t tx ty e i ht hi g off xs.length c x ys.length (ys.flatMap enc) hsrc hroom hcl hf
        obtain ⟨cur', k1, k2, k3⟩ := setCells_own g e (ys.flatMap enc) (off + xs.length * i.size) w cur hg (by omega)
        have hgr := setCells_grown g (ys.flatMap enc) (off + xs.length * i.size) w
        refine ⟨_, _, _, by rw [hll]; exact hr, .inr ⟨g, off, cur', rfl, hlo', k1, by rw [hll]; exact hroom, by omega, h4, ?_⟩, ⟨hgr.os, hgr.tape, hgr.output, hgr.size, fun k hk hne => hgr.block k hk (fun e => hne (by cases e; simp [blkOf]))⟩, fun k hk => .inl hk, .inr ⟨g, off, cur', rfl, hlo', k1, h1, by omega, h4, ?_⟩, .inl ⟨rfl, rfl⟩⟩
        rotate_left
        · have hcl0 : cur.toList.length = cur.size := Array.length_toList
          have k5 := congrArg (List.take (off + xs.length * i.size)) k3
          rw [List.take_take, Nat.min_eq_left (by omega), List.take_append_of_le_length (by rw [List.length_take]; omega), List.take_take, Nat.min_self] at k5
          have k6 := congrArg (List.drop off) k5
          rw [List.drop_take, List.drop_take, show off + xs.length * i.size - off = xs.length * i.size by omega, h3] at k6
          exact k6
        have e1 : (xs ++ ys).length * i.size = xs.length * i.size + (ys.flatMap enc).length := by rw [hll, Nat.add_mul, hnl]
        have hcl0 : cur.toList.length = cur.size := Array.length_toList
        have k4 := congrArg (List.drop off) k3
        rw [List.drop_take, show off + xs.length * i.size + (ys.flatMap enc).length - off = xs.length * i.size + (ys.flatMap enc).length by omega, List.drop_append_of_le_length (by rw [List.length_take]; omega), List.drop_take, show off + xs.length * i.size - off = xs.length * i.size by omega, h3] at k4
        rw [e1, k4, hfl]
      · have holds : ∀ j u, (xs.flatMap enc)[j]? = some u → w.drew.cell? ((⟨g, off, none⟩ : Addr).add j) = some u := by
          intro j u hu
          rw [← h3, List.getElem?_take] at hu
          split at hu
          · rw [List.getElem?_drop] at hu
            rw [Addr.add_lit, World.cell?_drew, cell_of_row w g _ cur e (0, 0) hg]
            simpa using hu
          · cases hu
        have hr := run_append_grow_src (P := P) w t tx ty e i z ht hi hz (some ⟨g, off, none⟩) xs.length c (xs.flatMap enc) (run_firstCells_some w.drew i.size xs.length ⟨g, off, none⟩ xs.length c (xs.flatMap enc) (flat_length enc i.size hs xs) holds) x ys.length (ys.flatMap enc) hsrc (by omega) hsmall (growslice_fits (by omega) hbytes)
        exact grown c hr
theorem step_append_win {P : Program} {o : Oper} {a : Act} {K : Act → World → Prop} {Q : Exit → Act → World → Prop} (s x : Operand) (t tx : TypeId)
    (i : TypeInfo) (z : Value) (bytes : Nat) (ht : P.underlying t = some (.slice e)) (hi : P.info? e = some i) (hz : i.zero = some z)
    (hsize : i.size = sz) (hby : i.bytes = bytes) (hzs : z.cells.size = sz) (hbp : 0 < bytes) (hs : ∀ x, (enc x).length = sz)
    (n : Nat) (hn : xs.length = n) (hw : Win enc e sz lo w ad c xs) (xv : Value) (ys : List α) (hsrc : Src P sz tx xv ys.length (ys.flatMap enc) w)
    (hbytes : (xs.length + ys.length) * bytes ≤ 140737488355328) (hlo : lo ≤ w.heap.size)
    (ho : o.op = .call { callee := .builtin .append, args := #[s, x], argTypes := #[t, tx] }) (hv : a.eval s = .slice ad n c) (hx : a.eval x = xv)
    (h : ∀ a' c' w' us, Hid (us = xs ++ ys) → Win enc e sz lo w' a' c' us → Ch (· ∈ blkOf ad) w w' → (∀ k ∈ blkOf a', k ∈ blkOf ad ∨ k = w.heap.size) → Win enc e sz lo w' ad c xs → ((a' = ad ∧ c' = c) ∨ ∀ k ∈ blkOf a', k = w.heap.size) → K (a.put o.dst (.slice a' us.length c')) w') : Oper.wp P o a w K Q := by
  subst hn
  obtain ⟨a', c', w', hr, k1, k2, k3, k4, k5⟩ := run_append_win (P := P) t tx o.type i z bytes ht hi hz hsize hby hzs hbp hs hw xv ys hsrc hbytes hlo
  unfold Oper.wp execOp
  simp only [ho, resolve, invoke, builtin, Sem.run_bind, Sem.run_pure, Result.andThen_ok, List.map_toArray, List.map_cons, List.map_nil, hv, hx, hr]
  exact h a' c' w' _ rfl k1 k2 k3 k4 k5
end
end
section
open Go.RowKit
structure PV where
  state : Int
  args : List Int
  priv : Bool
  text : ByteArray
  utf : ByteArray
structure AV where
  kind : Int
  n : Int
  priv : Bool
  args : List Int
  text : ByteArray
abbrev e0 : ByteArray := ⟨#[]⟩
def pz : PV := ⟨0, [], false, e0, e0⟩
def pst (s : Int) : PV := ⟨s, [], false, e0, e0⟩
def ctl (b : Nat) : Bool := (decide (7 ≤ b) && decide (b ≤ 10)) || b == 13
def esc (b : Nat) : Bool := b == 55 || b == 56 || b == 68 || b == 69 || b == 77 || b == 99
def utfLen (b : Nat) : Nat := if b < 194 ∨ 244 < b then 0 else if b < 224 then 2 else if b < 240 then 3 else 4
def lowOf (l : List UInt8) : Nat := match l with
  | [a] => if a.toNat = 224 then 160 else if a.toNat = 240 then 144 else 128
  | _ => 128
def highOf (l : List UInt8) : Nat := match l with
  | [a] => if a.toNat = 237 then 159 else if a.toNat = 244 then 143 else 191
  | _ => 191
def mayF (l : List UInt8) (b : Nat) : Bool := decide (lowOf l ≤ b) && decide (b ≤ highOf l)
def pr (n : Int) : AV := ⟨1, n, false, [], e0⟩
def gstep (b : UInt8) : PV × List AV :=
  if b.toNat = 27 then (pst 1, [])
  else if ctl b.toNat = true then (pz, [⟨2, b.toNat, false, [], e0⟩])
  else if 32 ≤ b.toNat ∧ b.toNat ≤ 126 then (pz, [pr b.toNat])
  else if b.toNat < 128 then (pz, [])
  else if 0 < utfLen b.toNat then (⟨6, [], false, e0, ⟨#[b]⟩⟩, [])
  else (pz, [pr 65533])
def rnV (l : List UInt8) : Int := match l with
  | [a, b] => (a.toNat - 192) * 64 + (b.toNat - 128)
  | [a, b, c] => ((a.toNat - 224) * 64 + (b.toNat - 128)) * 64 + (c.toNat - 128)
  | [a, b, c, d] => (((a.toNat - 240) * 64 + (b.toNat - 128)) * 64 + (c.toNat - 128)) * 64 + (d.toNat - 128)
  | _ => 0
def ustep (p : PV) (b : UInt8) : PV × List AV :=
  if mayF p.utf.data.toList b.toNat = false then ((gstep b).1, pr 65533 :: (gstep b).2)
  else if p.utf.size + 1 < utfLen (p.utf.data.toList.headD 0).toNat then ({ p with utf := p.utf ++ ⟨#[b]⟩ }, [])
  else (pz, [pr (rnV (p.utf.data.toList ++ [b]))])
def estep (b : UInt8) : PV × List AV :=
  if b.toNat = 91 then (⟨2, [-1], false, e0, e0⟩, [])
  else if b.toNat = 93 then (pst 4, [])
  else if b.toNat = 27 then (pst 1, [])
  else if esc b.toNat = true then (pz, [⟨3, b.toNat, false, [], e0⟩])
  else (pz, [])
def lastA (l : List Int) : Int := l.getLastD 0
def cstep (p : PV) (b : UInt8) : PV × List AV :=
  if b.toNat = 27 then (pst 1, [])
  else if ctl b.toNat = true then (p, [⟨2, b.toNat, false, [], e0⟩])
  else if 48 ≤ b.toNat ∧ b.toNat ≤ 57 then ({ p with args := p.args.dropLast ++ [min 9999 (max 0 (lastA p.args) * 10 + ((b.toNat : Int) - 48))] }, [])
  else if b.toNat = 59 ∧ p.args.length < 8 then ({ p with args := p.args ++ [-1] }, [])
  else if b.toNat = 63 ∧ p.args = [-1] ∧ p.priv = false then ({ p with priv := true }, [])
  else if 64 ≤ b.toNat ∧ b.toNat ≤ 126 then (pz, [⟨4, b.toNat, p.priv, p.args, e0⟩])
  else (pst 3, [])
def sstep (p : PV) (b : UInt8) : PV × List AV :=
  if b.toNat = 27 then (pst 1, []) else if 64 ≤ b.toNat ∧ b.toNat ≤ 126 then (pz, []) else (p, [])
def ostep (p : PV) (b : UInt8) : PV × List AV :=
  if b.toNat = 7 then (pz, [⟨5, 0, false, [], p.text⟩])
  else if b.toNat = 27 then ({ p with state := 5 }, [])
  else if (32 ≤ b.toNat ∧ b.toNat ≤ 126) ∧ p.text.size < 40 then ({ p with text := p.text ++ ⟨#[b]⟩ }, [])
  else (p, [])
def qstep (p : PV) (b : UInt8) : PV × List AV :=
  if b.toNat = 92 then (pz, [⟨5, 0, false, [], p.text⟩]) else estep b
def pstep (p : PV) (b : UInt8) : PV × List AV :=
  if p.state = 0 then gstep b
  else if p.state = 1 then estep b
  else if p.state = 2 then cstep p b
  else if p.state = 3 then sstep p b
  else if p.state = 4 then ostep p b
  else if p.state = 5 then qstep p b
  else ustep p b
def prun (p : PV) : List UInt8 → PV × List AV
  | [] => (p, [])
  | b :: l => ((prun (pstep p b).1 l).1, (pstep p b).2 ++ (prun (pstep p b).1 l).2)
theorem prun_append (p : PV) (l m : List UInt8) : prun p (l ++ m) = ((prun (prun p l).1 m).1, (prun p l).2 ++ (prun (prun p l).1 m).2) := by
  induction l generalizing p with
  | nil => simp [prun]
  | cons b l ih => simp [prun, ih]
def titB (t : ByteArray) : Bool := decide (t.size ≤ 40) && t.data.toList.all (fun b => decide (32 ≤ b.toNat) && decide (b.toNat ≤ 126))
def begB (l : List UInt8) : Bool := decide (0 < l.length) && decide (l.length < utfLen (l.headD 0).toNat) && (List.range l.length).all (fun i => i == 0 || mayF (l.take i) (l.getD i 0).toNat)
def argsB (l : List Int) : Bool := decide (1 ≤ l.length) && decide (l.length ≤ 8) && l.all (fun n => decide (-1 ≤ n) && decide (n ≤ 9999))
structure PvOK (p : PV) : Prop where
  st : 0 ≤ p.state ∧ p.state ≤ 6
  csi : p.state = 2 → argsB p.args = true
  nocsi : p.state ≠ 2 → p.args = [] ∧ p.priv = false
  osc : p.state = 4 ∨ p.state = 5 → titB p.text = true
  noosc : p.state ≠ 4 → p.state ≠ 5 → p.text = e0
  ut : p.state = 6 → begB p.utf.data.toList = true
  nout : p.state ≠ 6 → p.utf = e0
theorem titB_e0 : titB e0 = true := by decide
theorem PvOK.z : PvOK pz := by refine ⟨by simp [pz], by simp [pz], by simp [pz], by simp [pz], by simp [pz], by simp [pz], by simp [pz]⟩
theorem PvOK.pst (s : Int) (h : s = 0 ∨ s = 1 ∨ s = 3 ∨ s = 4) : PvOK (pst s) := by
  rcases h with rfl | rfl | rfl | rfl <;> exact ⟨by decide, by simp [Go.Proofs.Ytjmpgeffkdjpdaa.pst], by simp [Go.Proofs.Ytjmpgeffkdjpdaa.pst], fun _ => titB_e0, fun _ _ => rfl, by simp [Go.Proofs.Ytjmpgeffkdjpdaa.pst], fun _ => rfl⟩
theorem utfLen_two {b : Nat} (h : 0 < utfLen b) : 2 ≤ utfLen b := by
  unfold utfLen at *
  split at h
  · omega
  · rename_i h1
    rw [if_neg h1]
    split <;> (try split) <;> omega
theorem gstep_ok (b : UInt8) : PvOK (gstep b).1 := by
  unfold gstep
  repeat' split
  · exact PvOK.pst 1 (by simp)
  · exact PvOK.z
  · exact PvOK.z
  · exact PvOK.z
  · rename_i h
    have h2 := utfLen_two h
    refine ⟨by simp, by simp, by simp, by simp, by simp, fun _ => ?_, by simp⟩
    simp [begB]
    omega
  · exact PvOK.z
theorem estep_ok (b : UInt8) : PvOK (estep b).1 := by
  unfold estep
  repeat' split
  · exact ⟨by decide, fun _ => by decide, by simp, by simp, fun _ _ => rfl, by simp, fun _ => rfl⟩
  · exact PvOK.pst 4 (by simp)
  · exact PvOK.pst 1 (by simp)
  · exact PvOK.z
  · exact PvOK.z
theorem begB_snoc {l : List UInt8} {b : UInt8} (h : begB l = true) (hm : mayF l b.toNat = true) (hl : l.length + 1 < utfLen (l.headD 0).toNat) : begB (l ++ [b]) = true := by
  simp only [begB, Bool.and_eq_true, decide_eq_true_eq, List.all_eq_true, List.mem_range, Bool.or_eq_true, beq_iff_eq] at *
  obtain ⟨⟨h1, h2⟩, h3⟩ := h
  have hh : (l ++ [b]).headD 0 = l.headD 0 := by cases l with
    | nil => simp at h1
    | cons a l => rfl
  refine ⟨⟨by simp, by rw [hh]; simpa using hl⟩, fun i hi => ?_⟩
  have hi' : i < l.length + 1 := by simpa using hi
  by_cases hil : i < l.length
  · rcases h3 i hil with h4 | h4
    · exact .inl h4
    · refine .inr ?_
      rw [List.take_append_of_le_length (Nat.le_of_lt hil)]
      simp only [List.getD_eq_getElem?_getD, List.getElem?_append_left hil] at h4 ⊢
      exact h4
  · have : i = l.length := by omega
    subst this
    refine .inr ?_
    rw [List.take_append_of_le_length (Nat.le_refl _), List.take_length]
    simpa [List.getD_eq_getElem?_getD] using hm
theorem pstep_ok {p : PV} (h : PvOK p) (b : UInt8) : PvOK (pstep p b).1 := by
  obtain ⟨a, hb, c, d, e, f, g⟩ := h
  unfold pstep
  repeat' split
  · exact gstep_ok b
  · exact estep_ok b
  · rename_i h2
    have hA := hb h2
    have hT := e (by omega) (by omega)
    have hU := g (by omega)
    have hA' := hA
    simp only [argsB, Bool.and_eq_true, decide_eq_true_eq, List.all_eq_true] at hA'
    obtain ⟨⟨l1, l8⟩, hall⟩ := hA'
    unfold cstep
    repeat' split
    · exact PvOK.pst 1 (by simp)
    · exact ⟨a, hb, c, d, e, f, g⟩
    · rename_i h48
      refine ⟨a, fun _ => ?_, fun h9 => absurd h2 h9, fun h9 => by simp at h9; omega, fun _ _ => hT, fun h9 => by simp at h9; omega, fun _ => hU⟩
      have hne : p.args ≠ [] := by intro h; rw [h] at l1; simp at l1
      simp only [argsB, Bool.and_eq_true, decide_eq_true_eq, List.all_eq_true]
      refine ⟨⟨by simp, by simp; omega⟩, fun x hx => ?_⟩
      rcases List.mem_append.1 hx with hx | hx
      · exact hall x (List.dropLast_subset _ hx)
      · simp at hx
        subst hx
        omega
    · rename_i h59
      refine ⟨a, fun _ => ?_, fun h9 => absurd h2 h9, fun h9 => by simp at h9; omega, fun _ _ => hT, fun h9 => by simp at h9; omega, fun _ => hU⟩
      simp only [argsB, Bool.and_eq_true, decide_eq_true_eq, List.all_eq_true]
      refine ⟨⟨by simp, by simp; omega⟩, fun x hx => ?_⟩
      rcases List.mem_append.1 hx with hx | hx
      · exact hall x hx
      · simp at hx
        subst hx
        omega
    · exact ⟨a, hb, fun h9 => absurd h2 h9, d, e, f, g⟩
    · exact PvOK.z
    · exact PvOK.pst 3 (by simp)
  · unfold sstep
    repeat' split
    · exact PvOK.pst 1 (by simp)
    · exact PvOK.z
    · exact ⟨a, hb, c, d, e, f, g⟩
  · rename_i h4
    have hT := d (.inl h4)
    unfold ostep
    repeat' split
    · exact PvOK.z
    · exact ⟨by simp, by simp, fun _ => c (by omega), fun _ => hT, by simp, by simp, fun _ => g (by omega)⟩
    · rename_i hb2
      refine ⟨a, hb, c, fun _ => ?_, fun h9 _ => absurd h4 h9, f, g⟩
      simp only [titB, Bool.and_eq_true, decide_eq_true_eq, List.all_eq_true] at *
      refine ⟨by rw [ByteArray.size_append]; show _ + 1 ≤ _; omega, fun x hx => ?_⟩
      simp only [ByteArray.data_append, Array.toList_append, List.mem_append] at hx
      rcases hx with hx | hx
      · exact hT.2 x hx
      · simp at hx
        subst hx
        exact hb2.1
    · exact ⟨a, hb, c, d, e, f, g⟩
  · unfold qstep
    repeat' split
    · exact PvOK.z
    · exact estep_ok b
  · rename_i h0 h1 h2 h3 h4 h5
    have h6 : p.state = 6 := by omega
    unfold ustep
    repeat' split
    · exact gstep_ok b
    · rename_i hm hl
      refine ⟨a, hb, c, d, e, fun _ => ?_, fun h9 => absurd h6 h9⟩
      have hs : p.utf.data.toList.length = p.utf.size := rfl
      have := begB_snoc (f h6) (by simpa using hm) (by rw [hs]; exact hl)
      simpa using this
    · exact PvOK.z
theorem prun_ok (l : List UInt8) {p : PV} (h : PvOK p) : PvOK (prun p l).1 := by
  induction l generalizing p with
  | nil => exact h
  | cons b l ih => exact ih (pstep_ok h b)
end
section
open Go.RowKit
def rnOK (n : Int) : Prop := 32 ≤ n ∧ n ≤ 1114111 ∧ n ≠ 127 ∧ ¬ (55296 ≤ n ∧ n ≤ 57343)
def ctlN (n : Int) : Prop := (7 ≤ n ∧ n ≤ 10) ∨ n = 13
def escN (n : Int) : Prop := n = 55 ∨ n = 56 ∨ n = 68 ∨ n = 69 ∨ n = 77 ∨ n = 99
def AcOK (a : AV) : Prop :=
  (a.kind = 4 ∧ a.text = e0 ∧ argsB a.args = true ∧ 64 ≤ a.n ∧ a.n ≤ 126) ∨
  (a.priv = false ∧ a.args = [] ∧ ((a.kind = 5 ∧ a.n = 0 ∧ titB a.text = true) ∨ (a.text = e0 ∧ ((a.kind = 1 ∧ rnOK a.n) ∨ (a.kind = 2 ∧ ctlN a.n) ∨ (a.kind = 3 ∧ escN a.n)))))
abbrev u8 (n : Nat) : UInt8 := UInt8.ofNat n
theorem u8N {n : Nat} (h : n < 256) : (u8 n).toNat = n := by
  show n % 256 = n
  omega
def utfB (n : Nat) : List UInt8 :=
  if n < 128 then [u8 n] else if n < 2048 then [u8 (192 + n / 64), u8 (128 + n % 64)]
  else if n < 65536 then [u8 (224 + n / 4096), u8 (128 + n / 64 % 64), u8 (128 + n % 64)]
  else [u8 (240 + n / 262144), u8 (128 + n / 4096 % 64), u8 (128 + n / 64 % 64), u8 (128 + n % 64)]
end
section
open Go.RowKit
theorem utfB_len (n : Nat) : (utfB n).length ≤ 4 := by unfold utfB; (repeat' split) <;> simp
theorem gstep_ac (b : UInt8) : ∀ a ∈ (gstep b).2, AcOK a := by
  unfold gstep
  repeat' split
  · simp
  · rename_i h
    intro a ha
    simp only [List.mem_singleton] at ha
    subst ha
    refine .inr ⟨rfl, rfl, .inr ⟨rfl, .inr (.inl ⟨rfl, ?_⟩)⟩⟩
    simp only [ctl, Bool.or_eq_true, Bool.and_eq_true, decide_eq_true_eq, beq_iff_eq] at h
    unfold ctlN
    simp only
    omega
  · rename_i h
    intro a ha
    simp only [List.mem_singleton] at ha
    subst ha
    refine .inr ⟨rfl, rfl, .inr ⟨rfl, .inl ⟨rfl, ?_⟩⟩⟩
    unfold rnOK
    simp only [pr]
    omega
  · simp
  · simp
  · intro a ha
    simp only [List.mem_singleton] at ha
    subst ha
    exact .inr ⟨rfl, rfl, .inr ⟨rfl, .inl ⟨rfl, by unfold rnOK; simp only [pr]; omega⟩⟩⟩
theorem estep_ac (b : UInt8) : ∀ a ∈ (estep b).2, AcOK a := by
  unfold estep
  repeat' split
  · simp
  · simp
  · simp
  · rename_i h
    intro a ha
    simp only [List.mem_singleton] at ha
    subst ha
    refine .inr ⟨rfl, rfl, .inr ⟨rfl, .inr (.inr ⟨rfl, ?_⟩)⟩⟩
    simp only [esc, Bool.or_eq_true, beq_iff_eq] at h
    unfold escN
    simp only
    omega
  · simp
theorem may_one {x : UInt8} {b : Nat} (h : mayF [x] b = true) : (if x.toNat = 224 then 160 else if x.toNat = 240 then 144 else 128) ≤ b ∧ b ≤ (if x.toNat = 237 then 159 else if x.toNat = 244 then 143 else 191) := by
  have h1 : (decide ((if x.toNat = 224 then 160 else if x.toNat = 240 then 144 else 128) ≤ b) && decide (b ≤ (if x.toNat = 237 then 159 else if x.toNat = 244 then 143 else 191))) = true := h
  simpa only [Bool.and_eq_true, decide_eq_true_eq] using h1
theorem ustep_ac {p : PV} (hu : begB p.utf.data.toList = true) (b : UInt8) : ∀ a ∈ (ustep p b).2, AcOK a := by
  unfold ustep
  split
  · intro a ha
    simp only [List.mem_cons] at ha
    rcases ha with rfl | ha
    · exact .inr ⟨rfl, rfl, .inr ⟨rfl, .inl ⟨rfl, by unfold rnOK; simp only [pr]; omega⟩⟩⟩
    · exact gstep_ac b a ha
  · rename_i hm
    split
    · simp
    · rename_i hl
      intro a ha
      simp only [List.mem_singleton] at ha
      subst ha
      refine .inr ⟨rfl, rfl, .inr ⟨rfl, .inl ⟨rfl, ?_⟩⟩⟩
      simp only [pr]
      have hs : p.utf.size = p.utf.data.toList.length := rfl
      rw [hs] at hl
      generalize p.utf.data.toList = l at hu hm hl
      simp only [begB, Bool.and_eq_true, decide_eq_true_eq, List.all_eq_true, List.mem_range, Bool.or_eq_true, beq_iff_eq] at hu
      obtain ⟨⟨u1, u2⟩, u3⟩ := hu
      have hmt : mayF l b.toNat = true := by simpa using hm
      clear hm hs
      have hb := b.toNat_lt
      match l, u1, u2, u3, hl, hmt with
      | [x], _, u2, u3, hl, hmt =>
        have hx := x.toNat_lt
        simp only [List.headD_cons, List.length_cons, List.length_nil] at u2 hl
        obtain ⟨v3, v4⟩ := may_one hmt
        clear hmt u3
        simp only [List.cons_append, List.nil_append, rnV, rnOK]
        unfold utfLen at u2 hl
        (repeat' split at u2) <;> (repeat' split at hl) <;> (repeat' split at v3) <;> (repeat' split at v4) <;> omega
      | [x, y], _, u2, u3, hl, hmt =>
        have hx := x.toNat_lt
        have hy := y.toNat_lt
        have v1 := u3 1 (by simp)
        simp only [List.headD_cons, List.length_cons, List.length_nil] at u2 hl
        have v2 : mayF [x] y.toNat = true := by
          rcases v1 with h | h
          · cases h
          · exact h
        obtain ⟨v3, v4⟩ := may_one v2
        clear v2
        have hmt2 : 128 ≤ b.toNat ∧ b.toNat ≤ 191 := by
          have : (decide (128 ≤ b.toNat) && decide (b.toNat ≤ 191)) = true := hmt
          simpa using this
        simp only [List.cons_append, List.nil_append, rnV, rnOK]
        unfold utfLen at u2 hl
        clear hmt v1 u3
        (repeat' split at u2) <;> (repeat' split at hl) <;> (repeat' split at v3) <;> (repeat' split at v4) <;> omega
      | [x, y, z], _, u2, u3, hl, hmt =>
        have hx := x.toNat_lt
        have hy := y.toNat_lt
        have hz := z.toNat_lt
        have v1 := u3 1 (by simp)
        have w1 := u3 2 (by simp)
        simp only [List.headD_cons, List.length_cons, List.length_nil] at u2 hl
        have v2 : mayF [x] y.toNat = true := by
          rcases v1 with h | h
          · cases h
          · exact h
        have w2 : 128 ≤ z.toNat ∧ z.toNat ≤ 191 := by
          rcases w1 with h | h
          · cases h
          · have : (decide (128 ≤ z.toNat) && decide (z.toNat ≤ 191)) = true := h
            simpa using this
        obtain ⟨v3, v4⟩ := may_one v2
        clear v2
        have hmt2 : 128 ≤ b.toNat ∧ b.toNat ≤ 191 := by
          have : (decide (128 ≤ b.toNat) && decide (b.toNat ≤ 191)) = true := hmt
          simpa using this
        simp only [List.cons_append, List.nil_append, rnV, rnOK]
        unfold utfLen at u2 hl
        clear hmt v1 w1 u3
        (repeat' split at u2) <;> (repeat' split at hl) <;> (repeat' split at v3) <;> (repeat' split at v4) <;> omega
      | x :: y :: z :: q :: l, _, u2, _, _, _ =>
        exfalso
        simp only [List.headD_cons, List.length_cons] at u2
        unfold utfLen at u2
        (repeat' split at u2) <;> omega
theorem pstep_ac {p : PV} (h : PvOK p) (b : UInt8) : ∀ a ∈ (pstep p b).2, AcOK a := by
  unfold pstep
  repeat' split
  · exact gstep_ac b
  · exact estep_ac b
  · rename_i h2
    have hA := h.csi h2
    unfold cstep
    repeat' split
    · simp
    · rename_i hc
      intro a ha
      simp only [List.mem_singleton] at ha
      subst ha
      refine .inr ⟨rfl, rfl, .inr ⟨rfl, .inr (.inl ⟨rfl, ?_⟩)⟩⟩
      simp only [ctl, Bool.or_eq_true, Bool.and_eq_true, decide_eq_true_eq, beq_iff_eq] at hc
      unfold ctlN
      simp only
      omega
    · simp
    · simp
    · simp
    · rename_i h6
      intro a ha
      simp only [List.mem_singleton] at ha
      subst ha
      exact .inl ⟨rfl, rfl, hA, by simp only; omega, by simp only; omega⟩
    · simp
  · unfold sstep
    repeat' split
    · simp
    · simp
    · simp
  · rename_i h4
    unfold ostep
    repeat' split
    · intro a ha
      simp only [List.mem_singleton] at ha
      subst ha
      exact .inr ⟨rfl, rfl, .inl ⟨rfl, rfl, h.osc (.inl h4)⟩⟩
    · simp
    · simp
    · simp
  · rename_i h5
    unfold qstep
    split
    · intro a ha
      simp only [List.mem_singleton] at ha
      subst ha
      exact .inr ⟨rfl, rfl, .inl ⟨rfl, rfl, h.osc (.inr h5)⟩⟩
    · exact estep_ac b
  · exact ustep_ac (h.ut (by have := h.st; omega)) b
theorem prun_ac (l : List UInt8) {p : PV} (h : PvOK p) : ∀ a ∈ (prun p l).2, AcOK a := by
  induction l generalizing p with
  | nil => simp [prun]
  | cons b l ih =>
    intro a ha
    simp only [prun, List.mem_append] at ha
    rcases ha with ha | ha
    · exact pstep_ac h b a ha
    · exact ih (pstep_ok h b) a ha
end
section
open Go.RowKit
abbrev Cl := Int × Int
def celE (c : Cl) : List Value := [.int .i64 c.1, .int .i64 c.2]
structure Scr where
  w : Nat
  h : Nat
  x : Nat
  y : Nat
  look : Nat
  top : Nat
  bot : Nat
  sx : Nat
  sy : Nat
  title : ByteArray
  cells : List Cl
  hist : List ByteArray
def blank : Cl := (32, 0)
def blanksL (n : Nat) : List Cl := List.replicate n blank
def trimC (l : List Cl) : List Cl := (l.reverse.dropWhile (fun c => c.1 == 32)).reverse
def rowL (l : List Cl) : List UInt8 := (trimC l).flatMap fun c => utfB c.1.toNat
def rowC (s : Scr) (y : Nat) : List Cl := (s.cells.drop (y * s.w)).take s.w
def rowT (s : Scr) (y : Nat) : ByteArray := ⟨(rowL (rowC s y)).toArray⟩
def pushH (l : List ByteArray) (r : ByteArray) : List ByteArray := if 6 < (l ++ [r]).length then (l ++ [r]).tail else l ++ [r]
def up1 (w a b : Nat) (l : List Cl) : List Cl := l.take (a * w) ++ ((l.drop ((a + 1) * w)).take ((b - a) * w) ++ (blanksL w ++ l.drop ((b + 1) * w)))
def dn1 (w a b : Nat) (l : List Cl) : List Cl := l.take (a * w) ++ (blanksL w ++ ((l.drop (a * w)).take ((b - a) * w) ++ l.drop ((b + 1) * w)))
def scU1 (keep : Bool) (a b : Nat) (s : Scr) : Scr := { s with cells := up1 s.w a b s.cells, hist := if a = 0 ∧ keep = true then pushH s.hist (rowT s 0) else s.hist }
def scU (keep : Bool) (a b : Nat) : Nat → Scr → Scr
  | 0, s => s
  | n + 1, s => scU1 keep a b (scU keep a b n s)
def scD1 (a b : Nat) (s : Scr) : Scr := { s with cells := dn1 s.w a b s.cells }
def scD (a b : Nat) : Nat → Scr → Scr
  | 0, s => s
  | n + 1, s => scD1 a b (scD a b n s)
def clrL (f t : Nat) (l : List Cl) : List Cl := l.take f ++ (blanksL (t - f) ++ l.drop t)
def clr (f t : Nat) (s : Scr) : Scr := { s with cells := clrL f t s.cells }
def downS (s : Scr) : Scr := if s.y = s.bot then scU true s.top s.bot 1 s else { s with y := min (s.h - 1) (s.y + 1) }
def upS (s : Scr) : Scr := if s.y = s.top then scD s.top s.bot 1 s else { s with y := s.y - 1 }
def wrapS (s : Scr) : Scr := if s.x = s.w then downS { s with x := 0 } else s
def putS (s : Scr) (n : Int) : Scr := { s with cells := s.cells.set (s.y * s.w + s.x) (n, (s.look : Int)), x := s.x + 1 }
def printS (s : Scr) (n : Int) : Scr := putS (wrapS s) n
def ctlS (s : Scr) (n : Int) : Scr :=
  if n = 8 then { s with x := min s.x (s.w - 1) - 1 } else if n = 9 then { s with x := min (s.w - 1) ((s.x / 8 + 1) * 8) }
  else if n = 10 then downS s else if n = 13 then { s with x := 0 } else s
def newS (w h : Nat) : Scr := ⟨w, h, 0, 0, 0, 0, h - 1, 0, 0, e0, blanksL (w * h), []⟩
def escS (s : Scr) (n : Int) : Scr :=
  if n = 55 then { s with sx := s.x, sy := s.y } else if n = 56 then { s with x := s.sx, y := s.sy } else if n = 68 then downS s
  else if n = 69 then downS { s with x := 0 } else if n = 77 then upS s else if n = 99 then { newS s.w s.h with hist := s.hist } else s
def lookN (l : Nat) (n : Int) : Nat :=
  if n ≤ 0 then 0 else if n = 1 then l ||| 64 else if n = 4 then l ||| 32 else if n = 7 then l ||| 16
  else if 30 ≤ n ∧ n ≤ 37 then (l &&& 112) ||| (n - 29).toNat else if n = 39 then l &&& 112 else l
def argA (xs : List Int) (i : Nat) (d : Int) : Int := if h : i < xs.length then (if xs[i] < 0 then d else xs[i]) else d
def arg1 (xs : List Int) (i : Nat) : Nat := max 1 (argA xs i 1).toNat
def curS (s : Scr) : Nat := s.y * s.w + min s.x (s.w - 1)
def eraS (s : Scr) (n : Int) (f t : Nat) : Scr :=
  if n = 0 then clr (curS s) t s else if n = 1 then clr f (curS s + 1) s else if n = 2 then clr f t s else s
def csiS (s : Scr) (c : Int) (xs : List Int) : Scr :=
  if c = 65 then { s with y := s.y - arg1 xs 0 }
  else if c = 66 then { s with y := min (s.h - 1) (s.y + arg1 xs 0) }
  else if c = 67 then { s with x := min (s.w - 1) (s.x + arg1 xs 0) }
  else if c = 68 then { s with x := min s.x (s.w - 1) - arg1 xs 0 }
  else if c = 72 ∨ c = 102 then { s with y := min s.h (arg1 xs 0) - 1, x := min s.w (arg1 xs 1) - 1 }
  else if c = 74 then eraS s (argA xs 0 0) 0 (s.w * s.h)
  else if c = 75 then eraS s (argA xs 0 0) (s.y * s.w) ((s.y + 1) * s.w)
  else if c = 76 then (if s.top ≤ s.y ∧ s.y ≤ s.bot then { scD s.y s.bot (min (arg1 xs 0) (s.bot - s.y + 1)) s with x := 0 } else s)
  else if c = 77 then (if s.top ≤ s.y ∧ s.y ≤ s.bot then { scU false s.y s.bot (min (arg1 xs 0) (s.bot - s.y + 1)) s with x := 0 } else s)
  else if c = 83 then scU true s.top s.bot (min (arg1 xs 0) (s.bot - s.top + 1)) s
  else if c = 84 then scD s.top s.bot (min (arg1 xs 0) (s.bot - s.top + 1)) s
  else if c = 109 then { s with look := xs.foldl lookN s.look }
  else if c = 114 then (if arg1 xs 0 < min s.h (argA xs 1 s.h).toNat then { s with top := arg1 xs 0 - 1, bot := min s.h (argA xs 1 s.h).toNat - 1, x := 0, y := 0 } else s)
  else s
def actS (s : Scr) (a : AV) : Scr :=
  if a.kind = 1 then printS s a.n else if a.kind = 2 then ctlS s a.n else if a.kind = 3 then escS s a.n
  else if a.kind = 4 then (if a.priv = true then s else csiS s a.n a.args) else if a.kind = 5 then { s with title := a.text } else s
def actsS (s : Scr) (l : List AV) : Scr := l.foldl actS s
def celOK (c : Cl) : Prop := rnOK c.1 ∧ 0 ≤ c.2 ∧ c.2 ≤ 127
structure ScrOK (s : Scr) : Prop where
  w1 : 2 ≤ s.w
  w2 : s.w ≤ 24
  h1 : 2 ≤ s.h
  h2 : s.h ≤ 10
  hx : s.x ≤ s.w
  hy : s.y < s.h
  lk : s.look ≤ 127
  tb : s.top < s.bot
  bh : s.bot < s.h
  hsx : s.sx ≤ s.w
  hsy : s.sy < s.h
  ti : titB s.title = true
  cn : s.cells.length = s.w * s.h
  cs : ∀ c ∈ s.cells, celOK c
  hn : s.hist.length ≤ 6
  hs : ∀ t ∈ s.hist, t.size ≤ 96
theorem celOK_blank : celOK blank := ⟨⟨by decide, by decide, by decide, by decide⟩, by decide, by decide⟩
theorem celOK_blanks {n : Nat} : ∀ c ∈ blanksL n, celOK c := fun c h => by rw [(List.mem_replicate.1 h).2]; exact celOK_blank
theorem dropWhile_len {α : Type} (p : α → Bool) : ∀ l : List α, (l.dropWhile p).length ≤ l.length
  | [] => Nat.le_refl _
  | a :: l => by
    rw [List.dropWhile_cons]
    split
    · exact Nat.le_succ_of_le (dropWhile_len p l)
    · exact Nat.le_refl _
theorem trimC_len (l : List Cl) : (trimC l).length ≤ l.length := by
  have := dropWhile_len (fun c : Cl => c.1 == 32) l.reverse
  simpa [trimC] using this
theorem flatU_len : ∀ l : List Cl, (l.flatMap fun c => utfB c.1.toNat).length ≤ 4 * l.length
  | [] => Nat.le_refl _
  | c :: l => by
    rw [List.flatMap_cons, List.length_append, List.length_cons]
    have h1 := utfB_len c.1.toNat
    have h2 := flatU_len l
    omega
theorem rowT_size (s : Scr) (y : Nat) : (rowT s y).size ≤ 4 * s.w := by
  have h1 := flatU_len (trimC (rowC s y))
  have h2 := trimC_len (rowC s y)
  have h3 : (rowC s y).length ≤ s.w := by simp only [rowC, List.length_take]; omega
  show (rowL (rowC s y)).toArray.size ≤ _
  rw [List.size_toArray]
  unfold rowL
  omega
theorem mul_le_of {a b w : Nat} (h : a ≤ b) : a * w ≤ b * w := Nat.mul_le_mul_right w h
theorem up1_len {w a b n : Nat} {l : List Cl} (hl : l.length = w * n) (hab : a ≤ b) (hb : b < n) : (up1 w a b l).length = w * n := by
  have h1 : (b + 1) * w ≤ n * w := mul_le_of (by omega)
  have h2 : a * w ≤ b * w := mul_le_of hab
  have e1 : (a + 1) * w = a * w + w := Nat.succ_mul a w
  have e2 : (b + 1) * w = b * w + w := Nat.succ_mul b w
  have e3 : (b - a) * w = b * w - a * w := Nat.sub_mul b a w
  have e4 : w * n = n * w := Nat.mul_comm w n
  simp only [up1, blanksL, List.length_append, List.length_take, List.length_drop, List.length_replicate, hl]
  omega
theorem dn1_len {w a b n : Nat} {l : List Cl} (hl : l.length = w * n) (hab : a ≤ b) (hb : b < n) : (dn1 w a b l).length = w * n := by
  have h1 : (b + 1) * w ≤ n * w := mul_le_of (by omega)
  have h2 : a * w ≤ b * w := mul_le_of hab
  have e2 : (b + 1) * w = b * w + w := Nat.succ_mul b w
  have e3 : (b - a) * w = b * w - a * w := Nat.sub_mul b a w
  have e4 : w * n = n * w := Nat.mul_comm w n
  simp only [dn1, blanksL, List.length_append, List.length_take, List.length_drop, List.length_replicate, hl]
  omega
theorem clrL_len {f t : Nat} {l : List Cl} (hf : f ≤ t) (ht : t ≤ l.length) : (clrL f t l).length = l.length := by
  simp only [clrL, blanksL, List.length_append, List.length_take, List.length_drop, List.length_replicate]
  omega
theorem up1_ok {w a b : Nat} {l : List Cl} (h : ∀ c ∈ l, celOK c) : ∀ c ∈ up1 w a b l, celOK c := by
  intro c hc
  simp only [up1, List.mem_append] at hc
  rcases hc with hc | hc | hc | hc
  · exact h c (List.mem_of_mem_take hc)
  · exact h c (List.mem_of_mem_drop (List.mem_of_mem_take hc))
  · exact celOK_blanks c hc
  · exact h c (List.mem_of_mem_drop hc)
theorem dn1_ok {w a b : Nat} {l : List Cl} (h : ∀ c ∈ l, celOK c) : ∀ c ∈ dn1 w a b l, celOK c := by
  intro c hc
  simp only [dn1, List.mem_append] at hc
  rcases hc with hc | hc | hc | hc
  · exact h c (List.mem_of_mem_take hc)
  · exact celOK_blanks c hc
  · exact h c (List.mem_of_mem_drop (List.mem_of_mem_take hc))
  · exact h c (List.mem_of_mem_drop hc)
theorem clrL_ok {f t : Nat} {l : List Cl} (h : ∀ c ∈ l, celOK c) : ∀ c ∈ clrL f t l, celOK c := by
  intro c hc
  simp only [clrL, List.mem_append] at hc
  rcases hc with hc | hc | hc
  · exact h c (List.mem_of_mem_take hc)
  · exact celOK_blanks c hc
  · exact h c (List.mem_of_mem_drop hc)
theorem pushH_ok {l : List ByteArray} {r : ByteArray} (h1 : l.length ≤ 6) (h2 : ∀ t ∈ l, t.size ≤ 96) (h3 : r.size ≤ 96) : (pushH l r).length ≤ 6 ∧ ∀ t ∈ pushH l r, t.size ≤ 96 := by
  have hm : ∀ t ∈ l ++ [r], t.size ≤ 96 := fun t ht => by
    rcases List.mem_append.1 ht with ht | ht
    · exact h2 t ht
    · simp at ht; subst ht; exact h3
  unfold pushH
  split
  · refine ⟨by simp; omega, fun t ht => hm t (List.mem_of_mem_tail ht)⟩
  · refine ⟨by simp at *; omega, hm⟩
section
variable {s : Scr}
theorem ScrOK.okRow (h : ScrOK s) (y : Nat) : (rowT s y).size ≤ 96 := by have := rowT_size s y; have := h.w2; omega
theorem ScrOK.okU1 (h : ScrOK s) {k : Bool} {a b : Nat} (hab : a ≤ b) (hb : b < s.h) : ScrOK (scU1 k a b s) := by
  have hp := pushH_ok h.hn h.hs (h.okRow 0)
  have hq : (scU1 k a b s).hist.length ≤ 6 ∧ ∀ t ∈ (scU1 k a b s).hist, t.size ≤ 96 := by
    unfold scU1
    simp only
    split
    · exact hp
    · exact ⟨h.hn, h.hs⟩
  exact ⟨h.w1, h.w2, h.h1, h.h2, h.hx, h.hy, h.lk, h.tb, h.bh, h.hsx, h.hsy, h.ti, up1_len h.cn hab hb, up1_ok h.cs, hq.1, hq.2⟩
theorem scU_same (k : Bool) (a b : Nat) (s : Scr) : ∀ n, (scU k a b n s).w = s.w ∧ (scU k a b n s).h = s.h ∧ (scU k a b n s).x = s.x ∧ (scU k a b n s).y = s.y ∧ (scU k a b n s).look = s.look ∧ (scU k a b n s).top = s.top ∧ (scU k a b n s).bot = s.bot ∧ (scU k a b n s).sx = s.sx ∧ (scU k a b n s).sy = s.sy ∧ (scU k a b n s).title = s.title
  | 0 => ⟨rfl, rfl, rfl, rfl, rfl, rfl, rfl, rfl, rfl, rfl⟩
  | n + 1 => scU_same k a b s n
theorem scD_same (a b : Nat) (s : Scr) : ∀ n, (scD a b n s).w = s.w ∧ (scD a b n s).h = s.h ∧ (scD a b n s).x = s.x ∧ (scD a b n s).y = s.y ∧ (scD a b n s).look = s.look ∧ (scD a b n s).top = s.top ∧ (scD a b n s).bot = s.bot ∧ (scD a b n s).sx = s.sx ∧ (scD a b n s).sy = s.sy ∧ (scD a b n s).title = s.title ∧ (scD a b n s).hist = s.hist
  | 0 => ⟨rfl, rfl, rfl, rfl, rfl, rfl, rfl, rfl, rfl, rfl, rfl⟩
  | n + 1 => scD_same a b s n
theorem ScrOK.okU (h : ScrOK s) {k : Bool} {a b : Nat} (hab : a ≤ b) (hb : b < s.h) : ∀ n, ScrOK (scU k a b n s)
  | 0 => h
  | n + 1 => (h.okU hab hb n).okU1 hab (by rw [(scU_same k a b s n).2.1]; exact hb)
theorem ScrOK.okD1 (h : ScrOK s) {a b : Nat} (hab : a ≤ b) (hb : b < s.h) : ScrOK (scD1 a b s) :=
  ⟨h.w1, h.w2, h.h1, h.h2, h.hx, h.hy, h.lk, h.tb, h.bh, h.hsx, h.hsy, h.ti, dn1_len h.cn hab hb, dn1_ok h.cs, h.hn, h.hs⟩
theorem ScrOK.okD (h : ScrOK s) {a b : Nat} (hab : a ≤ b) (hb : b < s.h) : ∀ n, ScrOK (scD a b n s)
  | 0 => h
  | n + 1 => (h.okD hab hb n).okD1 hab (by rw [(scD_same a b s n).2.1]; exact hb)
theorem ScrOK.xy (h : ScrOK s) {x y : Nat} (hx : x ≤ s.w) (hy : y < s.h) : ScrOK { s with x := x, y := y } :=
  ⟨h.w1, h.w2, h.h1, h.h2, hx, hy, h.lk, h.tb, h.bh, h.hsx, h.hsy, h.ti, h.cn, h.cs, h.hn, h.hs⟩
theorem ScrOK.down (h : ScrOK s) : ScrOK (downS s) := by
  unfold downS
  split
  · exact h.okU (Nat.le_of_lt h.tb) h.bh 1
  · exact h.xy h.hx (by have := h.h1; omega)
theorem ScrOK.up (h : ScrOK s) : ScrOK (upS s) := by
  unfold upS
  split
  · exact h.okD (Nat.le_of_lt h.tb) h.bh 1
  · exact h.xy h.hx (by have := h.hy; omega)
theorem downS_same (s : Scr) : (downS s).w = s.w ∧ (downS s).h = s.h ∧ (downS s).x = s.x ∧ (downS s).look = s.look := by unfold downS; split <;> exact ⟨rfl, rfl, rfl, rfl⟩
theorem ScrOK.wrap (h : ScrOK s) : ScrOK (wrapS s) ∧ (wrapS s).x < (wrapS s).w := by
  unfold wrapS
  split
  · refine ⟨(h.xy (x := 0) (y := s.y) (Nat.zero_le _) h.hy).down, ?_⟩
    have h1 := downS_same { s with x := 0 }
    rw [h1.1, h1.2.2.1]
    show 0 < s.w
    have := h.w1; omega
  · exact ⟨h, by have := h.hx; omega⟩
theorem mem_set_or {α : Type} {l : List α} {i : Nat} {x c : α} (h : c ∈ l.set i x) : c = x ∨ c ∈ l := by
  rcases List.mem_or_eq_of_mem_set h with h | h
  · exact .inr h
  · exact .inl h
theorem ScrOK.put (h : ScrOK s) (hx : s.x < s.w) {n : Int} (hn : rnOK n) : ScrOK (putS s n) :=
  ⟨h.w1, h.w2, h.h1, h.h2, hx, h.hy, h.lk, h.tb, h.bh, h.hsx, h.hsy, h.ti, by simp only [putS, List.length_set]; exact h.cn, fun c hc => by
    rcases mem_set_or hc with rfl | hc
    · exact ⟨hn, by have := h.lk; simp only; omega⟩
    · exact h.cs c hc, h.hn, h.hs⟩
theorem ScrOK.print (h : ScrOK s) {n : Int} (hn : rnOK n) : ScrOK (printS s n) := h.wrap.1.put h.wrap.2 hn
theorem ScrOK.ctl (h : ScrOK s) (n : Int) : ScrOK (ctlS s n) := by
  have := h.hx
  unfold ctlS
  split
  · exact h.xy (x := min s.x (s.w - 1) - 1) (y := s.y) (by omega) h.hy
  split
  · exact h.xy (x := min (s.w - 1) ((s.x / 8 + 1) * 8)) (y := s.y) (by omega) h.hy
  split
  · exact h.down
  split
  · exact h.xy (x := 0) (y := s.y) (by omega) h.hy
  · exact h
theorem ScrOK.new {w h : Nat} (h1 : 2 ≤ w) (h2 : w ≤ 24) (h3 : 2 ≤ h) (h4 : h ≤ 10) : ScrOK (newS w h) :=
  ⟨h1, h2, h3, h4, Nat.zero_le _, by simp only [newS]; omega, by simp only [newS]; omega, by simp only [newS]; omega, by simp only [newS]; omega, Nat.zero_le _, by simp only [newS]; omega, by rfl, by simp [newS, blanksL], celOK_blanks, by simp [newS], by simp [newS]⟩
theorem ScrOK.esc (h : ScrOK s) (n : Int) : ScrOK (escS s n) := by
  unfold escS
  split
  · exact ⟨h.w1, h.w2, h.h1, h.h2, h.hx, h.hy, h.lk, h.tb, h.bh, h.hx, h.hy, h.ti, h.cn, h.cs, h.hn, h.hs⟩
  split
  · exact h.xy h.hsx h.hsy
  split
  · exact h.down
  split
  · exact (h.xy (x := 0) (y := s.y) (Nat.zero_le _) h.hy).down
  split
  · exact h.up
  split
  · have k := ScrOK.new h.w1 h.w2 h.h1 h.h2
    exact ⟨k.w1, k.w2, k.h1, k.h2, k.hx, k.hy, k.lk, k.tb, k.bh, k.hsx, k.hsy, k.ti, k.cn, k.cs, h.hn, h.hs⟩
  · exact h
theorem or_le {a b : Nat} (ha : a ≤ 127) (hb : b ≤ 127) : a ||| b ≤ 127 := by
  have := Nat.or_lt_two_pow (x := a) (y := b) (n := 7) (by omega) (by omega)
  omega
theorem lookN_ok {l : Nat} (h : l ≤ 127) (n : Int) : lookN l n ≤ 127 := by
  unfold lookN
  split
  · omega
  split
  · exact or_le h (by omega)
  split
  · exact or_le h (by omega)
  split
  · exact or_le h (by omega)
  split
  · exact or_le (Nat.le_trans Nat.and_le_left h) (by omega)
  split
  · exact Nat.le_trans Nat.and_le_left h
  · exact h
theorem looks_ok {l : Nat} (h : l ≤ 127) : ∀ xs : List Int, xs.foldl lookN l ≤ 127
  | [] => h
  | x :: xs => by rw [List.foldl_cons]; exact looks_ok (lookN_ok h x) xs
theorem ScrOK.okClr (h : ScrOK s) {f t : Nat} (hf : f ≤ t) (ht : t ≤ s.w * s.h) : ScrOK (clr f t s) :=
  ⟨h.w1, h.w2, h.h1, h.h2, h.hx, h.hy, h.lk, h.tb, h.bh, h.hsx, h.hsy, h.ti, (clrL_len hf (by rw [h.cn]; exact ht)).trans h.cn, clrL_ok h.cs, h.hn, h.hs⟩
theorem ScrOK.cur (h : ScrOK s) : s.y * s.w ≤ curS s ∧ curS s + 1 ≤ (s.y + 1) * s.w ∧ (s.y + 1) * s.w ≤ s.w * s.h := by
  have h1 : (s.y + 1) * s.w ≤ s.h * s.w := mul_le_of h.hy
  have e1 : (s.y + 1) * s.w = s.y * s.w + s.w := Nat.succ_mul _ _
  have e2 : s.w * s.h = s.h * s.w := Nat.mul_comm _ _
  have := h.w1
  unfold curS
  omega
theorem ScrOK.era (h : ScrOK s) (n : Int) {f t : Nat} (hf : f ≤ curS s) (ht : curS s + 1 ≤ t) (ht2 : t ≤ s.w * s.h) : ScrOK (eraS s n f t) := by
  unfold eraS
  split
  · exact h.okClr (by omega) ht2
  split
  · exact h.okClr (by omega) (by omega)
  split
  · exact h.okClr (by omega) ht2
  · exact h
theorem arg1_pos (xs : List Int) (i : Nat) : 1 ≤ arg1 xs i := by unfold arg1; omega
theorem ite_ok {α : Type} {P : α → Prop} {c : Prop} [Decidable c] {a b : α} (h1 : c → P a) (h2 : ¬ c → P b) : P (if c then a else b) := by split <;> first | exact h1 ‹_› | exact h2 ‹_›
theorem ScrOK.csi (h : ScrOK s) (c : Int) (xs : List Int) : ScrOK (csiS s c xs) := by
  have hy := h.hy
  have hx := h.hx
  have hh := h.h1
  have hw := h.w1
  have hc := h.cur
  have p0 := arg1_pos xs 0
  have p1 := arg1_pos xs 1
  unfold csiS
  refine ite_ok (fun hcc => ?_) (fun _ => ?_)
  · exact h.xy (x := s.x) (y := s.y - arg1 xs 0) hx (by omega)
  refine ite_ok (fun hcc => ?_) (fun _ => ?_)
  · exact h.xy (x := s.x) (y := min (s.h - 1) (s.y + arg1 xs 0)) hx (by omega)
  refine ite_ok (fun hcc => ?_) (fun _ => ?_)
  · exact h.xy (x := min (s.w - 1) (s.x + arg1 xs 0)) (y := s.y) (by omega) hy
  refine ite_ok (fun hcc => ?_) (fun _ => ?_)
  · exact h.xy (x := min s.x (s.w - 1) - arg1 xs 0) (y := s.y) (by omega) hy
  refine ite_ok (fun hcc => ?_) (fun _ => ?_)
  · exact h.xy (x := min s.w (arg1 xs 1) - 1) (y := min s.h (arg1 xs 0) - 1) (by omega) (by omega)
  refine ite_ok (fun hcc => ?_) (fun _ => ?_)
  · exact h.era _ (Nat.zero_le _) (by omega) (Nat.le_refl _)
  refine ite_ok (fun hcc => ?_) (fun _ => ?_)
  · exact h.era _ hc.1 hc.2.1 hc.2.2
  refine ite_ok (fun hcc => ?_) (fun _ => ?_)
  · refine ite_ok (fun hin => ?_) (fun _ => h)
    · have k := h.okD (a := s.y) (b := s.bot) hin.2 h.bh (min (arg1 xs 0) (s.bot - s.y + 1))
      exact k.xy (x := 0) (y := (scD s.y s.bot _ s).y) (Nat.zero_le _) k.hy
  refine ite_ok (fun hcc => ?_) (fun _ => ?_)
  · refine ite_ok (fun hin => ?_) (fun _ => h)
    · have k := h.okU (k := false) (a := s.y) (b := s.bot) hin.2 h.bh (min (arg1 xs 0) (s.bot - s.y + 1))
      exact k.xy (x := 0) (y := (scU false s.y s.bot _ s).y) (Nat.zero_le _) k.hy
  refine ite_ok (fun hcc => ?_) (fun _ => ?_)
  · exact h.okU (Nat.le_of_lt h.tb) h.bh _
  refine ite_ok (fun hcc => ?_) (fun _ => ?_)
  · exact h.okD (Nat.le_of_lt h.tb) h.bh _
  refine ite_ok (fun hcc => ?_) (fun _ => ?_)
  · exact ⟨h.w1, h.w2, h.h1, h.h2, h.hx, h.hy, looks_ok h.lk xs, h.tb, h.bh, h.hsx, h.hsy, h.ti, h.cn, h.cs, h.hn, h.hs⟩
  refine ite_ok (fun hcc => ?_) (fun _ => ?_)
  · refine ite_ok (fun hin => ?_) (fun _ => h)
    · exact ⟨h.w1, h.w2, h.h1, h.h2, Nat.zero_le _, by simp only; omega, h.lk, by simp only; omega, by simp only; omega, h.hsx, h.hsy, h.ti, h.cn, h.cs, h.hn, h.hs⟩
  · exact h
theorem ScrOK.act (h : ScrOK s) {a : AV} (ha : AcOK a) : ScrOK (actS s a) := by
  rcases ha with ⟨hk, ht, hA, h1, h2⟩ | ⟨hp, hA, ⟨hk, hn, ht⟩ | ⟨ht, ⟨hk, hn⟩ | ⟨hk, hn⟩ | ⟨hk, hn⟩⟩⟩
  · unfold actS
    rw [hk]
    simp only [show ¬ (4 : Int) = 1 by decide, show ¬ (4 : Int) = 2 by decide, show ¬ (4 : Int) = 3 by decide, if_false, if_true]
    split
    · exact h
    · exact h.csi _ _
  · unfold actS
    rw [hk]
    simp only [show ¬ (5 : Int) = 1 by decide, show ¬ (5 : Int) = 2 by decide, show ¬ (5 : Int) = 3 by decide, show ¬ (5 : Int) = 4 by decide, if_false, if_true]
    exact ⟨h.w1, h.w2, h.h1, h.h2, h.hx, h.hy, h.lk, h.tb, h.bh, h.hsx, h.hsy, ht, h.cn, h.cs, h.hn, h.hs⟩
  · unfold actS
    rw [hk, if_pos rfl]
    exact h.print hn
  · unfold actS
    rw [hk]
    simp only [show ¬ (2 : Int) = 1 by decide, if_false, if_true]
    exact h.ctl _
  · unfold actS
    rw [hk]
    simp only [show ¬ (3 : Int) = 1 by decide, show ¬ (3 : Int) = 2 by decide, if_false, if_true]
    exact h.esc _
theorem ScrOK.acts (h : ScrOK s) : ∀ {l : List AV}, (∀ a ∈ l, AcOK a) → ScrOK (actsS s l) := by
  intro l
  induction l generalizing s with
  | nil => intro _; exact h
  | cons a l ih => intro hl; exact ih (h.act (hl a (by simp))) (fun b hb => hl b (by simp [hb]))
end
end
end Go.Proofs.Ytjmpgeffkdjpdaa
