/- Rows in a block of their own, with slices of their own behind them. Plain lemmas, no program. -/
import Derived.Test.YtlhhlmalihajcaaDoorOnly
import Derived.Test.YtlhhlmalihajcaaDoorMarkB
namespace Go.Proofs.YtlhhlmalihajcaaDoor
set_option linter.unusedVariables false
set_option linter.unusedSimpArgs false
open Go.RowKit
def Sep (g : Nat) (bs : List (List Nat)) : Prop :=
  (∀ i (h : i < bs.length), g ∉ bs[i] ∧ bs[i].Nodup) ∧ ∀ i j (hi : i < bs.length) (hj : j < bs.length), i ≠ j → ∀ b ∈ bs[i], b ∉ bs[j]
structure RowsR {R : Type} (enc : R → List Value) (sz : Nat) (ok : Nat → World → R → Prop) (blk : R → List Nat) (B : Nat) (w : World) (g : Nat) (rs : List R) : Prop where
  low : B ≤ g
  lt : g < w.heap.size
  sl : Sl enc sz w (some ⟨g, 0, none⟩) rs
  fz : ∀ o, w.frozen? ⟨g, o, none⟩ = false
  ok : ∀ i (h : i < rs.length), ok B w rs[i]
  sep : Sep g (rs.map blk)
section
variable {R : Type} {enc : R → List Value} {sz : Nat} {ok : Nat → World → R → Prop} {blk : R → List Nat} {B : Nat} {w w' : World} {g : Nat} {rs : List R}
/-- One row is written anew, its slices stay in their blocks. -/
theorem RowsR.step (h : RowsR enc sz ok blk B w g rs) {q : Nat} (hq : q < rs.length) {x : R} (hb : blk x = blk rs[q])
    (hu : Upd g (q * sz) (q * sz + sz) (· ∈ blk rs[q]) w w') (hx : ∀ j, j < sz → w'.cell? ⟨g, q * sz + j, none⟩ = (enc x)[j]?) (ho : ok B w' x)
    (hk : ∀ r, ok B w r → (∀ k ∈ blk r, k ≠ g ∧ k ∉ blk rs[q]) → ok B w' r) : RowsR enc sz ok blk B w' g (rs.set q x) where
  low := h.low
  lt := Nat.lt_of_lt_of_le h.lt hu.size
  sl := Sl.row h.sl h.lt hq hu x hx
  fz := fun o => (hu.fz o).trans (h.fz o)
  ok := fun i hi => by
    have hi' : i < rs.length := by simpa using hi
    by_cases hiq : i = q
    · subst hiq
      simpa using ho
    · rw [List.getElem_set_ne (fun e => hiq e.symm)]
      refine hk _ (h.ok i hi') (fun k hk' => ⟨fun e => ?_, ?_⟩)
      · subst e
        have := (h.sep.1 i (by simpa using hi')).1
        simp at this
        exact this hk'
      · have := h.sep.2 i q (by simpa using hi') (by simpa using hq) hiq k (by simpa using hk')
        simpa using this
  sep := by
    have : (rs.set q x).map blk = rs.map blk := by
      rw [List.map_set, hb]
      exact List.ext_getElem (by simp) (fun i h1 h2 => by
        by_cases hiq : q = i
        · subst hiq; simp
        · rw [List.getElem_set_ne hiq])
    rw [this]
    exact h.sep
theorem RowsR.in (h : RowsR enc sz ok blk B w g rs) {q : Nat} (hq : q < rs.length) : g ∉ blk rs[q] ∧ (blk rs[q]).Nodup := by
  have := h.sep.1 q (by simpa using hq)
  simpa using this
def allBlk (blk : R → List Nat) (rs : List R) (k : Nat) : Prop := ∃ r ∈ rs, k ∈ blk r
theorem Upd.wide {lo hi : Nat} {S : Nat → Prop} (h : Upd g lo hi S w w') (n : Nat) (h2 : hi ≤ n) {T : Nat → Prop} (hS : ∀ k, S k → T k) : Upd g 0 n T w w' := h.mono (Nat.zero_le _) h2 hS
theorem over_at {f : Nat → R} {xs : List R} {k : Nat} (hk : k < xs.length) (h : k < (over f xs k).length) : (over f xs k)[k] = xs[k] := by
  have h1 : (over f xs k)[k]? = xs[k]? := by
    unfold over
    rw [List.getElem?_append_right (by simp)]
    simp
  rw [List.getElem?_eq_getElem h, List.getElem?_eq_getElem hk] at h1
  exact Option.some.inj h1
theorem RowsR.below (h : RowsR enc sz ok blk B w g rs) (hb : Below w.heap.size w w') (hk : ∀ r, ok B w r → ok B w' r) : RowsR enc sz ok blk B w' g rs where
  low := h.low
  lt := Nat.lt_of_lt_of_le h.lt hb.size
  sl := h.sl.keep hb
  fz := fun o => (hb.frozen (p := ⟨g, o, none⟩) h.lt).trans (h.fz o)
  ok := fun i hi => hk _ (h.ok i hi)
  sep := h.sep
theorem FreshIn.ownB {α : Type} {enc : α → List Value} {sz : Nat} {e : TypeId} {B n c : Nat} {ad : Option Addr} {xs : List α} (h : FreshIn enc e sz B w.heap.size (.slice ad n c) xs w) : ∀ k ∈ blkOf ad, B ≤ k := by
  intro k hk
  cases ad with
  | none => simp [blkOf] at hk
  | some p =>
    simp only [blkOf, List.mem_singleton] at hk
    subst hk
    exact ((FreshIn.row h) p.block (by simp [Value.ownBlock])).1
/-- A call that writes a slice of one's own, seen from a row in another block. -/
theorem flat_upd {P : Program} {F : Nat} {args : Array Value} {V : Value} {α : Type} {en : α → List Value} {sf : Nat} {e : TypeId} {n c lo hi : Nat} {ad : Option Addr} {xs ys : List α}
    (hcall : ∀ b W, FreshIn en e sf b (b + 1) (.slice ad n c) xs W → b ≤ W.heap.size → Calls P F args W (fun x w' => x = .returned V ∧ FreshIn en e sf b (b + 1) (.slice ad n c) ys w' ∧ Mid b (b + 1) W w'))
    (h : FreshIn en e sf B w.heap.size (.slice ad n c) xs w) (hs : ∀ k ∈ blkOf ad, k ≠ g) (hg : g < w.heap.size) (W : World) (hW : Upd g lo hi (fun _ => False) w W) :
    Calls P F args W (fun x w' => x = .returned V ∧ FreshIn en e sf B w'.heap.size (.slice ad n c) ys w' ∧ Upd g lo hi (· ∈ blkOf ad) W w' ∧ ∀ o, w'.cell? ⟨g, o, none⟩ = W.cell? ⟨g, o, none⟩) := by
  have h1 := h.upd hW (fun k hk => ⟨hs k hk, fun e => e⟩)
  obtain ⟨b, h2, h3, h4, h5⟩ := h1.tight
  have hgW : g < W.heap.size := Nat.lt_of_lt_of_le hg hW.size
  have hbg : b ≠ g := fun e => hs b (h5 (by omega)).1 e
  have hd : g < b ∨ b + 1 ≤ g := by omega
  refine Calls.mono (P := P) (hcall b W h2 h3) ?_
  rintro x w' ⟨rfl, h6, h7⟩
  exact ⟨rfl, FreshIn.nilB h6 (FreshIn.ownB h1), Upd.mid Upd.refl h7 hgW hd h4, fun o => h7.cell (p := ⟨g, o, none⟩) hgW hd⟩
theorem FreshIn.slr2 {α : Type} {enc : α → List Value} {sz lo hi n ca : Nat} {f : Nat → α} {a : Option Addr} {e : TypeId} {w : World} (hs : ∀ x, (enc x).length = sz) (h : FreshIn enc e sz lo hi (.slice a n ca) ((List.range n).map f) w) : Sl enc sz w a ((List.range n).map f) := by
  have h' : FreshIn enc e sz lo hi (.slice a ((List.range n).map f).length ca) ((List.range n).map f) w := by simpa using h
  exact h'.sl hs
end
end Go.Proofs.YtlhhlmalihajcaaDoor
