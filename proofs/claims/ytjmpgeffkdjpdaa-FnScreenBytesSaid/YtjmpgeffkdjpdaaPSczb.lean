/- Contracts of the functions that the claim reaches. No conditions but sizes. -/
import Derived.Test.YtjmpgeffkdjpdaaPScza
import Derived.Deep.DeepCutAuto
import Derived.Lib.Bytealg
import Derived.Lib.Strings
import Derived.Lib.LazyBuf
namespace Go.Proofs.Ytjmpgeffkdjpdaa
set_option linter.unusedVariables false
set_option linter.unusedSimpArgs false
set_option maxRecDepth 100000
set_option maxHeartbeats 16000000
section
open Go.RowKit
theorem celOne : ∀ x : Cl, ∀ u ∈ celE x, u.oneCell' = true := fun x u hu => by
  simp only [celE, List.mem_cons, List.not_mem_nil, or_false] at hu
  rcases hu with rfl | rfl <;> rfl
structure ScrAt (lo b o : Nat) (s : Scr) (g cc : Nat) (ah : Option Addr) (dh : Nat) (w : World) : Prop where
  c0 : w.cell? ⟨b, o, none⟩ = some (.int .i64 (s.w : Int))
  c1 : w.cell? ⟨b, o + 1, none⟩ = some (.int .i64 (s.h : Int))
  c2 : w.cell? ⟨b, o + 2, none⟩ = some (.int .i64 (s.x : Int))
  c3 : w.cell? ⟨b, o + 3, none⟩ = some (.int .i64 (s.y : Int))
  c4 : w.cell? ⟨b, o + 4, none⟩ = some (.int .i64 (s.look : Int))
  c5 : w.cell? ⟨b, o + 5, none⟩ = some (.int .i64 (s.top : Int))
  c6 : w.cell? ⟨b, o + 6, none⟩ = some (.int .i64 (s.bot : Int))
  c7 : w.cell? ⟨b, o + 7, none⟩ = some (.int .i64 (s.sx : Int))
  c8 : w.cell? ⟨b, o + 8, none⟩ = some (.int .i64 (s.sy : Int))
  c9 : w.cell? ⟨b, o + 9, none⟩ = some (.string s.title)
  c10 : w.cell? ⟨b, o + 10, none⟩ = some (.slice (some ⟨g, 0, none⟩) s.cells.length cc)
  c11 : w.cell? ⟨b, o + 11, none⟩ = some (.slice ah s.hist.length dh)
  fz : ∀ k, w.frozen? ⟨b, k, none⟩ = false
  lt : b < w.heap.size
  row : FreshIn celE 60 2 lo w.heap.size (.slice (some ⟨g, 0, none⟩) s.cells.length cc) s.cells w
  win : Win strE 9 1 lo w ah dh s.hist
  gb : g ≠ b
  hb : ∀ k ∈ blkOf ah, k ≠ b ∧ k ≠ g
theorem Upd.transN {g lo hi : Nat} {S N : Nat → Prop} {a w w' : World} (h : Upd g lo hi S a w) (k : Upd g lo hi N w w') (hN : ∀ i, N i → S i ∨ a.heap.size ≤ i) : Upd g lo hi S a w' :=
  ⟨k.os.trans h.os, k.tape.trans h.tape, k.output.trans h.output, Nat.le_trans h.size k.size, fun i h1 h2 h3 => (k.block i (Nat.lt_of_lt_of_le h1 h.size) h2 (fun t => by
    rcases hN i t with h4 | h4
    · exact h3 h4
    · omega)).trans (h.block i h1 h2 h3), fun o ho => (k.cell o ho).trans (h.cell o ho), fun o => (k.fz o).trans (h.fz o)⟩
theorem Upd.ofCh {g lo hi : Nat} {M S : Nat → Prop} {w w' : World} (h : Ch M w w') (hg : g < w.heap.size) (hn : ¬ M g) (hS : ∀ i, M i → S i ∨ w.heap.size ≤ i) : Upd g lo hi S w w' :=
  ⟨h.os, h.tape, h.output, h.size, fun k h1 _ h3 => h.block k h1 (fun hm => by
    rcases hS k hm with h4 | h4
    · exact h3 h4
    · omega), fun o _ => h.cell (p := ⟨g, o, none⟩) hg hn, fun o => h.frozen (p := ⟨g, o, none⟩) hg hn⟩
theorem Upd.drew {g lo hi : Nat} {S : Nat → Prop} {w w' : World} (h : Upd g lo hi S w w') : Upd g lo hi S w w'.drew := ⟨h.os, h.tape, h.output, h.size, h.block, h.cell, h.fz⟩
theorem Upd.ch {g lo hi : Nat} {S : Nat → Prop} {w w' : World} (h : Upd g lo hi S w w') : Ch (fun k => k = g ∨ S k) w w' := ⟨h.os, h.tape, h.output, h.size, fun k h1 h2 => h.block k h1 (fun e => h2 (.inl e)) (fun e => h2 (.inr e))⟩
theorem Upd.set1 {g lo hi o : Nat} {S : Nat → Prop} {w : World} (h1 : lo ≤ o) (h2 : o < hi) (u : Value) : Upd g lo hi S w (w.setCell ⟨g, o, none⟩ u) := Upd.refl.setCell o h1 h2 u
theorem Ch.set1' (w : World) (b k : Nat) (u : Value) : Ch (· = b) w (w.setCell ⟨b, k, none⟩ u) := (Ch.refl (M := (· = b)) (w := w)).setCell (p := ⟨b, k, none⟩) (.inl rfl) u
def ScrR (lo b o : Nat) (s' : Scr) (g : Nat) (ah : Option Addr) (w w' : World) : Prop :=
  ∃ g' cc' ah' dh', ScrAt lo b o s' g' cc' ah' dh' w' ∧ Upd b o (o + 12) (fun k => k = g ∨ k ∈ blkOf ah) w w' ∧ (g' = g ∨ w.heap.size ≤ g') ∧ ∀ k ∈ blkOf ah', k ∈ blkOf ah ∨ w.heap.size ≤ k
theorem ScrR.mk {lo b o : Nat} {s : Scr} {g cc : Nat} {ah : Option Addr} {dh : Nat} {w w' : World} (h : ScrAt lo b o s g cc ah dh w') (u : Upd b o (o + 12) (fun k => k = g ∨ k ∈ blkOf ah) w w') : ScrR lo b o s g ah w w' :=
  ⟨g, cc, ah, dh, h, u, .inl rfl, fun _ hk => .inl hk⟩
theorem ScrR.trans {lo b o : Nat} {s' s2 : Scr} {g g' cc' : Nat} {ah ah' : Option Addr} {dh' : Nat} {w w' w2 : World} (_ : ScrAt lo b o s' g' cc' ah' dh' w') (u : Upd b o (o + 12) (fun k => k = g ∨ k ∈ blkOf ah) w w') (hg : g' = g ∨ w.heap.size ≤ g') (ha : ∀ k ∈ blkOf ah', k ∈ blkOf ah ∨ w.heap.size ≤ k) (k : ScrR lo b o s2 g' ah' w' w2) : ScrR lo b o s2 g ah w w2 := by
  obtain ⟨g3, c3, a3, d3, h3, u3, hg3, ha3⟩ := k
  have hz := u.size
  refine ⟨g3, c3, a3, d3, h3, u.transN u3 (fun i hi => ?_), ?_, fun i hi => ?_⟩
  · rcases hi with hi | hi
    · subst hi
      rcases hg with hg | hg
      · exact .inl (.inl hg)
      · exact .inr hg
    · rcases ha i hi with h | h
      · exact .inl (.inr h)
      · exact .inr h
  · rcases hg3 with h | h
    · rw [h]; exact hg
    · exact .inr (by omega)
  · rcases ha3 i hi with h | h
    · exact ha i h
    · exact .inr (by omega)
section
variable {lo b o : Nat} {s : Scr} {g cc : Nat} {ah : Option Addr} {dh : Nat} {w w' : World} {M : Nat → Prop}
theorem ScrAt.ch (h : ScrAt lo b o s g cc ah dh w) (hc : Ch M w w') (h1 : ¬ M b) (h2 : ¬ M g) (h3 : ∀ k ∈ blkOf ah, ¬ M k) : ScrAt lo b o s g cc ah dh w' where
  c0 := (hc.cell (p := ⟨b, o, none⟩) h.lt h1).trans h.c0
  c1 := (hc.cell (p := ⟨b, o + 1, none⟩) h.lt h1).trans h.c1
  c2 := (hc.cell (p := ⟨b, o + 2, none⟩) h.lt h1).trans h.c2
  c3 := (hc.cell (p := ⟨b, o + 3, none⟩) h.lt h1).trans h.c3
  c4 := (hc.cell (p := ⟨b, o + 4, none⟩) h.lt h1).trans h.c4
  c5 := (hc.cell (p := ⟨b, o + 5, none⟩) h.lt h1).trans h.c5
  c6 := (hc.cell (p := ⟨b, o + 6, none⟩) h.lt h1).trans h.c6
  c7 := (hc.cell (p := ⟨b, o + 7, none⟩) h.lt h1).trans h.c7
  c8 := (hc.cell (p := ⟨b, o + 8, none⟩) h.lt h1).trans h.c8
  c9 := (hc.cell (p := ⟨b, o + 9, none⟩) h.lt h1).trans h.c9
  c10 := (hc.cell (p := ⟨b, o + 10, none⟩) h.lt h1).trans h.c10
  c11 := (hc.cell (p := ⟨b, o + 11, none⟩) h.lt h1).trans h.c11
  fz := fun k => (hc.frozen (p := ⟨b, k, none⟩) h.lt h1).trans (h.fz k)
  lt := Nat.lt_of_lt_of_le h.lt hc.size
  row := h.row.ch hc (fun k hk => by simp only [blkOf, List.mem_singleton] at hk; subst hk; exact h2)
  win := h.win.ch hc h3
  gb := h.gb
  hb := h.hb
theorem ScrAt.below (h : ScrAt lo b o s g cc ah dh w) (hb : Below w.heap.size w w') : ScrAt lo b o s g cc ah dh w' := h.ch (M := fun _ => False) (Ch.of_below hb) (fun h => h) (fun h => h) (fun _ _ h => h)
theorem ScrAt.alloc (h : ScrAt lo b o s g cc ah dh w) (x : Obj) : ScrAt lo b o s g cc ah dh (w.alloc x) := h.below ((Below.refl _ _).alloc (Nat.le_refl _) _)
theorem ScrAt.drew (h : ScrAt lo b o s g cc ah dh w) : ScrAt lo b o s g cc ah dh w.drew := h.below ((Below.refl _ _).drew)
theorem ScrAt.low {lo' : Nat} (h : ScrAt lo b o s g cc ah dh w) (hl : lo' ≤ lo) : ScrAt lo' b o s g cc ah dh w :=
  ⟨h.c0, h.c1, h.c2, h.c3, h.c4, h.c5, h.c6, h.c7, h.c8, h.c9, h.c10, h.c11, h.fz, h.lt, h.row.mono hl (Nat.le_refl _), h.win.low hl, h.gb, h.hb⟩
theorem ScrAt.glt (h : ScrAt lo b o s g cc ah dh w) : lo ≤ g ∧ g < w.heap.size := FreshIn.blks h.row g (by simp [blkOf])
theorem ScrAt.sl (h : ScrAt lo b o s g cc ah dh w) : Sl celE 2 w (some ⟨g, 0, none⟩) s.cells := h.row.sl (fun _ => rfl)
theorem ScrAt.hsl (h : ScrAt lo b o s g cc ah dh w) : Sl strE 1 w ah s.hist := h.win.sl (fun _ => rfl)
theorem ScrAt.cell (h : ScrAt lo b o s g cc ah dh w) {i : Nat} (hi : i < s.cells.length) : w.cell? ⟨g, i * 2, none⟩ = some (.int .i64 s.cells[i].1) ∧ w.cell? ⟨g, i * 2 + 1, none⟩ = some (.int .i64 s.cells[i].2) := by
  obtain ⟨b', o', he, hlt, hc⟩ := h.sl.at hi
  cases he
  have h0 := hc i hi 0 (by omega)
  have h1 := hc i hi 1 (by omega)
  simp only [celE, Nat.zero_add, Nat.add_zero, List.getElem?_cons_zero, List.getElem?_cons_succ] at h0 h1
  exact ⟨h0, h1⟩
theorem ScrAt.gfz (h : ScrAt lo b o s g cc ah dh w) : ∀ k, w.frozen? ⟨g, k, none⟩ = false := by
  obtain ⟨⟨a', cap', hv, h1, h2⟩, _⟩ := h.row
  cases hv
  exact fun k => h2.frozenAt k
theorem Upd.refl' : Upd b o (o + 12) (fun k => k = g ∨ k ∈ blkOf ah) w w := Upd.refl
theorem ScrAt.set2 (h : ScrAt lo b o s g cc ah dh w) (v : Nat) : ScrAt lo b o { s with x := v } g cc ah dh (w.setCell ⟨b, o + 2, none⟩ (.int .i64 (v : Int))) where
  c0 := sO h.c0
  c1 := sO h.c1
  c2 := World.cell?_setCell_same _ _ _ h.c2
  c3 := sO h.c3
  c4 := sO h.c4
  c5 := sO h.c5
  c6 := sO h.c6
  c7 := sO h.c7
  c8 := sO h.c8
  c9 := sO h.c9
  c10 := sO h.c10
  c11 := sO h.c11
  fz := fun k => (World.frozen?_setCell _ _ _ _).trans (h.fz k)
  lt := by have := h.lt; simpa [World.setCell] using this
  row := h.row.ch (Ch.set1' w b (o + 2) _) (fun k hk e => by simp only [blkOf, List.mem_singleton] at hk; exact h.gb (hk.symm.trans e))
  win := h.win.ch (Ch.set1' w b (o + 2) _) (fun k hk e => (h.hb k hk).1 e)
  gb := h.gb
  hb := h.hb
theorem ScrAt.setv2 (h : ScrAt lo b o s g cc ah dh w) (v : Nat) {z : Int} (hz : z = (v : Int)) : ScrAt lo b o { s with x := v } g cc ah dh (w.setCell ⟨b, o + 2, none⟩ (.int .i64 z)) := by subst hz; exact h.set2 v
theorem Upd.set2 (h : Upd b o (o + 12) (fun k => k = g ∨ k ∈ blkOf ah) w w') (v : Value) : Upd b o (o + 12) (fun k => k = g ∨ k ∈ blkOf ah) w (w'.setCell ⟨b, o + 2, none⟩ v) := h.setCell (o + 2) (by omega) (by omega) v
theorem ScrAt.set3 (h : ScrAt lo b o s g cc ah dh w) (v : Nat) : ScrAt lo b o { s with y := v } g cc ah dh (w.setCell ⟨b, o + 3, none⟩ (.int .i64 (v : Int))) where
  c0 := sO h.c0
  c1 := sO h.c1
  c2 := sO h.c2
  c3 := World.cell?_setCell_same _ _ _ h.c3
  c4 := sO h.c4
  c5 := sO h.c5
  c6 := sO h.c6
  c7 := sO h.c7
  c8 := sO h.c8
  c9 := sO h.c9
  c10 := sO h.c10
  c11 := sO h.c11
  fz := fun k => (World.frozen?_setCell _ _ _ _).trans (h.fz k)
  lt := by have := h.lt; simpa [World.setCell] using this
  row := h.row.ch (Ch.set1' w b (o + 3) _) (fun k hk e => by simp only [blkOf, List.mem_singleton] at hk; exact h.gb (hk.symm.trans e))
  win := h.win.ch (Ch.set1' w b (o + 3) _) (fun k hk e => (h.hb k hk).1 e)
  gb := h.gb
  hb := h.hb
theorem ScrAt.setv3 (h : ScrAt lo b o s g cc ah dh w) (v : Nat) {z : Int} (hz : z = (v : Int)) : ScrAt lo b o { s with y := v } g cc ah dh (w.setCell ⟨b, o + 3, none⟩ (.int .i64 z)) := by subst hz; exact h.set3 v
theorem Upd.set3 (h : Upd b o (o + 12) (fun k => k = g ∨ k ∈ blkOf ah) w w') (v : Value) : Upd b o (o + 12) (fun k => k = g ∨ k ∈ blkOf ah) w (w'.setCell ⟨b, o + 3, none⟩ v) := h.setCell (o + 3) (by omega) (by omega) v
theorem ScrAt.set4 (h : ScrAt lo b o s g cc ah dh w) (v : Nat) : ScrAt lo b o { s with look := v } g cc ah dh (w.setCell ⟨b, o + 4, none⟩ (.int .i64 (v : Int))) where
  c0 := sO h.c0
  c1 := sO h.c1
  c2 := sO h.c2
  c3 := sO h.c3
  c4 := World.cell?_setCell_same _ _ _ h.c4
  c5 := sO h.c5
  c6 := sO h.c6
  c7 := sO h.c7
  c8 := sO h.c8
  c9 := sO h.c9
  c10 := sO h.c10
  c11 := sO h.c11
  fz := fun k => (World.frozen?_setCell _ _ _ _).trans (h.fz k)
  lt := by have := h.lt; simpa [World.setCell] using this
  row := h.row.ch (Ch.set1' w b (o + 4) _) (fun k hk e => by simp only [blkOf, List.mem_singleton] at hk; exact h.gb (hk.symm.trans e))
  win := h.win.ch (Ch.set1' w b (o + 4) _) (fun k hk e => (h.hb k hk).1 e)
  gb := h.gb
  hb := h.hb
theorem ScrAt.setv4 (h : ScrAt lo b o s g cc ah dh w) (v : Nat) {z : Int} (hz : z = (v : Int)) : ScrAt lo b o { s with look := v } g cc ah dh (w.setCell ⟨b, o + 4, none⟩ (.int .i64 z)) := by subst hz; exact h.set4 v
theorem Upd.set4 (h : Upd b o (o + 12) (fun k => k = g ∨ k ∈ blkOf ah) w w') (v : Value) : Upd b o (o + 12) (fun k => k = g ∨ k ∈ blkOf ah) w (w'.setCell ⟨b, o + 4, none⟩ v) := h.setCell (o + 4) (by omega) (by omega) v
theorem ScrAt.set5 (h : ScrAt lo b o s g cc ah dh w) (v : Nat) : ScrAt lo b o { s with top := v } g cc ah dh (w.setCell ⟨b, o + 5, none⟩ (.int .i64 (v : Int))) where
  c0 := sO h.c0
  c1 := sO h.c1
  c2 := sO h.c2
  c3 := sO h.c3
  c4 := sO h.c4
  c5 := World.cell?_setCell_same _ _ _ h.c5
  c6 := sO h.c6
  c7 := sO h.c7
  c8 := sO h.c8
  c9 := sO h.c9
  c10 := sO h.c10
  c11 := sO h.c11
  fz := fun k => (World.frozen?_setCell _ _ _ _).trans (h.fz k)
  lt := by have := h.lt; simpa [World.setCell] using this
  row := h.row.ch (Ch.set1' w b (o + 5) _) (fun k hk e => by simp only [blkOf, List.mem_singleton] at hk; exact h.gb (hk.symm.trans e))
  win := h.win.ch (Ch.set1' w b (o + 5) _) (fun k hk e => (h.hb k hk).1 e)
  gb := h.gb
  hb := h.hb
theorem ScrAt.setv5 (h : ScrAt lo b o s g cc ah dh w) (v : Nat) {z : Int} (hz : z = (v : Int)) : ScrAt lo b o { s with top := v } g cc ah dh (w.setCell ⟨b, o + 5, none⟩ (.int .i64 z)) := by subst hz; exact h.set5 v
theorem Upd.set5 (h : Upd b o (o + 12) (fun k => k = g ∨ k ∈ blkOf ah) w w') (v : Value) : Upd b o (o + 12) (fun k => k = g ∨ k ∈ blkOf ah) w (w'.setCell ⟨b, o + 5, none⟩ v) := h.setCell (o + 5) (by omega) (by omega) v
theorem ScrAt.set6 (h : ScrAt lo b o s g cc ah dh w) (v : Nat) : ScrAt lo b o { s with bot := v } g cc ah dh (w.setCell ⟨b, o + 6, none⟩ (.int .i64 (v : Int))) where
  c0 := sO h.c0
  c1 := sO h.c1
  c2 := sO h.c2
  c3 := sO h.c3
  c4 := sO h.c4
  c5 := sO h.c5
  c6 := World.cell?_setCell_same _ _ _ h.c6
  c7 := sO h.c7
  c8 := sO h.c8
  c9 := sO h.c9
  c10 := sO h.c10
  c11 := sO h.c11
  fz := fun k => (World.frozen?_setCell _ _ _ _).trans (h.fz k)
  lt := by have := h.lt; simpa [World.setCell] using this
  row := h.row.ch (Ch.set1' w b (o + 6) _) (fun k hk e => by simp only [blkOf, List.mem_singleton] at hk; exact h.gb (hk.symm.trans e))
  win := h.win.ch (Ch.set1' w b (o + 6) _) (fun k hk e => (h.hb k hk).1 e)
  gb := h.gb
  hb := h.hb
theorem ScrAt.setv6 (h : ScrAt lo b o s g cc ah dh w) (v : Nat) {z : Int} (hz : z = (v : Int)) : ScrAt lo b o { s with bot := v } g cc ah dh (w.setCell ⟨b, o + 6, none⟩ (.int .i64 z)) := by subst hz; exact h.set6 v
theorem Upd.set6 (h : Upd b o (o + 12) (fun k => k = g ∨ k ∈ blkOf ah) w w') (v : Value) : Upd b o (o + 12) (fun k => k = g ∨ k ∈ blkOf ah) w (w'.setCell ⟨b, o + 6, none⟩ v) := h.setCell (o + 6) (by omega) (by omega) v
theorem ScrAt.set7 (h : ScrAt lo b o s g cc ah dh w) (v : Nat) : ScrAt lo b o { s with sx := v } g cc ah dh (w.setCell ⟨b, o + 7, none⟩ (.int .i64 (v : Int))) where
  c0 := sO h.c0
  c1 := sO h.c1
  c2 := sO h.c2
  c3 := sO h.c3
  c4 := sO h.c4
  c5 := sO h.c5
  c6 := sO h.c6
  c7 := World.cell?_setCell_same _ _ _ h.c7
  c8 := sO h.c8
  c9 := sO h.c9
  c10 := sO h.c10
  c11 := sO h.c11
  fz := fun k => (World.frozen?_setCell _ _ _ _).trans (h.fz k)
  lt := by have := h.lt; simpa [World.setCell] using this
  row := h.row.ch (Ch.set1' w b (o + 7) _) (fun k hk e => by simp only [blkOf, List.mem_singleton] at hk; exact h.gb (hk.symm.trans e))
  win := h.win.ch (Ch.set1' w b (o + 7) _) (fun k hk e => (h.hb k hk).1 e)
  gb := h.gb
  hb := h.hb
theorem ScrAt.setv7 (h : ScrAt lo b o s g cc ah dh w) (v : Nat) {z : Int} (hz : z = (v : Int)) : ScrAt lo b o { s with sx := v } g cc ah dh (w.setCell ⟨b, o + 7, none⟩ (.int .i64 z)) := by subst hz; exact h.set7 v
theorem Upd.set7 (h : Upd b o (o + 12) (fun k => k = g ∨ k ∈ blkOf ah) w w') (v : Value) : Upd b o (o + 12) (fun k => k = g ∨ k ∈ blkOf ah) w (w'.setCell ⟨b, o + 7, none⟩ v) := h.setCell (o + 7) (by omega) (by omega) v
theorem ScrAt.set8 (h : ScrAt lo b o s g cc ah dh w) (v : Nat) : ScrAt lo b o { s with sy := v } g cc ah dh (w.setCell ⟨b, o + 8, none⟩ (.int .i64 (v : Int))) where
  c0 := sO h.c0
  c1 := sO h.c1
  c2 := sO h.c2
  c3 := sO h.c3
  c4 := sO h.c4
  c5 := sO h.c5
  c6 := sO h.c6
  c7 := sO h.c7
  c8 := World.cell?_setCell_same _ _ _ h.c8
  c9 := sO h.c9
  c10 := sO h.c10
  c11 := sO h.c11
  fz := fun k => (World.frozen?_setCell _ _ _ _).trans (h.fz k)
  lt := by have := h.lt; simpa [World.setCell] using this
  row := h.row.ch (Ch.set1' w b (o + 8) _) (fun k hk e => by simp only [blkOf, List.mem_singleton] at hk; exact h.gb (hk.symm.trans e))
  win := h.win.ch (Ch.set1' w b (o + 8) _) (fun k hk e => (h.hb k hk).1 e)
  gb := h.gb
  hb := h.hb
theorem ScrAt.setv8 (h : ScrAt lo b o s g cc ah dh w) (v : Nat) {z : Int} (hz : z = (v : Int)) : ScrAt lo b o { s with sy := v } g cc ah dh (w.setCell ⟨b, o + 8, none⟩ (.int .i64 z)) := by subst hz; exact h.set8 v
theorem Upd.set8 (h : Upd b o (o + 12) (fun k => k = g ∨ k ∈ blkOf ah) w w') (v : Value) : Upd b o (o + 12) (fun k => k = g ∨ k ∈ blkOf ah) w (w'.setCell ⟨b, o + 8, none⟩ v) := h.setCell (o + 8) (by omega) (by omega) v
theorem ScrAt.set9 (h : ScrAt lo b o s g cc ah dh w) (v : ByteArray) : ScrAt lo b o { s with title := v } g cc ah dh (w.setCell ⟨b, o + 9, none⟩ (.string v)) where
  c0 := sO h.c0
  c1 := sO h.c1
  c2 := sO h.c2
  c3 := sO h.c3
  c4 := sO h.c4
  c5 := sO h.c5
  c6 := sO h.c6
  c7 := sO h.c7
  c8 := sO h.c8
  c9 := World.cell?_setCell_same _ _ _ h.c9
  c10 := sO h.c10
  c11 := sO h.c11
  fz := fun k => (World.frozen?_setCell _ _ _ _).trans (h.fz k)
  lt := by have := h.lt; simpa [World.setCell] using this
  row := h.row.ch (Ch.set1' w b (o + 9) _) (fun k hk e => by simp only [blkOf, List.mem_singleton] at hk; exact h.gb (hk.symm.trans e))
  win := h.win.ch (Ch.set1' w b (o + 9) _) (fun k hk e => (h.hb k hk).1 e)
  gb := h.gb
  hb := h.hb
theorem Upd.set9 (h : Upd b o (o + 12) (fun k => k = g ∨ k ∈ blkOf ah) w w') (v : Value) : Upd b o (o + 12) (fun k => k = g ∨ k ∈ blkOf ah) w (w'.setCell ⟨b, o + 9, none⟩ v) := h.setCell (o + 9) (by omega) (by omega) v
theorem ScrAt.hist (h : ScrAt lo b o s g cc ah dh w) {us : List ByteArray} {a' : Option Addr} {c' : Nat} (hw : Win strE 9 1 lo w a' c' us) (hd : ∀ k ∈ blkOf a', k ≠ b ∧ k ≠ g) : ScrAt lo b o { s with hist := us } g cc a' c' (w.setCell ⟨b, o + 11, none⟩ (.slice a' us.length c')) where
  c0 := sO h.c0
  c1 := sO h.c1
  c2 := sO h.c2
  c3 := sO h.c3
  c4 := sO h.c4
  c5 := sO h.c5
  c6 := sO h.c6
  c7 := sO h.c7
  c8 := sO h.c8
  c9 := sO h.c9
  c10 := sO h.c10
  c11 := World.cell?_setCell_same _ _ _ h.c11
  fz := fun k => (World.frozen?_setCell _ _ _ _).trans (h.fz k)
  lt := by have := h.lt; simpa [World.setCell] using this
  row := h.row.ch (Ch.set1' w b (o + 11) _) (fun k hk e => by simp only [blkOf, List.mem_singleton] at hk; exact h.gb (hk.symm.trans e))
  win := hw.ch (Ch.set1' w b (o + 11) _) (fun k hk e => (hd k hk).1 e)
  gb := h.gb
  hb := hd
theorem ScrAt.cells (h : ScrAt lo b o s g cc ah dh w) {l : List Cl} (hf : FreshIn celE 60 2 lo w'.heap.size (.slice (some ⟨g, 0, none⟩) s.cells.length cc) l w') (hl : l.length = s.cells.length) (hc : Ch (· = g) w w') : ScrAt lo b o { s with cells := l } g cc ah dh w' where
  c0 := (hc.cell (p := ⟨b, o, none⟩) h.lt (fun e => h.gb e.symm)).trans h.c0
  c1 := (hc.cell (p := ⟨b, o + 1, none⟩) h.lt (fun e => h.gb e.symm)).trans h.c1
  c2 := (hc.cell (p := ⟨b, o + 2, none⟩) h.lt (fun e => h.gb e.symm)).trans h.c2
  c3 := (hc.cell (p := ⟨b, o + 3, none⟩) h.lt (fun e => h.gb e.symm)).trans h.c3
  c4 := (hc.cell (p := ⟨b, o + 4, none⟩) h.lt (fun e => h.gb e.symm)).trans h.c4
  c5 := (hc.cell (p := ⟨b, o + 5, none⟩) h.lt (fun e => h.gb e.symm)).trans h.c5
  c6 := (hc.cell (p := ⟨b, o + 6, none⟩) h.lt (fun e => h.gb e.symm)).trans h.c6
  c7 := (hc.cell (p := ⟨b, o + 7, none⟩) h.lt (fun e => h.gb e.symm)).trans h.c7
  c8 := (hc.cell (p := ⟨b, o + 8, none⟩) h.lt (fun e => h.gb e.symm)).trans h.c8
  c9 := (hc.cell (p := ⟨b, o + 9, none⟩) h.lt (fun e => h.gb e.symm)).trans h.c9
  c10 := by rw [hl]; exact (hc.cell (p := ⟨b, o + 10, none⟩) h.lt (fun e => h.gb e.symm)).trans h.c10
  c11 := (hc.cell (p := ⟨b, o + 11, none⟩) h.lt (fun e => h.gb e.symm)).trans h.c11
  fz := fun k => (hc.frozen (p := ⟨b, k, none⟩) h.lt (fun e => h.gb e.symm)).trans (h.fz k)
  lt := Nat.lt_of_lt_of_le h.lt hc.size
  row := by rw [hl]; exact hf
  win := h.win.ch hc (fun k hk => (h.hb k hk).2)
  gb := h.gb
  hb := h.hb
theorem flat_set (xs : List Cl) (i : Nat) (hi : i < xs.length) (c : Cl) : ((xs.flatMap celE).set (i * 2) (.int .i64 c.1)).set (i * 2 + 1) (.int .i64 c.2) = (xs.set i c).flatMap celE := flat_set2 celE (fun _ => rfl) xs i hi c _ _ rfl
theorem ScrAt.setC (h : ScrAt lo b o s g cc ah dh w) {i : Nat} (hi : i < s.cells.length) (c : Cl) : ScrAt lo b o { s with cells := s.cells.set i c } g cc ah dh ((w.setCell ⟨g, i * 2, none⟩ (.int .i64 c.1)).setCell ⟨g, i * 2 + 1, none⟩ (.int .i64 c.2)) := by
  have hc : Ch (· = g) w ((w.setCell ⟨g, i * 2, none⟩ (.int .i64 c.1)).setCell ⟨g, i * 2 + 1, none⟩ (.int .i64 c.2)) := (Ch.set1' w g (i * 2) _).trans (Ch.set1' _ g (i * 2 + 1) _) (fun _ h => .inl h)
  refine h.cells ?_ (by simp) hc
  obtain ⟨⟨a', cap', hv, h1, h2⟩, h3⟩ := h.row
  cases hv
  obtain ⟨hol, ho⟩ := h2
  rcases ho with ⟨hv, _⟩ | ⟨g', cap, cur, hv, hbg, hg, hnc, hcm, hcs, htake⟩
  · cases hv
  · cases hv
    have e1 := heap_setCell_same w g (i * 2) cur _ (.int .i64 c.1) hg
    have e2 := heap_setCell_same (w.setCell ⟨g, i * 2, none⟩ (.int .i64 c.1)) g (i * 2 + 1) _ _ (.int .i64 c.2) e1
    have hn : s.cells.length * 2 ≤ cc * 2 := Nat.mul_le_mul_right _ hnc
    refine ⟨⟨_, _, by rw [List.length_set], by rw [List.length_set]; exact h1, by rw [flat_length celE 2 (fun _ => rfl)], .inr ⟨g, cc, _, rfl, hbg, e2, by rw [List.length_set]; exact hnc, hcm, by simpa using hcs, ?_⟩⟩, fun k hk => by have := h3 k (by simpa [Value.ownBlock] using hk); simpa [World.setCell] using this⟩
    rw [List.length_set, Array.toList_setIfInBounds, Array.toList_setIfInBounds, ← flat_set s.cells i hi c, ← htake, List.take_set, List.take_set]
end
end
section
variable {lo b : Nat} {s : Scr} {g cc : Nat} {ah : Option Addr} {dh : Nat} {w : World}
theorem ScrAt.e0 (h : ScrAt lo b 0 s g cc ah dh w) : w.cell? ⟨b, 0, none⟩ = some (.int .i64 (s.w : Int)) := h.c0
theorem ScrAt.e1 (h : ScrAt lo b 0 s g cc ah dh w) : w.cell? ⟨b, 1, none⟩ = some (.int .i64 (s.h : Int)) := h.c1
theorem ScrAt.e2 (h : ScrAt lo b 0 s g cc ah dh w) : w.cell? ⟨b, 2, none⟩ = some (.int .i64 (s.x : Int)) := h.c2
theorem ScrAt.e3 (h : ScrAt lo b 0 s g cc ah dh w) : w.cell? ⟨b, 3, none⟩ = some (.int .i64 (s.y : Int)) := h.c3
theorem ScrAt.e4 (h : ScrAt lo b 0 s g cc ah dh w) : w.cell? ⟨b, 4, none⟩ = some (.int .i64 (s.look : Int)) := h.c4
theorem ScrAt.e5 (h : ScrAt lo b 0 s g cc ah dh w) : w.cell? ⟨b, 5, none⟩ = some (.int .i64 (s.top : Int)) := h.c5
theorem ScrAt.e6 (h : ScrAt lo b 0 s g cc ah dh w) : w.cell? ⟨b, 6, none⟩ = some (.int .i64 (s.bot : Int)) := h.c6
theorem ScrAt.e7 (h : ScrAt lo b 0 s g cc ah dh w) : w.cell? ⟨b, 7, none⟩ = some (.int .i64 (s.sx : Int)) := h.c7
theorem ScrAt.e8 (h : ScrAt lo b 0 s g cc ah dh w) : w.cell? ⟨b, 8, none⟩ = some (.int .i64 (s.sy : Int)) := h.c8
theorem ScrAt.e9 (h : ScrAt lo b 0 s g cc ah dh w) : w.cell? ⟨b, 9, none⟩ = some (.string s.title) := h.c9
theorem ScrAt.e10 (h : ScrAt lo b 0 s g cc ah dh w) : w.cell? ⟨b, 10, none⟩ = some (.slice (some ⟨g, 0, none⟩) s.cells.length cc) := h.c10
theorem ScrAt.e11 (h : ScrAt lo b 0 s g cc ah dh w) : w.cell? ⟨b, 11, none⟩ = some (.slice ah s.hist.length dh) := h.c11
end
section
open Go.RowKit
theorem l04Size_c (w h : Int) (W : World) : Calls Try.prog 35 #[.int .i64 w, .int .i64 h] W fun e w' => e = .returned (.bool (inB w 2 24 && inB h 2 10)) ∧ W = w' := by
  obtain ⟨u, hu⟩ : ∃ u, inB w 2 24 = u := ⟨_, rfl⟩
  obtain ⟨v, hv⟩ : ∃ v, inB h 2 10 = v := ⟨_, rfl⟩
  have HU := Lib.hid hu
  have HV := Lib.hid hv
  rw [hu, hv]
  clear hu hv
  cases u <;> cases v
  all_goals
    go_enter Try.func35, Try.ntmps35
    go_wp2_with (go_at_call 36; refine (l01In_c _ _ _ _).mono ?_; (first | rw [HU.out] | rw [HV.out]); rintro e w' ⟨rfl, rfl⟩)
    all_goals
      go_ret
      exact ⟨rfl, rfl⟩
theorem clrL_next {f i : Nat} {l : List Cl} (hf : f ≤ i) (hi : i < l.length) : (clrL f i l).set i blank = clrL f (i + 1) l := by
  unfold clrL blanksL
  have e1 : i + 1 - f = (i - f) + 1 := by omega
  rw [e1, List.replicate_succ', List.set_append, if_neg (by rw [List.length_take]; omega), List.set_append, if_neg (by rw [List.length_replicate, List.length_take]; omega), List.append_assoc]
  congr 2
  have e2 : i - (l.take f).length - (List.replicate (i - f) blank).length = 0 := by rw [List.length_take, List.length_replicate]; omega
  rw [e2, List.drop_eq_getElem_cons hi]
  rfl
theorem clrL_none {f : Nat} {l : List Cl} : clrL f f l = l := by simp [clrL, blanksL]
theorem clrL_length {f i : Nat} {l : List Cl} (hf : f ≤ i) (hi : i ≤ l.length) : (clrL f i l).length = l.length := clrL_len hf hi
theorem clear_c (lo b : Nat) (s : Scr) (g cc : Nat) (ah : Option Addr) (dh : Nat) (w : World) (f t : Nat) (h : ScrAt lo b 0 s g cc ah dh w) (hf : f ≤ t) (ht : t ≤ s.cells.length) (hn : s.cells.length ≤ 240) :
    Calls Try.prog 85 #[.pointer (some ⟨b, 0, none⟩), .int .i64 f, .int .i64 t] w fun e w' => e = .returned (.tuple #[]) ∧ ScrAt lo b 0 (clr f t s) g cc ah dh w' ∧ Ch (· = g) w w' := by
  have HS := Lib.hid h
  obtain ⟨n, hcn⟩ : ∃ n, s.cells.length = n := ⟨_, rfl⟩
  have HCN := Lib.hid hcn
  rw [hcn] at hn ht
  clear h hcn
  go_enter Try.func85, Try.ntmps85
  go_wp2_with fail
  go_loopw [6] (fun iv wr => ∃ i : Nat, f ≤ i ∧ i ≤ t ∧ iv = .int .i64 i ∧ Hid (ScrAt lo b 0 (clr f i s) g cc ah dh wr ∧ Ch (· = g) w wr)) (fun iv _ => t - (intOf iv).toNat)
  case atStart => exact ⟨f, Nat.le_refl _, hf, rfl, Lib.hid ⟨by unfold clr; rw [clrL_none]; exact HS.out, Ch.refl⟩⟩
  case round =>
    obtain ⟨i, hfi, hit, rfl, HR⟩ := hrel
    have hcl : (clr f i s).cells.length = n := (clrL_length hfi (by rw [HCN.out]; omega)).trans HCN.out
    by_cases hlt : i < t
    · have k_10 : wr.cell? ⟨b, 10, none⟩ = some (.slice (some ⟨g, 0, none⟩) n cc) := by rw [← hcl]; exact HR.out.1.c10
      have k_g0 := HR.out.1.gfz
      have k_gl := HR.out.1.glt.2
      have hi2 : i < (clr f i s).cells.length := by omega
      have k_c := (HR.out.1.cell hi2).1
      have k_d := (HR.out.1.cell hi2).2
      have hin : (i : Int) < (n : Int) := by omega
      have hSN := HR.out.1.setC hi2 blank
      have HSN := Lib.hid hSN
      have hCN : Ch (· = g) w ((wr.setCell ⟨g, i * 2, none⟩ (.int .i64 32)).setCell ⟨g, i * 2 + 1, none⟩ (.int .i64 0)) := (HR.out.2.trans (Ch.set1' _ g (i * 2) _) (fun _ h => .inl h)).trans (Ch.set1' _ g (i * 2 + 1) _) (fun _ h => .inl h)
      have HCN' := Lib.hid hCN
      clear hSN hCN hcl
      go_wp2_with fail
      go_roundw
      case rel =>
        refine ⟨i + 1, by omega, by omega, by go_num, Lib.hid ⟨?_, HCN'.out⟩⟩
        have := HSN.out
        unfold clr at this ⊢
        simp only at this
        rwa [clrL_next hfi (by rw [HCN.out]; omega)] at this
      case measure => simp [intOf]; omega
    · obtain rfl : i = t := by omega
      clear hcl
      go_wp2_with fail
      refine bodyPost_end (v := .tuple #[]) (by simp [results, Try.results85]) rfl ?_
      exact ⟨rfl, HR.out.1, HR.out.2⟩
theorem Try.infoCell : (Try.prog.info? 60).map (fun i => (i.zero, i.size, i.bytes)) = some (some (.agg #[.int .i64 0, .int .i64 0]), 2, 16) := by kernel_rfl
theorem FreshIn.emp {α : Type} (enc : α → List Value) (e : TypeId) (sz lo : Nat) (w : World) (h : lo ≤ w.heap.size) : FreshIn enc e sz lo (w.alloc (.cells #[] e)).heap.size (.slice (some ⟨w.heap.size, 0, none⟩) 0 0) [] (w.alloc (.cells #[] e)) := by
  refine ⟨⟨_, 0, rfl, Nat.le_refl _, by simp, .inr ⟨w.heap.size, 0, #[], rfl, h, heap_alloc_new w _, Nat.le_refl _, by unfold maxLen; omega, by simp, by simp⟩⟩, fun k hk => ?_⟩
  cases hk
  simp
def BlankR (n : Nat) (w : World) (e : Ending) (w' : World) : Prop :=
  ∃ a c, e = .returned (.slice a n c) ∧ FreshIn celE 60 2 w.heap.size w'.heap.size (.slice a n c) (blanksL n) w' ∧ Below w.heap.size w w'
theorem l04Blank_c (n : Nat) (w : World) (hn : n ≤ 240) :
    Calls Try.prog 49 #[.int .i64 n] w (BlankR n w) := by
  obtain ⟨iA, hA, hA0, hA1, hA2⟩ := info_parts Try.infoCell
  have hA := hA
  go_enter Try.func49, Try.ntmps49
  go_wp2_with fail
  go_loopw [3, 4] (fun lv iv wr => ∃ (i : Nat) (a : Option Addr) (c : Nat) (L : List Cl), i ≤ n ∧ iv = .int .i64 i ∧ lv = .slice a L.length c ∧ Hid (L = blanksL i ∧ FreshIn celE 60 2 w.heap.size wr.heap.size (.slice a L.length c) L wr ∧ Below w.heap.size w wr)) (fun _ iv _ => n - (intOf iv).toNat)
  case atStart =>
    exact ⟨0, some ⟨w.heap.size, 0, none⟩, 0, [], Nat.zero_le _, rfl, rfl, Lib.hid ⟨rfl, FreshIn.emp celE _ 2 w.heap.size w (Nat.le_refl _), (Below.refl _ _).alloc (Nat.le_refl _) _⟩⟩
  case round =>
    obtain ⟨i, a, c, L, hin, rfl, rfl, HR⟩ := hrel
    by_cases hlt : i < n
    · have hlt' : (i : Int) < (n : Int) := by omega
      have HB0 : Hid (Below w.heap.size w (wr.alloc (.cells #[.int .i64 32, .int .i64 0] 60))) := Lib.hid (HR.out.2.2.alloc HR.out.2.2.size _)
      have HF0 : Hid (FreshIn celE 60 2 w.heap.size (wr.alloc (.cells #[.int .i64 32, .int .i64 0] 60)).heap.size (.slice a L.length c) L (wr.alloc (.cells #[.int .i64 32, .int .i64 0] 60))) := Lib.hid (HR.out.2.1.keepB ((Below.refl _ _).alloc (Nat.le_refl _) _))
      have HSRC : Hid (Src Try.prog 2 23 (.slice (some ⟨wr.heap.size, 0, none⟩) 1 1) [blank].length ([blank].flatMap celE) (wr.alloc (.cells #[.int .i64 32, .int .i64 0] 60))) := Lib.hid (Src.ofBox (enc := celE) Try.underlying23 (fun _ => rfl) celOne blank _ _ (by simp [celE, blank]) _ (by simp))
      have hL : L.length = i := by rw [HR.out.1]; simp [blanksL]
      have HLL := Lib.hid hL
      have hz0 := HR.out.2.2.size
      go_wp2_with (at_builtin; refine wpList_append_ch (.tmp 11) (.tmp 13) 23 23 w.heap.size 60 iA (.agg #[.int .i64 0, .int .i64 0]) 2 16 Try.underlying23 hA hA0 hA1 hA2 rfl (by decide) a L.length c L HF0.out (.slice (some ⟨wr.heap.size, 0, none⟩) 1 1) [blank] HSRC.out (by simp; omega) (by simp; omega) rfl rfl rfl rfl ?_)
      intro a8 c8 w8 us hus hf8 hc8 hk8
      have HUS := hus
      have HF8 := Lib.hid hf8
      have HB8 : Hid (Below w.heap.size w w8) := Lib.hid (HB0.out.trans (hc8.below (by simp; omega) (fun k hk => (FreshIn.blks HF0.out k hk).1)))
      clear hus hf8 hc8 hk8 hL
      go_wp2_with fail
      go_roundw
      case rel =>
        refine ⟨i + 1, a8, c8, us, by omega, by go_num, rfl, Lib.hid ⟨?_, HF8.out, HB8.out⟩⟩
        rw [HUS.out, HR.out.1]
        simp [blanksL, List.replicate_succ']
      case measure => simp [intOf]; omega
    · obtain rfl : i = n := by omega
      go_wp2_with fail
      go_ret
      have hL : L.length = i := by rw [HR.out.1]; simp [blanksL]
      have hf := HR.out.2.1
      rw [hL, HR.out.1] at hf
      exact ⟨a, c, by rw [← hL]; rfl, hf, HR.out.2.2⟩
end
section
open Go.RowKit
theorem ret_i {a b : Int} (h : a = b) : Ending.returned (.int .i64 a) = .returned (.int .i64 b) := by rw [h]
theorem ret_b {a b : Bool} (h : a = b) : Ending.returned (.bool a) = .returned (.bool b) := by rw [h]
def ctlI (n : Int) : Bool := inB n 7 10 || (n == 13)
theorem lowOf_one (x : UInt8) : lowOf [x] = if x.toNat = 224 then 160 else if x.toNat = 240 then 144 else 128 := rfl
theorem highOf_one (x : UInt8) : highOf [x] = if x.toNat = 237 then 159 else if x.toNat = 244 then 143 else 191 := rfl
theorem low_not {l : List UInt8} (h : l.length ≠ 1) : lowOf l = 128 ∧ highOf l = 191 := by
  match l, h with
  | [], _ => exact ⟨rfl, rfl⟩
  | [_], h => simp at h
  | _ :: _ :: _, _ => exact ⟨rfl, rfl⟩
end
section
open Go.RowKit
def inT (b : UInt8) : Bool := decide (32 ≤ b.toNat) && decide (b.toNat ≤ 126)
theorem titB_eq (s : ByteArray) : titB s = (decide (s.size ≤ 40) && s.data.toList.all inT) := rfl
theorem getL {s : ByteArray} {k : Nat} (h : k < s.size) : ∃ h2 : k < s.data.toList.length, s.data.toList[k]'h2 = s[k]'h := ⟨h, rfl⟩
theorem isTitle_c (s : ByteArray) (w : World) (hz : s.size ≤ 1099511627776) : Calls Try.prog 26 #[.string s] w fun e w' => e = .returned (.bool (titB s)) ∧ w = w' := by
  go_enter Try.func26, Try.ntmps26
  go_wp2_with fail
  go_loop [6] (fun i => ∃ k : Nat, k ≤ s.size ∧ i = .int .i64 k ∧ Hid (∀ j (hj : j < s.size), j < k → inT s[j] = true)) (fun i => s.size - (intOf i).toNat)
  case atStart => exact ⟨0, Nat.zero_le _, rfl, Lib.hid (fun j _ h => absurd h (Nat.not_lt_zero _))⟩
  case round =>
    obtain ⟨k, hk, rfl, HP⟩ := hrel
    by_cases hlt : k < s.size
    · have HN : Hid (inT s[k] = false → titB s = false) := Lib.hid (fun h => by
        rw [titB_eq]
        have : s.data.toList.all inT = false := by
          rw [List.all_eq_false]
          obtain ⟨h2, h3⟩ := getL hlt
          exact ⟨_, List.getElem_mem h2, by rw [h3, h]; simp⟩
        rw [this, Bool.and_false])
      obtain ⟨x, hx⟩ : ∃ x, s[k] = x := ⟨_, rfl⟩
      have HX := Lib.hid hx
      rw [hx] at HN
      go_wp2_with fail
      all_goals first
        | (go_ret; exact ⟨ret_b (HN.out (by simp [inT]; omega)).symm, rfl⟩)
        | (go_round
           case rel =>
             refine ⟨k + 1, by omega, by go_num, Lib.hid (fun j hj h => ?_)⟩
             rcases Nat.lt_succ_iff_lt_or_eq.1 h with h | rfl
             · exact HP.out j hj h
             · rw [HX.out]; simp [inT]; omega
           case measure => simp [intOf]; omega)
    · have HA : Hid (titB s = decide (s.size ≤ 40)) := Lib.hid (by
        rw [titB_eq]
        have : s.data.toList.all inT = true := by
          rw [List.all_eq_true]
          intro x hx
          obtain ⟨j, hj, rfl⟩ := List.getElem_of_mem hx
          exact HP.out j hj (by have : s.data.toList.length = s.size := rfl; omega)
        rw [this, Bool.and_true])
      go_wp2_with fail
      all_goals
        go_ret
        exact ⟨ret_b (by rw [HA.out, Bool.eq_iff_iff]; simp only [decide_eq_true_eq]; omega), rfl⟩
end
section
open Go.RowKit
def fitK (l : List UInt8) (k : Nat) : Prop := ∀ j, 1 ≤ j → j < k → mayF (l.take j) (l.getD j 0).toNat = true
theorem begB_iff {l : List UInt8} : begB l = true ↔ 0 < l.length ∧ l.length < utfLen (l.headD 0).toNat ∧ fitK l l.length := by
  simp only [begB, Bool.and_eq_true, decide_eq_true_eq, List.all_eq_true, List.mem_range, Bool.or_eq_true, beq_iff_eq, fitK]
  constructor
  · rintro ⟨⟨h1, h2⟩, h3⟩
    exact ⟨h1, h2, fun j hj hk => (h3 j hk).resolve_left (by omega)⟩
  · rintro ⟨h1, h2, h3⟩
    refine ⟨⟨h1, h2⟩, fun j hj => ?_⟩
    rcases Nat.eq_zero_or_pos j with h | h
    · exact .inl h
    · exact .inr (h3 j h hj)
theorem headL {s : ByteArray} (h : 0 < s.size) : s.data.toList.headD 0 = s[0] := by
  cases s with
  | mk d =>
    have hl : d.toList.length = d.size := rfl
    match hd : d.toList, hl with
    | [], hl => have : d.size = 0 := hl.symm; have h' : 0 < d.size := h; omega
    | a :: l, _ =>
      have : d = (a :: l).toArray := by rw [← hd]
      subst this
      rfl
theorem getDL {s : ByteArray} {k : Nat} (h : k < s.size) : s.data.toList.getD k 0 = s[k] := by
  obtain ⟨h2, h3⟩ := getL h
  rw [← h3, List.getD_eq_getElem?_getD, List.getElem?_eq_getElem h2]
  rfl
end
section
open Go.RowKit
theorem notEmpty {s : ByteArray} (h : ¬ s.size = 0) : s.toList.isEmpty = false := by
  rw [Lib.toList_data]
  have hl : s.data.toList.length = s.size := rfl
  cases hd : s.data.toList with
  | nil => rw [hd] at hl; simp at hl; omega
  | cons _ _ => rfl
end
section
open Go.RowKit
structure ActA where
  A : AV
  aa : Option Addr
  ca : Nat
def actE (r : ActA) : List Value := [.int .i64 r.A.kind, .int .i64 r.A.n, .bool r.A.priv, .slice r.aa r.A.args.length r.ca, .string r.A.text]
def actBlk (r : ActA) : List Nat := blkOf r.aa
def actOwn (lo : Nat) (w : World) (r : ActA) : Prop := FreshIn intE 3 1 lo w.heap.size (.slice r.aa r.A.args.length r.ca) r.A.args w
theorem actL : OwnL actOwn actBlk where
  ch := fun h hc hd => FreshIn.ch h hc hd
  low := fun hl h => FreshIn.low h hl
  bd := fun h k hk => FreshIn.blks h k hk
  nd := fun _ => blkOf_nodup _
abbrev ActO (lo : Nat) (L : List ActA) (al : Option Addr) (cl : Nat) (w : World) : Prop := RO actE 87 5 actOwn actBlk lo L al cl w
abbrev acB (al : Option Addr) (L : List ActA) : List Nat := roB actBlk al L
theorem Try.infoAction : (Try.prog.info? 87).map (fun i => (i.zero, i.size, i.bytes)) = some (some (.agg #[.int .i64 0, .int .i64 0, .bool false, .slice none 0 0, .string ⟨#[]⟩]), 5, 64) := by kernel_rfl
theorem actOne : ∀ (x : ActA), ∀ u ∈ actE x, u.oneCell' = true := by
  intro x u hu
  simp only [actE, List.mem_cons, List.not_mem_nil, or_false] at hu
  rcases hu with rfl | rfl | rfl | rfl | rfl <;> rfl
structure PS (B lo : Nat) (p : PV) (ap : Option Addr) (cp : Nat) (L : List ActA) (al : Option Addr) (cl : Nat) (w : World) : Prop where
  c0 : w.cell? ⟨B, 0, none⟩ = some (.int .i64 p.state)
  c1 : w.cell? ⟨B, 1, none⟩ = some (.slice ap p.args.length cp)
  c2 : w.cell? ⟨B, 2, none⟩ = some (.bool p.priv)
  c3 : w.cell? ⟨B, 3, none⟩ = some (.string p.text)
  c4 : w.cell? ⟨B, 4, none⟩ = some (.string p.utf)
  fz : ∀ o, w.frozen? ⟨B, o, none⟩ = false
  lt : B < w.heap.size
  args : FreshIn intE 3 1 lo w.heap.size (.slice ap p.args.length cp) p.args w
  ro : ActO lo L al cl w
  nB : B ∉ blkOf ap ++ acB al L
  nd : ∀ k ∈ blkOf ap, k ∉ acB al L
section
variable {B lo : Nat} {p p' : PV} {ap ap' al al' : Option Addr} {cp cp' cl cl' : Nat} {L us : List ActA} {w w' w1 : World} {M : Nat → Prop}
theorem PS.ch (h : PS B lo p ap cp L al cl w) (hc : Ch M w w') (hB : ¬ M B) (hd : ∀ k ∈ blkOf ap ++ acB al L, ¬ M k) : PS B lo p ap cp L al cl w' where
  c0 := (hc.cell (p := ⟨B, 0, none⟩) h.lt hB).trans h.c0
  c1 := (hc.cell (p := ⟨B, 1, none⟩) h.lt hB).trans h.c1
  c2 := (hc.cell (p := ⟨B, 2, none⟩) h.lt hB).trans h.c2
  c3 := (hc.cell (p := ⟨B, 3, none⟩) h.lt hB).trans h.c3
  c4 := (hc.cell (p := ⟨B, 4, none⟩) h.lt hB).trans h.c4
  fz := fun o => (hc.frozen (p := ⟨B, o, none⟩) h.lt hB).trans (h.fz o)
  lt := Nat.lt_of_lt_of_le h.lt hc.size
  args := h.args.ch hc (fun k hk => hd k (by simp [hk]))
  ro := h.ro.ch actL hc (fun k hk => hd k (by rw [List.mem_append]; exact .inr hk))
  nB := h.nB
  nd := h.nd
theorem PS.keep (h : PS B lo p ap cp L al cl w) (hb : Below w.heap.size w w') : PS B lo p ap cp L al cl w' := h.ch (M := fun _ => False) (Ch.of_below hb) (fun h => h) (fun _ _ h => h)
theorem PS.cells (h : PS B lo p ap cp L al cl w) (hc : Ch (· = B) w w') (c0 : w'.cell? ⟨B, 0, none⟩ = some (.int .i64 p'.state)) (c1 : w'.cell? ⟨B, 1, none⟩ = some (.slice ap' p'.args.length cp')) (c2 : w'.cell? ⟨B, 2, none⟩ = some (.bool p'.priv))
    (c3 : w'.cell? ⟨B, 3, none⟩ = some (.string p'.text)) (c4 : w'.cell? ⟨B, 4, none⟩ = some (.string p'.utf)) (fz : ∀ o, w'.frozen? ⟨B, o, none⟩ = false) (ha : (ap' = ap ∧ cp' = cp ∧ p'.args = p.args) ∨ (ap' = none ∧ cp' = 0 ∧ p'.args = [])) : PS B lo p' ap' cp' L al cl w' := by
  have hne : ∀ k ∈ blkOf ap ++ acB al L, ¬ k = B := fun k hk e => h.nB (e ▸ hk)
  have hro := h.ro.ch actL hc (fun k hk => hne k (by rw [List.mem_append]; exact .inr hk))
  have hlt := Nat.lt_of_lt_of_le h.lt hc.size
  rcases ha with ⟨rfl, rfl, e⟩ | ⟨rfl, rfl, e⟩
  · exact ⟨c0, c1, c2, c3, c4, fz, hlt, by rw [e]; exact h.args.ch hc (fun k hk => hne k (by simp [hk])), hro, h.nB, h.nd⟩
  · refine ⟨c0, c1, c2, c3, c4, fz, hlt, by rw [e]; exact FreshIn.nil _ _ _ _ _ _, hro, fun hb => h.nB ?_, by simp [blkOf]⟩
    simp only [blkOf, List.nil_append] at hb
    rw [List.mem_append]; exact .inr hb
theorem PS.push (h : PS B lo p ap cp L al cl w) {x : ActA} (hx : x.aa = none ∧ x.ca = 0 ∧ x.A.args = []) (hus : us = L ++ [x]) (hf : FreshIn actE 87 5 lo w'.heap.size (.slice al' us.length cl') us w') (hc : Ch (· ∈ blkOf al) w w')
    (hk : ∀ k ∈ blkOf al', k ∈ blkOf al ∨ k = w.heap.size) : PS B lo p ap cp us al' cl' w' := by
  have hB : B ∉ blkOf al := fun hb => h.nB (by simp [roB, hb])
  have hA : ∀ k ∈ blkOf ap, k ∉ blkOf al := fun k hk1 hk2 => h.nd k hk1 (by simp [roB, hk2])
  have hbx : actBlk x = [] := by unfold actBlk; rw [hx.1]; rfl
  have hro : ActO lo us al' cl' w' := h.ro.push actL (by unfold actOwn; rw [hx.1, hx.2.1, hx.2.2]; exact FreshIn.nil _ _ _ _ _ _) (by rw [hbx]; simp) hus hf hc hk
  have hin : ∀ k ∈ acB al' us, k ∈ acB al L ∨ k = w.heap.size := by
    intro k hk1
    simp only [roB, List.mem_append] at hk1 ⊢
    rcases hk1 with hk1 | hk1
    · rcases hk k hk1 with h2 | h2
      · exact .inl (.inl h2)
      · exact .inr h2
    · rw [hus] at hk1
      simp only [List.flatMap_append, List.flatMap_cons, List.flatMap_nil, List.append_nil, hbx] at hk1
      exact .inl (.inr hk1)
  refine ⟨(hc.cell (p := ⟨B, 0, none⟩) h.lt hB).trans h.c0, (hc.cell (p := ⟨B, 1, none⟩) h.lt hB).trans h.c1, (hc.cell (p := ⟨B, 2, none⟩) h.lt hB).trans h.c2, (hc.cell (p := ⟨B, 3, none⟩) h.lt hB).trans h.c3, (hc.cell (p := ⟨B, 4, none⟩) h.lt hB).trans h.c4, fun o => (hc.frozen (p := ⟨B, o, none⟩) h.lt hB).trans (h.fz o), Nat.lt_of_lt_of_le h.lt hc.size, h.args.ch hc hA, hro, fun hb => ?_, fun k hk1 hk2 => ?_⟩
  · rcases List.mem_append.1 hb with hb | hb
    · exact h.nB (by simp [hb])
    · rcases hin B hb with h2 | h2
      · exact h.nB (List.mem_append.2 (.inr h2))
      · have := h.lt; omega
  · rcases hin k hk2 with h2 | h2
    · exact h.nd k hk1 h2
    · have := (FreshIn.blks h.args k hk1).2; omega
theorem PS.pushIn {x : ActA} (hx : x.aa = none) (hus : us = L ++ [x]) (hk : ∀ k ∈ blkOf al', k ∈ blkOf al ∨ k = w.heap.size) : ∀ k ∈ acB al' us, k ∈ acB al L ∨ w.heap.size ≤ k := by
  intro k hk1
  have hbx : actBlk x = [] := by unfold actBlk; rw [hx]; rfl
  simp only [roB, List.mem_append] at hk1 ⊢
  rcases hk1 with hk1 | hk1
  · rcases hk k hk1 with h2 | h2
    · exact .inl (.inl h2)
    · exact .inr (by omega)
  · rw [hus] at hk1
    simp only [List.flatMap_append, List.flatMap_cons, List.flatMap_nil, List.append_nil, hbx] at hk1
    exact .inl (.inr hk1)
end
def PR (B lo : Nat) (R : PV × List AV) (ap : Option Addr) (L : List ActA) (al : Option Addr) (w : World) (e : Ending) (w' : World) : Prop :=
  ∃ (ap' : Option Addr) (cp' : Nat) (L' : List ActA) (al' : Option Addr) (cl' : Nat), e = .returned (.slice al' L'.length cl') ∧ PS B lo R.1 ap' cp' L' al' cl' w' ∧ L'.map (·.A) = L.map (·.A) ++ R.2 ∧
    Ch (fun k => k = B ∨ k ∈ blkOf ap ∨ k ∈ blkOf al) w w' ∧ (∀ k ∈ blkOf ap' ++ acB al' L', k ∈ blkOf ap ++ acB al L ∨ w.heap.size ≤ k)
section
variable {B lo : Nat} {p p' : PV} {ap ap' al al' : Option Addr} {cp cp' cl cl' : Nat} {L us : List ActA} {w w' w1 w2 : World} {R : PV × List AV} {e : Ending}
theorem PR.cells (h : PS B lo p ap cp L al cl w) (hc : Ch (· = B) w w') (hR1 : R.1 = p') (hR2 : R.2 = []) (h' : PS B lo p' ap' cp' L al cl w') (ha : ap' = ap ∨ ap' = none) : PR B lo R ap L al w (.returned (.slice al L.length cl)) w' := by
  refine ⟨ap', cp', L, al, cl, rfl, by rw [hR1]; exact h', by rw [hR2]; simp, hc.mono (fun i hi => .inl (.inl hi)), fun k hk => .inl ?_⟩
  rcases ha with rfl | rfl
  · exact hk
  · simp only [blkOf, List.nil_append] at hk
    rw [List.mem_append]; exact .inr hk
theorem PR.push (h : PS B lo p ap cp L al cl w) {x : ActA} (hx : x.aa = none) (hus : us = L ++ [x]) (hk : ∀ k ∈ blkOf al', k ∈ blkOf al ∨ k = w1.heap.size) (hz : w.heap.size ≤ w1.heap.size)
    (hc : Ch (fun k => k = B ∨ k ∈ blkOf al) w w') (hR1 : R.1 = p') (hR2 : R.2 = [x.A]) (h' : PS B lo p' ap' cp' us al' cl' w') (ha : ap' = ap ∨ ap' = none) : PR B lo R ap L al w (.returned (.slice al' us.length cl')) w' := by
  refine ⟨ap', cp', us, al', cl', rfl, by rw [hR1]; exact h', by rw [hR2, hus]; simp, hc.mono (fun i hi => .inl (by rcases hi with h | h; exact .inl h; exact .inr (.inr h))), fun k hk1 => ?_⟩
  have hin := PS.pushIn (w := w1) (al := al) (L := L) hx hus hk
  rcases List.mem_append.1 hk1 with hk2 | hk2
  · rcases ha with rfl | rfl
    · exact .inl (List.mem_append.2 (.inl hk2))
    · simp [blkOf] at hk2
  · rcases hin k hk2 with h2 | h2
    · exact .inl (List.mem_append.2 (.inr h2))
    · exact .inr (by omega)
end
end
section
open Go.RowKit
theorem ctl_eq (n : Nat) : ctlI (n : Int) = ctl n := by
  unfold ctlI ctl inB
  rw [Bool.eq_iff_iff]
  simp only [Bool.or_eq_true, Bool.and_eq_true, decide_eq_true_eq, beq_iff_eq]
  omega
theorem Ch.setB {a w : World} {B : Nat} (h : Ch (fun k => k = B) a w) (o : Nat) (u : Value) : Ch (fun k => k = B) a (w.setCell ⟨B, o, none⟩ u) := Ch.setCell (M := fun k => k = B) (p := ⟨B, o, none⟩) h (Or.inl rfl) u
theorem Ch.set1 (w : World) (B o : Nat) (u : Value) : Ch (fun k => k = B) w (w.setCell ⟨B, o, none⟩ u) := Ch.refl.setB o u
theorem conv1 (w : World) (b : UInt8) (n : Nat) (hn : b.toNat = n) : (convert 22 9 (.slice (some ⟨w.heap.size, 0, none⟩) 1 1)).run Try.prog (w.alloc (.cells #[.int .u8 n] 5)) = .ok (.string ⟨#[b]⟩) (w.alloc (.cells #[.int .u8 n] 5)) := by
  refine run_convert_bytes_back (w.alloc (.cells #[.int .u8 n] 5)) _ _ 5 ⟨w.heap.size, 0, none⟩ 1 [b] Try.underlying22 Try.underlying5 Try.underlying9 (fun j hj => ?_)
  have h0 : j = 0 := by simpa using hj
  subst h0
  simp [go_sem, hn]
section
variable {b : UInt8}
theorem gs1 (h : b.toNat = 27) : gstep b = (pst 1, []) := by unfold gstep; rw [if_pos h]
theorem gs2 (h : ¬ b.toNat = 27) (h2 : ctl b.toNat = true) : gstep b = (pz, [⟨2, b.toNat, false, [], e0⟩]) := by unfold gstep; rw [if_neg h, if_pos h2]
theorem gs3 (h : ¬ b.toNat = 27) (h2 : ctl b.toNat = false) (h3 : 32 ≤ b.toNat ∧ b.toNat ≤ 126) : gstep b = (pz, [pr b.toNat]) := by unfold gstep; rw [if_neg h, if_neg (by rw [h2]; simp), if_pos h3]
theorem gs4 (h : ¬ b.toNat = 27) (h2 : ctl b.toNat = false) (h3 : ¬ (32 ≤ b.toNat ∧ b.toNat ≤ 126)) (h4 : b.toNat < 128) : gstep b = (pz, []) := by unfold gstep; rw [if_neg h, if_neg (by rw [h2]; simp), if_neg h3, if_pos h4]
theorem gs5 (h : 128 ≤ b.toNat) (h5 : 0 < utfLen b.toNat) : gstep b = (⟨6, [], false, e0, ⟨#[b]⟩⟩, []) := by
  unfold gstep
  rw [if_neg (by omega), if_neg (by simp [ctl]; omega), if_neg (by omega), if_neg (by omega), if_pos h5]
theorem gs6 (h : 128 ≤ b.toNat) (h5 : ¬ 0 < utfLen b.toNat) : gstep b = (pz, [pr 65533]) := by
  unfold gstep
  rw [if_neg (by omega), if_neg (by simp [ctl]; omega), if_neg (by omega), if_neg (by omega), if_neg h5]
end
end
section
open Go.RowKit
def scrV (s : Scr) (ac : Option Addr) (cc : Nat) (ah : Option Addr) (dh : Nat) : Value := .agg #[.int .i64 (s.w : Int), .int .i64 (s.h : Int), .int .i64 (s.x : Int), .int .i64 (s.y : Int), .int .i64 (s.look : Int), .int .i64 (s.top : Int), .int .i64 (s.bot : Int), .int .i64 (s.sx : Int), .int .i64 (s.sy : Int), .string s.title, .slice ac s.cells.length cc, .slice ah s.hist.length dh]
structure ScrF (lo : Nat) (s : Scr) (ac : Option Addr) (cc : Nat) (ah : Option Addr) (dh : Nat) (w : World) : Prop where
  row : FreshIn celE 60 2 lo w.heap.size (.slice ac s.cells.length cc) s.cells w
  win : Win strE 9 1 lo w ah dh s.hist
  ap : ∀ k ∈ blkOf ah, k ∉ blkOf ac
structure ScrS (s : Scr) (ac ah : Option Addr) (w : World) : Prop where
  cs : Sl celE 2 w ac s.cells
  hs : Sl strE 1 w ah s.hist
section
variable {lo : Nat} {s : Scr} {ac ah : Option Addr} {cc dh : Nat} {w w' : World} {M : Nat → Prop}
theorem ScrF.ch (h : ScrF lo s ac cc ah dh w) (hc : Ch M w w') (h1 : ∀ k ∈ blkOf ac, ¬ M k) (h2 : ∀ k ∈ blkOf ah, ¬ M k) : ScrF lo s ac cc ah dh w' := ⟨h.row.ch hc h1, h.win.ch hc h2, h.ap⟩
theorem ScrF.below (h : ScrF lo s ac cc ah dh w) (hb : Below w.heap.size w w') : ScrF lo s ac cc ah dh w' := h.ch (M := fun _ => False) (Ch.of_below hb) (fun _ _ h => h) (fun _ _ h => h)
theorem ScrF.low {lo' : Nat} (h : ScrF lo s ac cc ah dh w) (hl : lo' ≤ lo) : ScrF lo' s ac cc ah dh w := ⟨h.row.mono hl (Nat.le_refl _), h.win.low hl, h.ap⟩
theorem ScrF.rd (h : ScrF lo s ac cc ah dh w) : ScrS s ac ah w := ⟨h.row.sl (fun _ => rfl), h.win.sl (fun _ => rfl)⟩
theorem ScrS.below (h : ScrS s ac ah w) (hb : Below w.heap.size w w') : ScrS s ac ah w' := ⟨h.cs.keep hb, h.hs.keep hb⟩
theorem ScrS.alloc (h : ScrS s ac ah w) (o : Obj) : ScrS s ac ah (w.alloc o) := h.below ((Below.refl _ _).alloc (Nat.le_refl _) _)
theorem ScrS.drew (h : ScrS s ac ah w) : ScrS s ac ah w.drew := h.below ((Below.refl _ _).drew)
theorem ScrAt.rd {b o g : Nat} (h : ScrAt lo b o s g cc ah dh w) : ScrS s (some ⟨g, 0, none⟩) ah w := ⟨h.sl, h.hsl⟩
theorem ScrF.blk (h : ScrF lo s ac cc ah dh w) (h0 : 0 < s.cells.length) : ∃ g, ac = some ⟨g, 0, none⟩ := by
  obtain ⟨g, h1, _⟩ := h.row.block h0
  exact ⟨g, h1⟩
end
def ScrN (s : Scr) (w : World) (e : Ending) (w' : World) : Prop :=
  ∃ ac cc ah dh, e = .returned (scrV s ac cc ah dh) ∧ ScrF w.heap.size s ac cc ah dh w' ∧ Below w.heap.size w w'
theorem ScrAt.box {lo : Nat} {s : Scr} {g cc : Nat} {ah : Option Addr} {dh : Nat} {w : World} (h : ScrF lo s (some ⟨g, 0, none⟩) cc ah dh w) (T : TypeId) : ScrAt lo w.heap.size 0 s g cc ah dh (w.alloc (.cells #[.int .i64 (s.w : Int), .int .i64 (s.h : Int), .int .i64 (s.x : Int), .int .i64 (s.y : Int), .int .i64 (s.look : Int), .int .i64 (s.top : Int), .int .i64 (s.bot : Int), .int .i64 (s.sx : Int), .int .i64 (s.sy : Int), .string s.title, .slice (some ⟨g, 0, none⟩) s.cells.length cc, .slice ah s.hist.length dh] T)) := by
  have hg := FreshIn.blks h.row g (by simp [blkOf])
  have hh := h.win.blk
  have hc : Ch (fun _ => False) w (w.alloc (.cells #[.int .i64 (s.w : Int), .int .i64 (s.h : Int), .int .i64 (s.x : Int), .int .i64 (s.y : Int), .int .i64 (s.look : Int), .int .i64 (s.top : Int), .int .i64 (s.bot : Int), .int .i64 (s.sx : Int), .int .i64 (s.sy : Int), .string s.title, .slice (some ⟨g, 0, none⟩) s.cells.length cc, .slice ah s.hist.length dh] T)) := Ch.refl.alloc _
  refine ⟨?_, ?_, ?_, ?_, ?_, ?_, ?_, ?_, ?_, ?_, ?_, ?_, ?_, by simp, h.row.ch hc (fun _ _ h => h), h.win.ch hc (fun _ _ h => h), by omega, fun k hk => ⟨by have := hh k hk; omega, fun e => h.ap k hk (by rw [e]; simp [blkOf])⟩⟩
  all_goals simp [go_sem]
theorem l04New_c (wd ht : Nat) (w : World) (h1 : wd ≤ 24) (h2 : ht ≤ 10) (h3 : 1 ≤ ht) :
    Calls Try.prog 20 #[.int .i64 wd, .int .i64 ht] w (ScrN (newS wd ht) w) := by
  obtain ⟨n, hn⟩ : ∃ n, wd * ht = n := ⟨_, rfl⟩
  have hn2 : n ≤ 240 := by rw [← hn]; exact Nat.mul_le_mul h1 h2
  have hq : (wd : Int) * (ht : Int) = (n : Int) := by rw [← hn]; exact (Int.natCast_mul wd ht).symm
  have hq2 : (ht : Int) - 1 = ((ht - 1 : Nat) : Int) := by omega
  have HN := Lib.hid hn
  clear hn
  go_enter Try.func20, Try.ntmps20
  go_wp2_with (go_at_call 49; refine (l04Blank_c n _ hn2).mono ?_)
  rintro e w1 ⟨a, c, rfl, hf, hb⟩
  have HF := Lib.hid hf
  have HB := Lib.hid hb
  have hz := hb.size
  simp only [World.size_alloc] at hz
  have ul : w.heap.size < w1.heap.size := by omega
  have u_0 : w1.cell? ⟨w.heap.size, 0, none⟩ = some (.int .i64 0) := kC hb (by simp) (by simp [go_sem])
  have u_1 : w1.cell? ⟨w.heap.size, 1, none⟩ = some (.int .i64 0) := kC hb (by simp) (by simp [go_sem])
  have u_2 : w1.cell? ⟨w.heap.size, 2, none⟩ = some (.int .i64 0) := kC hb (by simp) (by simp [go_sem])
  have u_3 : w1.cell? ⟨w.heap.size, 3, none⟩ = some (.int .i64 0) := kC hb (by simp) (by simp [go_sem])
  have u_4 : w1.cell? ⟨w.heap.size, 4, none⟩ = some (.int .i64 0) := kC hb (by simp) (by simp [go_sem])
  have u_5 : w1.cell? ⟨w.heap.size, 5, none⟩ = some (.int .i64 0) := kC hb (by simp) (by simp [go_sem])
  have u_6 : w1.cell? ⟨w.heap.size, 6, none⟩ = some (.int .i64 0) := kC hb (by simp) (by simp [go_sem])
  have u_7 : w1.cell? ⟨w.heap.size, 7, none⟩ = some (.int .i64 0) := kC hb (by simp) (by simp [go_sem])
  have u_8 : w1.cell? ⟨w.heap.size, 8, none⟩ = some (.int .i64 0) := kC hb (by simp) (by simp [go_sem])
  have u_9 : w1.cell? ⟨w.heap.size, 9, none⟩ = some (.string ⟨#[]⟩) := kC hb (by simp) (by simp [go_sem])
  have u_10 : w1.cell? ⟨w.heap.size, 10, none⟩ = some (.slice none 0 0) := kC hb (by simp) (by simp [go_sem])
  have u_11 : w1.cell? ⟨w.heap.size, 11, none⟩ = some (.slice none 0 0) := kC hb (by simp) (by simp [go_sem])
  have u_f : ∀ o, w1.frozen? ⟨w.heap.size, o, none⟩ = false := fun o => (hb.frozen (p := ⟨w.heap.size, o, none⟩) (by show w.heap.size < _; simp)).trans (by simp [go_sem])
  clear hf hb
  go_wp2_with fail
  refine bodyPost_ret (v := .agg #[.int .i64 wd, .int .i64 ht, .int .i64 0, .int .i64 0, .int .i64 0, .int .i64 0, .int .i64 ((ht - 1 : Nat) : Int), .int .i64 0, .int .i64 0, .string ⟨#[]⟩, .slice a n c, .slice (some ⟨w1.heap.size, 0, none⟩) 0 0]) (by simp [results, Try.results20, go_sem, u_0, u_1, u_2, u_3, u_4, u_5, u_6, u_7, u_8, u_9, u_10, u_11, ul]) rfl ?_
  have hlen : (newS wd ht).cells.length = n := by rw [← HN.out]; simp [newS, blanksL]
  have hfz : ∀ wz, Ch (fun k => k = w.heap.size) w1 wz → w1.heap.size < wz.heap.size → (∃ cur, wz.heap[w1.heap.size]? = some (.cells cur 9 (0, 0))) → ScrN (newS wd ht) w (.returned (.agg #[.int .i64 wd, .int .i64 ht, .int .i64 0, .int .i64 0, .int .i64 0, .int .i64 0, .int .i64 ((ht - 1 : Nat) : Int), .int .i64 0, .int .i64 0, .string ⟨#[]⟩, .slice a n c, .slice (some ⟨w1.heap.size, 0, none⟩) 0 0])) wz := fun wz hc hlt ⟨cur, hcur⟩ => by
    have hfb := FreshIn.blks HF.out
    refine ⟨a, c, some ⟨w1.heap.size, 0, none⟩, 0, by unfold scrV; rw [hlen]; rfl, ⟨?_, ?_, ?_⟩, ?_⟩
    · rw [hlen]
      have h5 := HF.out.ch hc (fun k hk e => by have := (hfb k hk).1; simp at this; omega)
      have h6 : (newS wd ht).cells = blanksL n := by rw [← HN.out]; rfl
      rw [h6]
      exact h5.mono (by simp) (Nat.le_refl _)
    · exact .inr ⟨w1.heap.size, 0, cur, rfl, by omega, hcur, Nat.zero_le _, by simp, Nat.zero_le _, by simp [newS]⟩
    · intro k hk hk2
      simp only [blkOf, List.mem_singleton] at hk
      have := (hfb k hk2).2
      omega
    · exact (((Below.refl w.heap.size w).alloc (Nat.le_refl _) _).trans (HB.out.mono (by simp))).trans (hc.below (by omega) (fun k h => by omega))
  refine hfz _ ?_ ?_ ?_
  · repeat (first | (with_reducible exact Ch.refl) | (with_reducible refine Ch.alloc ?_ _) | (with_reducible refine Ch.setB ?_ _ _))
  · simp [World.setCell]
  · have hx : ∀ X : World, X.heap.size = w1.heap.size → (X.alloc (.cells #[] 9)).heap[w1.heap.size]? = some (.cells #[] 9 (0, 0)) := fun X hX => by rw [← hX]; exact heap_alloc_new X _
    exact ⟨#[], hx _ (by simp [World.setCell])⟩
theorem Try.infoStr : (Try.prog.info? 9).map (fun i => (i.zero, i.size, i.bytes)) = some (some (.string ⟨#[]⟩), 1, 16) := by kernel_rfl
theorem strOne : ∀ x : ByteArray, ∀ u ∈ strE x, u.oneCell' = true := fun x u hu => by
  simp only [strE, List.mem_singleton] at hu
  subst hu
  rfl
theorem l04Own_c (s : Scr) (ac : Option Addr) (cc : Nat) (ah : Option Addr) (dh : Nat) (w : World) (h : ScrS s ac ah w) (hc : s.cells.length ≤ 240) (hh : s.hist.length ≤ 6) :
    Calls Try.prog 52 #[scrV s ac cc ah dh] w (ScrN s w) := by
  obtain ⟨iC, hC, hC0, hC1, hC2⟩ := info_parts Try.infoCell
  have hC := hC
  obtain ⟨iS, hS, hS0, hS1, hS2⟩ := info_parts Try.infoStr
  have hS := hS
  have HR := Lib.hid h
  obtain ⟨nc, hnc⟩ : ∃ n, s.cells.length = n := ⟨_, rfl⟩
  obtain ⟨nh, hnh⟩ : ∃ n, s.hist.length = n := ⟨_, rfl⟩
  have HNC := Lib.hid hnc
  have HNH := Lib.hid hnh
  unfold scrV
  rw [hnc] at hc ⊢
  rw [hnh] at hh ⊢
  clear h hnc hnh
  obtain ⟨W1, hW1⟩ : ∃ x, (w.alloc (.cells #[.int .i64 (s.w : Int), .int .i64 (s.h : Int), .int .i64 (s.x : Int), .int .i64 (s.y : Int), .int .i64 (s.look : Int), .int .i64 (s.top : Int), .int .i64 (s.bot : Int), .int .i64 (s.sx : Int), .int .i64 (s.sy : Int), .string s.title, .slice ac nc cc, .slice ah nh dh] 26)).alloc (.cells #[.int .i64 0, .int .i64 0, .int .i64 0, .int .i64 0, .int .i64 0, .int .i64 0, .int .i64 0, .int .i64 0, .int .i64 0, .string ⟨#[]⟩, .slice none 0 0, .slice none 0 0] 26) = x := ⟨_, rfl⟩
  have HB1 : Hid (Below w.heap.size w W1) := Lib.hid (by rw [← hW1]; exact ((Below.refl w.heap.size w).alloc (Nat.le_refl _) _).alloc (by simp) _)
  have hz1 : w.heap.size + 1 < W1.heap.size := by rw [← hW1]; simp
  go_enter Try.func52, Try.ntmps52
  go_upto_region 1 with fail
  have q_0 : W1.cell? ⟨w.heap.size, 0, none⟩ = some (.int .i64 (s.w : Int)) := by rw [← hW1]; simp [go_sem]
  have q_1 : W1.cell? ⟨w.heap.size, 1, none⟩ = some (.int .i64 (s.h : Int)) := by rw [← hW1]; simp [go_sem]
  have q_2 : W1.cell? ⟨w.heap.size, 2, none⟩ = some (.int .i64 (s.x : Int)) := by rw [← hW1]; simp [go_sem]
  have q_3 : W1.cell? ⟨w.heap.size, 3, none⟩ = some (.int .i64 (s.y : Int)) := by rw [← hW1]; simp [go_sem]
  have q_4 : W1.cell? ⟨w.heap.size, 4, none⟩ = some (.int .i64 (s.look : Int)) := by rw [← hW1]; simp [go_sem]
  have q_5 : W1.cell? ⟨w.heap.size, 5, none⟩ = some (.int .i64 (s.top : Int)) := by rw [← hW1]; simp [go_sem]
  have q_6 : W1.cell? ⟨w.heap.size, 6, none⟩ = some (.int .i64 (s.bot : Int)) := by rw [← hW1]; simp [go_sem]
  have q_7 : W1.cell? ⟨w.heap.size, 7, none⟩ = some (.int .i64 (s.sx : Int)) := by rw [← hW1]; simp [go_sem]
  have q_8 : W1.cell? ⟨w.heap.size, 8, none⟩ = some (.int .i64 (s.sy : Int)) := by rw [← hW1]; simp [go_sem]
  have q_9 : W1.cell? ⟨w.heap.size, 9, none⟩ = some (.string s.title) := by rw [← hW1]; simp [go_sem]
  have q_10 : W1.cell? ⟨w.heap.size, 10, none⟩ = some (.slice ac nc cc) := by rw [← hW1]; simp [go_sem]
  have q_11 : W1.cell? ⟨w.heap.size, 11, none⟩ = some (.slice ah nh dh) := by rw [← hW1]; simp [go_sem]
  have q_f : ∀ o, W1.frozen? ⟨w.heap.size, o, none⟩ = false := fun o => by rw [← hW1]; simp [go_sem]
  have r_0 : W1.cell? ⟨w.heap.size + 1, 0, none⟩ = some (.int .i64 0) := by rw [← hW1]; simp [go_sem]
  have r_1 : W1.cell? ⟨w.heap.size + 1, 1, none⟩ = some (.int .i64 0) := by rw [← hW1]; simp [go_sem]
  have r_2 : W1.cell? ⟨w.heap.size + 1, 2, none⟩ = some (.int .i64 0) := by rw [← hW1]; simp [go_sem]
  have r_3 : W1.cell? ⟨w.heap.size + 1, 3, none⟩ = some (.int .i64 0) := by rw [← hW1]; simp [go_sem]
  have r_4 : W1.cell? ⟨w.heap.size + 1, 4, none⟩ = some (.int .i64 0) := by rw [← hW1]; simp [go_sem]
  have r_5 : W1.cell? ⟨w.heap.size + 1, 5, none⟩ = some (.int .i64 0) := by rw [← hW1]; simp [go_sem]
  have r_6 : W1.cell? ⟨w.heap.size + 1, 6, none⟩ = some (.int .i64 0) := by rw [← hW1]; simp [go_sem]
  have r_7 : W1.cell? ⟨w.heap.size + 1, 7, none⟩ = some (.int .i64 0) := by rw [← hW1]; simp [go_sem]
  have r_8 : W1.cell? ⟨w.heap.size + 1, 8, none⟩ = some (.int .i64 0) := by rw [← hW1]; simp [go_sem]
  have r_9 : W1.cell? ⟨w.heap.size + 1, 9, none⟩ = some (.string ⟨#[]⟩) := by rw [← hW1]; simp [go_sem]
  have r_10 : W1.cell? ⟨w.heap.size + 1, 10, none⟩ = some (.slice none 0 0) := by rw [← hW1]; simp [go_sem]
  have r_11 : W1.cell? ⟨w.heap.size + 1, 11, none⟩ = some (.slice none 0 0) := by rw [← hW1]; simp [go_sem]
  have r_f : ∀ o, W1.frozen? ⟨w.heap.size + 1, o, none⟩ = false := fun o => by rw [← hW1]; simp [go_sem]
  clear hW1
  obtain ⟨W2, hW2⟩ : ∃ x, W1.alloc (.cells #[] 60) = x := ⟨_, rfl⟩
  have HB2 : Hid (Below W1.heap.size W1 W2) := Lib.hid (by rw [← hW2]; exact (Below.refl _ _).alloc (Nat.le_refl _) _)
  have hz2 : W1.heap.size < W2.heap.size := by rw [← hW2]; simp
  have HF2 : Hid (FreshIn celE 60 2 w.heap.size W2.heap.size (.slice (some ⟨W1.heap.size, 0, none⟩) 0 0) [] W2) := Lib.hid (by rw [← hW2]; exact FreshIn.emp celE _ 2 w.heap.size W1 (by omega))
  have HSRC : Hid (Src Try.prog 2 23 (.slice ac nc cc) s.cells.length (s.cells.flatMap celE) W2) := Lib.hid (by
    rw [← HNC.out]
    exact Src.ofSl (enc := celE) (sz := 2) Try.underlying23 (fun _ => rfl) celOne ((HR.out.below HB1.out).below HB2.out).cs _)
  have y_0 := kC HB2.out (by omega) q_0
  have y_1 := kC HB2.out (by omega) q_1
  have y_2 := kC HB2.out (by omega) q_2
  have y_3 := kC HB2.out (by omega) q_3
  have y_4 := kC HB2.out (by omega) q_4
  have y_5 := kC HB2.out (by omega) q_5
  have y_6 := kC HB2.out (by omega) q_6
  have y_7 := kC HB2.out (by omega) q_7
  have y_8 := kC HB2.out (by omega) q_8
  have y_9 := kC HB2.out (by omega) q_9
  have y_10 := kC HB2.out (by omega) q_10
  have y_11 := kC HB2.out (by omega) q_11
  have y_f : ∀ o, W2.frozen? ⟨w.heap.size, o, none⟩ = false := fun o => (HB2.out.frozen (p := ⟨w.heap.size, o, none⟩) (by show w.heap.size < _; omega)).trans (q_f o)
  have yl : w.heap.size < W2.heap.size := by omega
  clear q_0 q_1
  go_wp2_with (at_builtin; refine wpList_append_ch (.tmp 3) (.tmp 5) 23 23 w.heap.size 60 iC (.agg #[.int .i64 0, .int .i64 0]) 2 16 Try.underlying23 hC hC0 hC1 hC2 rfl (by decide) (some ⟨W1.heap.size, 0, none⟩) 0 0 [] HF2.out (.slice ac nc cc) s.cells HSRC.out (by have := HNC.out; simp; omega) (by omega) rfl rfl rfl rfl ?_)
  intro a8 c8 w8 us hus hf8 hc8 hk8
  obtain rfl : us = s.cells := by simpa using hus.out
  have HF8 := Lib.hid hf8
  have HK8 := Lib.hid hk8
  have hcb := hc8
  have hz8 := hc8.size
  have HB8 : Hid (Below w.heap.size w w8) := Lib.hid ((HB1.out.trans (HB2.out.mono (by omega))).trans (hc8.below (by omega) (fun k hk => by simp [blkOf] at hk; omega)))
  have z_0 : w8.cell? ⟨w.heap.size, 0, none⟩ = some (.int .i64 (s.w : Int)) := (hc8.cell (p := ⟨w.heap.size, 0, none⟩) (by show w.heap.size < _; omega) (by simp [blkOf]; omega)).trans y_0
  have z_1 : w8.cell? ⟨w.heap.size, 1, none⟩ = some (.int .i64 (s.h : Int)) := (hc8.cell (p := ⟨w.heap.size, 1, none⟩) (by show w.heap.size < _; omega) (by simp [blkOf]; omega)).trans y_1
  have z_2 : w8.cell? ⟨w.heap.size, 2, none⟩ = some (.int .i64 (s.x : Int)) := (hc8.cell (p := ⟨w.heap.size, 2, none⟩) (by show w.heap.size < _; omega) (by simp [blkOf]; omega)).trans y_2
  have z_3 : w8.cell? ⟨w.heap.size, 3, none⟩ = some (.int .i64 (s.y : Int)) := (hc8.cell (p := ⟨w.heap.size, 3, none⟩) (by show w.heap.size < _; omega) (by simp [blkOf]; omega)).trans y_3
  have z_4 : w8.cell? ⟨w.heap.size, 4, none⟩ = some (.int .i64 (s.look : Int)) := (hc8.cell (p := ⟨w.heap.size, 4, none⟩) (by show w.heap.size < _; omega) (by simp [blkOf]; omega)).trans y_4
  have z_5 : w8.cell? ⟨w.heap.size, 5, none⟩ = some (.int .i64 (s.top : Int)) := (hc8.cell (p := ⟨w.heap.size, 5, none⟩) (by show w.heap.size < _; omega) (by simp [blkOf]; omega)).trans y_5
  have z_6 : w8.cell? ⟨w.heap.size, 6, none⟩ = some (.int .i64 (s.bot : Int)) := (hc8.cell (p := ⟨w.heap.size, 6, none⟩) (by show w.heap.size < _; omega) (by simp [blkOf]; omega)).trans y_6
  have z_7 : w8.cell? ⟨w.heap.size, 7, none⟩ = some (.int .i64 (s.sx : Int)) := (hc8.cell (p := ⟨w.heap.size, 7, none⟩) (by show w.heap.size < _; omega) (by simp [blkOf]; omega)).trans y_7
  have z_8 : w8.cell? ⟨w.heap.size, 8, none⟩ = some (.int .i64 (s.sy : Int)) := (hc8.cell (p := ⟨w.heap.size, 8, none⟩) (by show w.heap.size < _; omega) (by simp [blkOf]; omega)).trans y_8
  have z_9 : w8.cell? ⟨w.heap.size, 9, none⟩ = some (.string s.title) := (hc8.cell (p := ⟨w.heap.size, 9, none⟩) (by show w.heap.size < _; omega) (by simp [blkOf]; omega)).trans y_9
  have z_10 : w8.cell? ⟨w.heap.size, 10, none⟩ = some (.slice ac nc cc) := (hc8.cell (p := ⟨w.heap.size, 10, none⟩) (by show w.heap.size < _; omega) (by simp [blkOf]; omega)).trans y_10
  have z_11 : w8.cell? ⟨w.heap.size, 11, none⟩ = some (.slice ah nh dh) := (hc8.cell (p := ⟨w.heap.size, 11, none⟩) (by show w.heap.size < _; omega) (by simp [blkOf]; omega)).trans y_11
  have z_f : ∀ o, w8.frozen? ⟨w.heap.size, o, none⟩ = false := fun o => (hc8.frozen (p := ⟨w.heap.size, o, none⟩) (by show w.heap.size < _; omega) (by simp [blkOf]; omega)).trans (y_f o)
  have x_0 : w8.cell? ⟨w.heap.size + 1, 0, none⟩ = some (.int .i64 0) := (hc8.cell (p := ⟨w.heap.size + 1, 0, none⟩) (by show w.heap.size + 1 < _; omega) (by simp [blkOf]; omega)).trans ((HB2.out.cell (p := ⟨w.heap.size + 1, 0, none⟩) (by show w.heap.size + 1 < _; omega)).trans r_0)
  have x_1 : w8.cell? ⟨w.heap.size + 1, 1, none⟩ = some (.int .i64 0) := (hc8.cell (p := ⟨w.heap.size + 1, 1, none⟩) (by show w.heap.size + 1 < _; omega) (by simp [blkOf]; omega)).trans ((HB2.out.cell (p := ⟨w.heap.size + 1, 1, none⟩) (by show w.heap.size + 1 < _; omega)).trans r_1)
  have x_2 : w8.cell? ⟨w.heap.size + 1, 2, none⟩ = some (.int .i64 0) := (hc8.cell (p := ⟨w.heap.size + 1, 2, none⟩) (by show w.heap.size + 1 < _; omega) (by simp [blkOf]; omega)).trans ((HB2.out.cell (p := ⟨w.heap.size + 1, 2, none⟩) (by show w.heap.size + 1 < _; omega)).trans r_2)
  have x_3 : w8.cell? ⟨w.heap.size + 1, 3, none⟩ = some (.int .i64 0) := (hc8.cell (p := ⟨w.heap.size + 1, 3, none⟩) (by show w.heap.size + 1 < _; omega) (by simp [blkOf]; omega)).trans ((HB2.out.cell (p := ⟨w.heap.size + 1, 3, none⟩) (by show w.heap.size + 1 < _; omega)).trans r_3)
  have x_4 : w8.cell? ⟨w.heap.size + 1, 4, none⟩ = some (.int .i64 0) := (hc8.cell (p := ⟨w.heap.size + 1, 4, none⟩) (by show w.heap.size + 1 < _; omega) (by simp [blkOf]; omega)).trans ((HB2.out.cell (p := ⟨w.heap.size + 1, 4, none⟩) (by show w.heap.size + 1 < _; omega)).trans r_4)
  have x_5 : w8.cell? ⟨w.heap.size + 1, 5, none⟩ = some (.int .i64 0) := (hc8.cell (p := ⟨w.heap.size + 1, 5, none⟩) (by show w.heap.size + 1 < _; omega) (by simp [blkOf]; omega)).trans ((HB2.out.cell (p := ⟨w.heap.size + 1, 5, none⟩) (by show w.heap.size + 1 < _; omega)).trans r_5)
  have x_6 : w8.cell? ⟨w.heap.size + 1, 6, none⟩ = some (.int .i64 0) := (hc8.cell (p := ⟨w.heap.size + 1, 6, none⟩) (by show w.heap.size + 1 < _; omega) (by simp [blkOf]; omega)).trans ((HB2.out.cell (p := ⟨w.heap.size + 1, 6, none⟩) (by show w.heap.size + 1 < _; omega)).trans r_6)
  have x_7 : w8.cell? ⟨w.heap.size + 1, 7, none⟩ = some (.int .i64 0) := (hc8.cell (p := ⟨w.heap.size + 1, 7, none⟩) (by show w.heap.size + 1 < _; omega) (by simp [blkOf]; omega)).trans ((HB2.out.cell (p := ⟨w.heap.size + 1, 7, none⟩) (by show w.heap.size + 1 < _; omega)).trans r_7)
  have x_8 : w8.cell? ⟨w.heap.size + 1, 8, none⟩ = some (.int .i64 0) := (hc8.cell (p := ⟨w.heap.size + 1, 8, none⟩) (by show w.heap.size + 1 < _; omega) (by simp [blkOf]; omega)).trans ((HB2.out.cell (p := ⟨w.heap.size + 1, 8, none⟩) (by show w.heap.size + 1 < _; omega)).trans r_8)
  have x_9 : w8.cell? ⟨w.heap.size + 1, 9, none⟩ = some (.string ⟨#[]⟩) := (hc8.cell (p := ⟨w.heap.size + 1, 9, none⟩) (by show w.heap.size + 1 < _; omega) (by simp [blkOf]; omega)).trans ((HB2.out.cell (p := ⟨w.heap.size + 1, 9, none⟩) (by show w.heap.size + 1 < _; omega)).trans r_9)
  have x_10 : w8.cell? ⟨w.heap.size + 1, 10, none⟩ = some (.slice none 0 0) := (hc8.cell (p := ⟨w.heap.size + 1, 10, none⟩) (by show w.heap.size + 1 < _; omega) (by simp [blkOf]; omega)).trans ((HB2.out.cell (p := ⟨w.heap.size + 1, 10, none⟩) (by show w.heap.size + 1 < _; omega)).trans r_10)
  have x_11 : w8.cell? ⟨w.heap.size + 1, 11, none⟩ = some (.slice none 0 0) := (hc8.cell (p := ⟨w.heap.size + 1, 11, none⟩) (by show w.heap.size + 1 < _; omega) (by simp [blkOf]; omega)).trans ((HB2.out.cell (p := ⟨w.heap.size + 1, 11, none⟩) (by show w.heap.size + 1 < _; omega)).trans r_11)
  have x_f : ∀ o, w8.frozen? ⟨w.heap.size + 1, o, none⟩ = false := fun o => (hc8.frozen (p := ⟨w.heap.size + 1, o, none⟩) (by show w.heap.size + 1 < _; omega) (by simp [blkOf]; omega)).trans ((HB2.out.frozen (p := ⟨w.heap.size + 1, o, none⟩) (by show w.heap.size + 1 < _; omega)).trans (r_f o))
  have zl : w.heap.size < w8.heap.size := by omega
  have xl : w.heap.size + 1 < w8.heap.size := by omega
  clear hus hf8 hc8 hk8 hcb y_0 y_1 y_2 y_3 y_4 y_5 y_6 y_7 y_8 y_9 y_10 y_11 y_f yl r_0 r_1 r_2 r_3 r_4 r_5 r_6 r_7 r_8 r_9 r_10 r_11 r_f
  go_upto_region 2 with fail
  obtain ⟨W3, hW3⟩ : ∃ x, w8.setCell ⟨w.heap.size, 10, none⟩ (.slice a8 s.cells.length c8) = x := ⟨_, rfl⟩
  have HC3 : Hid (Ch (fun k => k = w.heap.size) w8 W3) := Lib.hid (by rw [← hW3]; exact Ch.set1' _ _ _ _)
  have hz3 := HC3.out.size
  have nn : ¬ w.heap.size + 1 = w.heap.size := by omega
  have q_0 : W3.cell? ⟨w.heap.size, 0, none⟩ = some (.int .i64 (s.w : Int)) := by rw [← hW3]; simp [go_sem, z_0, zl]
  have q_1 : W3.cell? ⟨w.heap.size, 1, none⟩ = some (.int .i64 (s.h : Int)) := by rw [← hW3]; simp [go_sem, z_1, zl]
  have q_2 : W3.cell? ⟨w.heap.size, 2, none⟩ = some (.int .i64 (s.x : Int)) := by rw [← hW3]; simp [go_sem, z_2, zl]
  have q_3 : W3.cell? ⟨w.heap.size, 3, none⟩ = some (.int .i64 (s.y : Int)) := by rw [← hW3]; simp [go_sem, z_3, zl]
  have q_4 : W3.cell? ⟨w.heap.size, 4, none⟩ = some (.int .i64 (s.look : Int)) := by rw [← hW3]; simp [go_sem, z_4, zl]
  have q_5 : W3.cell? ⟨w.heap.size, 5, none⟩ = some (.int .i64 (s.top : Int)) := by rw [← hW3]; simp [go_sem, z_5, zl]
  have q_6 : W3.cell? ⟨w.heap.size, 6, none⟩ = some (.int .i64 (s.bot : Int)) := by rw [← hW3]; simp [go_sem, z_6, zl]
  have q_7 : W3.cell? ⟨w.heap.size, 7, none⟩ = some (.int .i64 (s.sx : Int)) := by rw [← hW3]; simp [go_sem, z_7, zl]
  have q_8 : W3.cell? ⟨w.heap.size, 8, none⟩ = some (.int .i64 (s.sy : Int)) := by rw [← hW3]; simp [go_sem, z_8, zl]
  have q_9 : W3.cell? ⟨w.heap.size, 9, none⟩ = some (.string s.title) := by rw [← hW3]; simp [go_sem, z_9, zl]
  have q_10 : W3.cell? ⟨w.heap.size, 10, none⟩ = some (.slice a8 s.cells.length c8) := by rw [← hW3]; simp [go_sem, z_10, zl]
  have q_11 : W3.cell? ⟨w.heap.size, 11, none⟩ = some (.slice ah nh dh) := by rw [← hW3]; simp [go_sem, z_11, zl]
  have q_f : ∀ o, W3.frozen? ⟨w.heap.size, o, none⟩ = false := fun o => by rw [← hW3]; simp [go_sem, z_f]
  have r_0 : W3.cell? ⟨w.heap.size + 1, 0, none⟩ = some (.int .i64 0) := (HC3.out.cell (p := ⟨w.heap.size + 1, 0, none⟩) (by show w.heap.size + 1 < _; omega) nn).trans x_0
  have r_1 : W3.cell? ⟨w.heap.size + 1, 1, none⟩ = some (.int .i64 0) := (HC3.out.cell (p := ⟨w.heap.size + 1, 1, none⟩) (by show w.heap.size + 1 < _; omega) nn).trans x_1
  have r_2 : W3.cell? ⟨w.heap.size + 1, 2, none⟩ = some (.int .i64 0) := (HC3.out.cell (p := ⟨w.heap.size + 1, 2, none⟩) (by show w.heap.size + 1 < _; omega) nn).trans x_2
  have r_3 : W3.cell? ⟨w.heap.size + 1, 3, none⟩ = some (.int .i64 0) := (HC3.out.cell (p := ⟨w.heap.size + 1, 3, none⟩) (by show w.heap.size + 1 < _; omega) nn).trans x_3
  have r_4 : W3.cell? ⟨w.heap.size + 1, 4, none⟩ = some (.int .i64 0) := (HC3.out.cell (p := ⟨w.heap.size + 1, 4, none⟩) (by show w.heap.size + 1 < _; omega) nn).trans x_4
  have r_5 : W3.cell? ⟨w.heap.size + 1, 5, none⟩ = some (.int .i64 0) := (HC3.out.cell (p := ⟨w.heap.size + 1, 5, none⟩) (by show w.heap.size + 1 < _; omega) nn).trans x_5
  have r_6 : W3.cell? ⟨w.heap.size + 1, 6, none⟩ = some (.int .i64 0) := (HC3.out.cell (p := ⟨w.heap.size + 1, 6, none⟩) (by show w.heap.size + 1 < _; omega) nn).trans x_6
  have r_7 : W3.cell? ⟨w.heap.size + 1, 7, none⟩ = some (.int .i64 0) := (HC3.out.cell (p := ⟨w.heap.size + 1, 7, none⟩) (by show w.heap.size + 1 < _; omega) nn).trans x_7
  have r_8 : W3.cell? ⟨w.heap.size + 1, 8, none⟩ = some (.int .i64 0) := (HC3.out.cell (p := ⟨w.heap.size + 1, 8, none⟩) (by show w.heap.size + 1 < _; omega) nn).trans x_8
  have r_9 : W3.cell? ⟨w.heap.size + 1, 9, none⟩ = some (.string ⟨#[]⟩) := (HC3.out.cell (p := ⟨w.heap.size + 1, 9, none⟩) (by show w.heap.size + 1 < _; omega) nn).trans x_9
  have r_10 : W3.cell? ⟨w.heap.size + 1, 10, none⟩ = some (.slice none 0 0) := (HC3.out.cell (p := ⟨w.heap.size + 1, 10, none⟩) (by show w.heap.size + 1 < _; omega) nn).trans x_10
  have r_11 : W3.cell? ⟨w.heap.size + 1, 11, none⟩ = some (.slice none 0 0) := (HC3.out.cell (p := ⟨w.heap.size + 1, 11, none⟩) (by show w.heap.size + 1 < _; omega) nn).trans x_11
  have r_f : ∀ o, W3.frozen? ⟨w.heap.size + 1, o, none⟩ = false := fun o => (HC3.out.frozen (p := ⟨w.heap.size + 1, o, none⟩) (by show w.heap.size + 1 < _; omega) nn).trans (x_f o)
  have HF3 : Hid (FreshIn celE 60 2 w.heap.size W3.heap.size (.slice a8 s.cells.length c8) s.cells W3 ∧ ∀ k ∈ blkOf a8, w.heap.size + 1 < k) := Lib.hid (by
    have hq : ∀ k ∈ blkOf a8, w.heap.size + 1 < k := fun k hk => by
      rcases HK8.out k hk with h | h
      · simp [blkOf] at h; omega
      · omega
    exact ⟨HF8.out.ch HC3.out (fun k hk e => by have := hq k hk; omega), hq⟩)
  have HB3 : Hid (Below w.heap.size w W3) := Lib.hid (HB8.out.trans (HC3.out.below (by omega) (fun k h => by omega)))
  rw [hW3]
  clear hW3 z_0 z_1 z_2 z_3 z_4 z_5 z_6 z_7 z_8 z_9 z_10 z_11 z_f zl x_0 x_1 x_2 x_3 x_4 x_5 x_6 x_7 x_8 x_9 x_10 x_11 x_f xl
  obtain ⟨W4, hW4⟩ : ∃ x, W3.alloc (.cells #[] 9) = x := ⟨_, rfl⟩
  have HB4 : Hid (Below W3.heap.size W3 W4) := Lib.hid (by rw [← hW4]; exact (Below.refl _ _).alloc (Nat.le_refl _) _)
  have hz4 : W3.heap.size < W4.heap.size := by rw [← hW4]; simp
  have HF4 : Hid (FreshIn strE 9 1 w.heap.size W4.heap.size (.slice (some ⟨W3.heap.size, 0, none⟩) 0 0) [] W4) := Lib.hid (by rw [← hW4]; exact FreshIn.emp strE _ 1 w.heap.size W3 (by omega))
  have HSRH : Hid (Src Try.prog 1 24 (.slice ah nh dh) s.hist.length (s.hist.flatMap strE) W4) := Lib.hid (by
    rw [← HNH.out]
    exact Src.ofSl (enc := strE) (sz := 1) Try.underlying24 (fun _ => rfl) strOne ((HR.out.hs.keep HB3.out).keep HB4.out) _)
  have y_0 := kC HB4.out (by omega) q_0
  have y_1 := kC HB4.out (by omega) q_1
  have y_2 := kC HB4.out (by omega) q_2
  have y_3 := kC HB4.out (by omega) q_3
  have y_4 := kC HB4.out (by omega) q_4
  have y_5 := kC HB4.out (by omega) q_5
  have y_6 := kC HB4.out (by omega) q_6
  have y_7 := kC HB4.out (by omega) q_7
  have y_8 := kC HB4.out (by omega) q_8
  have y_9 := kC HB4.out (by omega) q_9
  have y_10 := kC HB4.out (by omega) q_10
  have y_11 := kC HB4.out (by omega) q_11
  have y_f : ∀ o, W4.frozen? ⟨w.heap.size, o, none⟩ = false := fun o => (HB4.out.frozen (p := ⟨w.heap.size, o, none⟩) (by show w.heap.size < _; omega)).trans (q_f o)
  have yl : w.heap.size < W4.heap.size := by omega
  go_wp2_with (at_builtin; refine wpList_append_ch (.tmp 8) (.tmp 10) 24 24 w.heap.size 9 iS (.string ⟨#[]⟩) 1 16 Try.underlying24 hS hS0 hS1 hS2 rfl (by decide) (some ⟨W3.heap.size, 0, none⟩) 0 0 [] HF4.out (.slice ah nh dh) s.hist HSRH.out (by have := HNH.out; simp; omega) (by omega) rfl rfl rfl rfl ?_)
  intro a9 c9 w9 us hus hf9 hc9 hk9
  obtain rfl : us = s.hist := by simpa using hus.out
  have HF9 := Lib.hid hf9
  have HK9 := Lib.hid hk9
  have HC9 := Lib.hid hc9
  have hz9 := hc9.size
  have z_0 : w9.cell? ⟨w.heap.size, 0, none⟩ = some (.int .i64 (s.w : Int)) := (hc9.cell (p := ⟨w.heap.size, 0, none⟩) (by show w.heap.size < _; omega) (by simp [blkOf]; omega)).trans y_0
  have z_1 : w9.cell? ⟨w.heap.size, 1, none⟩ = some (.int .i64 (s.h : Int)) := (hc9.cell (p := ⟨w.heap.size, 1, none⟩) (by show w.heap.size < _; omega) (by simp [blkOf]; omega)).trans y_1
  have z_2 : w9.cell? ⟨w.heap.size, 2, none⟩ = some (.int .i64 (s.x : Int)) := (hc9.cell (p := ⟨w.heap.size, 2, none⟩) (by show w.heap.size < _; omega) (by simp [blkOf]; omega)).trans y_2
  have z_3 : w9.cell? ⟨w.heap.size, 3, none⟩ = some (.int .i64 (s.y : Int)) := (hc9.cell (p := ⟨w.heap.size, 3, none⟩) (by show w.heap.size < _; omega) (by simp [blkOf]; omega)).trans y_3
  have z_4 : w9.cell? ⟨w.heap.size, 4, none⟩ = some (.int .i64 (s.look : Int)) := (hc9.cell (p := ⟨w.heap.size, 4, none⟩) (by show w.heap.size < _; omega) (by simp [blkOf]; omega)).trans y_4
  have z_5 : w9.cell? ⟨w.heap.size, 5, none⟩ = some (.int .i64 (s.top : Int)) := (hc9.cell (p := ⟨w.heap.size, 5, none⟩) (by show w.heap.size < _; omega) (by simp [blkOf]; omega)).trans y_5
  have z_6 : w9.cell? ⟨w.heap.size, 6, none⟩ = some (.int .i64 (s.bot : Int)) := (hc9.cell (p := ⟨w.heap.size, 6, none⟩) (by show w.heap.size < _; omega) (by simp [blkOf]; omega)).trans y_6
  have z_7 : w9.cell? ⟨w.heap.size, 7, none⟩ = some (.int .i64 (s.sx : Int)) := (hc9.cell (p := ⟨w.heap.size, 7, none⟩) (by show w.heap.size < _; omega) (by simp [blkOf]; omega)).trans y_7
  have z_8 : w9.cell? ⟨w.heap.size, 8, none⟩ = some (.int .i64 (s.sy : Int)) := (hc9.cell (p := ⟨w.heap.size, 8, none⟩) (by show w.heap.size < _; omega) (by simp [blkOf]; omega)).trans y_8
  have z_9 : w9.cell? ⟨w.heap.size, 9, none⟩ = some (.string s.title) := (hc9.cell (p := ⟨w.heap.size, 9, none⟩) (by show w.heap.size < _; omega) (by simp [blkOf]; omega)).trans y_9
  have z_10 : w9.cell? ⟨w.heap.size, 10, none⟩ = some (.slice a8 s.cells.length c8) := (hc9.cell (p := ⟨w.heap.size, 10, none⟩) (by show w.heap.size < _; omega) (by simp [blkOf]; omega)).trans y_10
  have z_11 : w9.cell? ⟨w.heap.size, 11, none⟩ = some (.slice ah nh dh) := (hc9.cell (p := ⟨w.heap.size, 11, none⟩) (by show w.heap.size < _; omega) (by simp [blkOf]; omega)).trans y_11
  have z_f : ∀ o, w9.frozen? ⟨w.heap.size, o, none⟩ = false := fun o => (hc9.frozen (p := ⟨w.heap.size, o, none⟩) (by show w.heap.size < _; omega) (by simp [blkOf]; omega)).trans (y_f o)
  have x_0 : w9.cell? ⟨w.heap.size + 1, 0, none⟩ = some (.int .i64 0) := (hc9.cell (p := ⟨w.heap.size + 1, 0, none⟩) (by show w.heap.size + 1 < _; omega) (by simp [blkOf]; omega)).trans ((HB4.out.cell (p := ⟨w.heap.size + 1, 0, none⟩) (by show w.heap.size + 1 < _; omega)).trans r_0)
  have x_1 : w9.cell? ⟨w.heap.size + 1, 1, none⟩ = some (.int .i64 0) := (hc9.cell (p := ⟨w.heap.size + 1, 1, none⟩) (by show w.heap.size + 1 < _; omega) (by simp [blkOf]; omega)).trans ((HB4.out.cell (p := ⟨w.heap.size + 1, 1, none⟩) (by show w.heap.size + 1 < _; omega)).trans r_1)
  have x_2 : w9.cell? ⟨w.heap.size + 1, 2, none⟩ = some (.int .i64 0) := (hc9.cell (p := ⟨w.heap.size + 1, 2, none⟩) (by show w.heap.size + 1 < _; omega) (by simp [blkOf]; omega)).trans ((HB4.out.cell (p := ⟨w.heap.size + 1, 2, none⟩) (by show w.heap.size + 1 < _; omega)).trans r_2)
  have x_3 : w9.cell? ⟨w.heap.size + 1, 3, none⟩ = some (.int .i64 0) := (hc9.cell (p := ⟨w.heap.size + 1, 3, none⟩) (by show w.heap.size + 1 < _; omega) (by simp [blkOf]; omega)).trans ((HB4.out.cell (p := ⟨w.heap.size + 1, 3, none⟩) (by show w.heap.size + 1 < _; omega)).trans r_3)
  have x_4 : w9.cell? ⟨w.heap.size + 1, 4, none⟩ = some (.int .i64 0) := (hc9.cell (p := ⟨w.heap.size + 1, 4, none⟩) (by show w.heap.size + 1 < _; omega) (by simp [blkOf]; omega)).trans ((HB4.out.cell (p := ⟨w.heap.size + 1, 4, none⟩) (by show w.heap.size + 1 < _; omega)).trans r_4)
  have x_5 : w9.cell? ⟨w.heap.size + 1, 5, none⟩ = some (.int .i64 0) := (hc9.cell (p := ⟨w.heap.size + 1, 5, none⟩) (by show w.heap.size + 1 < _; omega) (by simp [blkOf]; omega)).trans ((HB4.out.cell (p := ⟨w.heap.size + 1, 5, none⟩) (by show w.heap.size + 1 < _; omega)).trans r_5)
  have x_6 : w9.cell? ⟨w.heap.size + 1, 6, none⟩ = some (.int .i64 0) := (hc9.cell (p := ⟨w.heap.size + 1, 6, none⟩) (by show w.heap.size + 1 < _; omega) (by simp [blkOf]; omega)).trans ((HB4.out.cell (p := ⟨w.heap.size + 1, 6, none⟩) (by show w.heap.size + 1 < _; omega)).trans r_6)
  have x_7 : w9.cell? ⟨w.heap.size + 1, 7, none⟩ = some (.int .i64 0) := (hc9.cell (p := ⟨w.heap.size + 1, 7, none⟩) (by show w.heap.size + 1 < _; omega) (by simp [blkOf]; omega)).trans ((HB4.out.cell (p := ⟨w.heap.size + 1, 7, none⟩) (by show w.heap.size + 1 < _; omega)).trans r_7)
  have x_8 : w9.cell? ⟨w.heap.size + 1, 8, none⟩ = some (.int .i64 0) := (hc9.cell (p := ⟨w.heap.size + 1, 8, none⟩) (by show w.heap.size + 1 < _; omega) (by simp [blkOf]; omega)).trans ((HB4.out.cell (p := ⟨w.heap.size + 1, 8, none⟩) (by show w.heap.size + 1 < _; omega)).trans r_8)
  have x_9 : w9.cell? ⟨w.heap.size + 1, 9, none⟩ = some (.string ⟨#[]⟩) := (hc9.cell (p := ⟨w.heap.size + 1, 9, none⟩) (by show w.heap.size + 1 < _; omega) (by simp [blkOf]; omega)).trans ((HB4.out.cell (p := ⟨w.heap.size + 1, 9, none⟩) (by show w.heap.size + 1 < _; omega)).trans r_9)
  have x_10 : w9.cell? ⟨w.heap.size + 1, 10, none⟩ = some (.slice none 0 0) := (hc9.cell (p := ⟨w.heap.size + 1, 10, none⟩) (by show w.heap.size + 1 < _; omega) (by simp [blkOf]; omega)).trans ((HB4.out.cell (p := ⟨w.heap.size + 1, 10, none⟩) (by show w.heap.size + 1 < _; omega)).trans r_10)
  have x_11 : w9.cell? ⟨w.heap.size + 1, 11, none⟩ = some (.slice none 0 0) := (hc9.cell (p := ⟨w.heap.size + 1, 11, none⟩) (by show w.heap.size + 1 < _; omega) (by simp [blkOf]; omega)).trans ((HB4.out.cell (p := ⟨w.heap.size + 1, 11, none⟩) (by show w.heap.size + 1 < _; omega)).trans r_11)
  have x_f : ∀ o, w9.frozen? ⟨w.heap.size + 1, o, none⟩ = false := fun o => (hc9.frozen (p := ⟨w.heap.size + 1, o, none⟩) (by show w.heap.size + 1 < _; omega) (by simp [blkOf]; omega)).trans ((HB4.out.frozen (p := ⟨w.heap.size + 1, o, none⟩) (by show w.heap.size + 1 < _; omega)).trans (r_f o))
  have zl : w.heap.size < w9.heap.size := by omega
  have xl : w.heap.size + 1 < w9.heap.size := by omega
  clear hus hf9 hc9 hk9 y_0 y_1 y_2 y_3 y_4 y_5 y_6 y_7 y_8 y_9 y_10 y_11 y_f yl r_0 r_1 r_2 r_3 r_4 r_5 r_6 r_7 r_8 r_9 r_10 r_11 r_f q_0 q_1 q_2 q_3 q_4 q_5 q_6 q_7 q_8 q_9 q_10 q_11 q_f hW4
  go_wp2_with fail
  refine bodyPost_ret (v := scrV s a8 c8 a9 c9) (by simp [results, Try.results52, scrV, go_sem, z_0, z_1, z_2, z_3, z_4, z_5, z_6, z_7, z_8, z_9, z_10, z_11, x_0, x_1, x_2, x_3, x_4, x_5, x_6, x_7, x_8, x_9, x_10, x_11, zl, xl, nn]) rfl ?_
  have hfin : ∀ wz, Ch (fun k => k = w.heap.size ∨ k = w.heap.size + 1) w9 wz → ScrN s w (.returned (scrV s a8 c8 a9 c9)) wz := fun wz hc => by
    have h9 : ∀ k ∈ blkOf a9, W3.heap.size ≤ k := fun k hk => by
      rcases HK9.out k hk with h | h
      · simp [blkOf] at h; omega
      · omega
    have f8 := (HF3.out.1.keepB HB4.out).ch HC9.out (fun k hk e => by
      have := (FreshIn.blks HF3.out.1 k hk).2
      simp [blkOf] at e
      omega)
    refine ⟨a8, c8, a9, c9, rfl, ⟨f8.ch hc (fun k hk e => by have := HF3.out.2 k hk; omega), (FreshIn.win HF9.out).ch hc (fun k hk e => by have := h9 k hk; omega), fun k hk hk2 => ?_⟩, ?_⟩
    · have h1 := h9 k hk
      have h2 := (FreshIn.blks HF3.out.1 k hk2).2
      omega
    · exact ((HB3.out.trans (HB4.out.mono (by omega))).trans (HC9.out.below (by omega) (fun k hk => by simp [blkOf] at hk; omega))).trans (hc.below (by omega) (fun k h => by omega))
  refine hfin _ ?_
  repeat (first | (with_reducible exact Ch.refl) | (with_reducible refine Ch.alloc ?_ _) | (with_reducible refine Ch.setCell ?_ (Or.inl (Or.inl rfl)) _) | (with_reducible refine Ch.setCell ?_ (Or.inl (Or.inr rfl)) _))
end
section
open Go.RowKit
structure ScrI where
  w : Int
  h : Int
  x : Int
  y : Int
  look : Int
  top : Int
  bot : Int
  sx : Int
  sy : Int
  title : ByteArray
  cells : List Cl
  hist : List ByteArray
def Scr.i (s : Scr) : ScrI := ⟨s.w, s.h, s.x, s.y, s.look, s.top, s.bot, s.sx, s.sy, s.title, s.cells, s.hist⟩
def scrH (s : ScrI) : Bool := (inB s.w 2 24 && inB s.h 2 10) && inB s.x 0 s.w && inB s.y 0 (s.h - 1) && inB s.look 0 127 && inB s.top 0 (s.h - 2) && inB s.bot (s.top + 1) (s.h - 1) && inB s.sx 0 s.w && inB s.sy 0 (s.h - 1) && decide (s.title.size ≤ 40) && decide ((s.cells.length : Int) = s.w * s.h) && decide (s.hist.length ≤ 6)
def celB (c : Cl) : Bool := inB c.1 0 1114111 && !inB c.1 55296 57343 && decide (32 ≤ c.1) && !(c.1 == 127) && inB c.2 0 127
def tiB (l : List UInt8) : Bool := l.all fun b => decide (32 ≤ b.toNat) && decide (b.toNat ≤ 126)
def scrB (s : ScrI) : Bool := scrH s && tiB s.title.data.toList && s.cells.all celB && s.hist.all fun t => decide (t.size ≤ 96)
def scrVI (s : ScrI) (ac : Option Addr) (cc : Nat) (ah : Option Addr) (dh : Nat) : Value := .agg #[.int .i64 s.w, .int .i64 s.h, .int .i64 s.x, .int .i64 s.y, .int .i64 s.look, .int .i64 s.top, .int .i64 s.bot, .int .i64 s.sx, .int .i64 s.sy, .string s.title, .slice ac s.cells.length cc, .slice ah s.hist.length dh]
theorem l03RuneOK_c (n : Int) (W : World) : Calls Try.prog 61 #[.int .i64 n] W fun e w' => e = .returned (.bool (inB n 0 1114111 && !inB n 55296 57343)) ∧ W = w' := by
  obtain ⟨u, hu⟩ : ∃ u, inB n 0 1114111 = u := ⟨_, rfl⟩
  obtain ⟨v, hv⟩ : ∃ v, inB n 55296 57343 = v := ⟨_, rfl⟩
  have HU := Lib.hid hu
  have HV := Lib.hid hv
  rw [hu, hv]
  clear hu hv
  cases u <;> cases v
  all_goals
    go_enter Try.func61, Try.ntmps61
    go_wp2_with (go_at_call 36; refine (l01In_c _ _ _ _).mono ?_; (first | rw [HU.out] | rw [HV.out]); rintro e w' ⟨rfl, rfl⟩)
    all_goals
      go_ret
      exact ⟨rfl, rfl⟩
theorem l04Cell_c (c : Cl) (W : World) : Calls Try.prog 37 #[.agg #[.int .i64 c.1, .int .i64 c.2]] W fun e w' => e = .returned (.bool (celB c)) ∧ Below W.heap.size W w' := by
  obtain ⟨n, k⟩ := c
  obtain ⟨u, hu⟩ : ∃ u, (inB n 0 1114111 && !inB n 55296 57343) = u := ⟨_, rfl⟩
  obtain ⟨v, hv⟩ : ∃ v, inB k 0 127 = v := ⟨_, rfl⟩
  have HU := Lib.hid hu
  have HV := Lib.hid hv
  have hB : celB (n, k) = (u && decide (32 ≤ n) && !(n == 127) && v) := by unfold celB; rw [hu, hv]
  rw [hB]
  clear hB hu hv
  by_cases h32 : 32 ≤ n
  · have q32 : decide (32 ≤ n) = true := decide_eq_true h32
    cases h127 : (n == 127) <;> cases u <;> cases v
    all_goals
      have q127 : (n != 127) = !(n == 127) := rfl
      rw [h127] at q127
      go_enter Try.func37, Try.ntmps37
      go_wp2_with (first | (go_at_call 61; refine (l03RuneOK_c _ _).mono ?_; rw [HU.out]; rintro e w' ⟨rfl, rfl⟩) | (go_at_call 36; refine (l01In_c _ _ _ _).mono ?_; rw [HV.out]; rintro e w' ⟨rfl, rfl⟩))
      all_goals
        go_ret
        exact ⟨by simp [h32], (Below.refl _ _).alloc (Nat.le_refl _) _⟩
  · have q32 : decide (32 ≤ n) = false := decide_eq_false h32
    cases u
    all_goals
      go_enter Try.func37, Try.ntmps37
      go_wp2_with (first | (go_at_call 61; refine (l03RuneOK_c _ _).mono ?_; rw [HU.out]; rintro e w' ⟨rfl, rfl⟩) | (go_at_call 36; refine (l01In_c _ _ _ _).mono ?_; rw [HV.out]; rintro e w' ⟨rfl, rfl⟩))
      all_goals
        go_ret
        exact ⟨by rw [q32]; simp, (Below.refl _ _).alloc (Nat.le_refl _) _⟩
end
section
open Go.RowKit
def cel4 (c : Cl) : List UInt8 := be c.1.toNat 3 ++ [UInt8.ofNat c.2.toNat]
def celL (l : List Cl) : List UInt8 := l.flatMap cel4
def nineL (s : ScrI) : List Int := [s.w, s.h, s.x, s.y, s.look, s.top, s.bot, s.sx, s.sy]
def rowI (s : ScrI) (y : Nat) : List Cl := (s.cells.drop (y * s.w.toNat)).take s.w.toNat
def rowsL (s : ScrI) (n : Nat) : List ByteArray := (List.range n).map fun y => strOf (celL (rowI s y))
def scrFs (s : ScrI) : List ByteArray := strOf (numL (nineL s)) :: s.title :: strOf (fldL s.hist) :: rowsL s s.h.toNat
def scrText (s : ScrI) : List UInt8 := fldL (scrFs s)
def ScrIs (l : List UInt8) (s : ScrI) : Prop := scrB s = true ∧ scrText s = l
def chunkC : Nat → List UInt8 → List Cl
  | 0, _ => []
  | n + 1, l => ((bn (l.take 3) : Int), ((l.getD 3 0).toNat : Int)) :: chunkC n (l.drop 4)
theorem getD_at {l : List UInt8} {k : Nat} (h : k < l.length) : l.getD k 0 = l[k] := by rw [List.getD_eq_getElem?_getD, List.getElem?_eq_getElem h]; rfl
theorem cel4_length (c : Cl) : (cel4 c).length = 4 := by simp [cel4, be_length]
theorem celL_cons (c : Cl) (l : List Cl) : celL (c :: l) = cel4 c ++ celL l := rfl
theorem celL_length : ∀ l : List Cl, (celL l).length = 4 * l.length
  | [] => rfl
  | c :: l => by rw [celL_cons, List.length_append, cel4_length, celL_length l, List.length_cons]; omega
theorem chunkC_length : ∀ (n : Nat) (l : List UInt8), (chunkC n l).length = n
  | 0, _ => rfl
  | n + 1, l => by rw [chunkC, List.length_cons, chunkC_length n]
theorem chunkC_celL : ∀ l : List Cl, (∀ c ∈ l, 0 ≤ c.1 ∧ c.1 < 16777216 ∧ 0 ≤ c.2 ∧ c.2 < 256) → chunkC l.length (celL l) = l
  | [], _ => rfl
  | c :: l, h => by
    have hc := h c (by simp)
    have ih := chunkC_celL l (fun y hy => h y (by simp [hy]))
    obtain ⟨n, k⟩ := c
    simp only at hc
    rw [List.length_cons, celL_cons]
    show ((bn ((cel4 (n, k) ++ celL l).take 3) : Int), (((cel4 (n, k) ++ celL l).getD 3 0).toNat : Int)) :: chunkC l.length ((cel4 (n, k) ++ celL l).drop 4) = _
    have e1 : (cel4 (n, k) ++ celL l).take 3 = be n.toNat 3 := by
      rw [cel4, List.append_assoc, List.take_append_of_le_length (by rw [be_length]; exact Nat.le_refl _), List.take_of_length_le (by rw [be_length]; exact Nat.le_refl _)]
    have e2 : (cel4 (n, k) ++ celL l).drop 4 = celL l := by
      rw [List.drop_append_of_le_length (by rw [cel4_length]; exact Nat.le_refl _), List.drop_of_length_le (by rw [cel4_length]; exact Nat.le_refl _), List.nil_append]
    have e3 : (cel4 (n, k) ++ celL l).getD 3 0 = UInt8.ofNat k.toNat := by
      rw [cel4, be_three]
      rfl
    rw [e1, e2, e3, ih, bn_be3 _ (by omega), UInt8.toNat_ofNat']
    congr 2 <;> omega
theorem celL_chunkC : ∀ (n : Nat) (l : List UInt8), l.length = 4 * n → celL (chunkC n l) = l
  | 0, l, h => by
    have : l = [] := List.length_eq_zero_iff.1 (by omega)
    subst this
    rfl
  | n + 1, l, h => by
    have ih := celL_chunkC n (l.drop 4) (by rw [List.length_drop]; omega)
    rw [chunkC, celL_cons, ih, cel4]
    have e1 : be ((bn (l.take 3) : Int)).toNat 3 = l.take 3 := by rw [Int.toNat_natCast, be_bn_three (by rw [List.length_take]; omega)]
    have e2 : [UInt8.ofNat ((((l.getD 3 0).toNat : Int)).toNat)] = (l.drop 3).take 1 := by
      rw [Int.toNat_natCast, UInt8.ofNat_toNat]
      rw [getD_at (by omega), List.drop_eq_getElem_cons (by omega : 3 < l.length)]
      rfl
    rw [e1, e2, ← List.take_add, List.take_append_drop]
theorem rows_flat (w : Nat) (l : List Cl) : ∀ h, (List.range h).flatMap (fun y => (l.drop (y * w)).take w) = l.take (h * w)
  | 0 => by simp
  | h + 1 => by
    rw [List.range_succ, List.flatMap_append, rows_flat w l h, Nat.succ_mul, List.take_add]
    simp
theorem inB_iff {x a b : Int} : inB x a b = true ↔ a ≤ x ∧ x ≤ b := by unfold inB; simp
theorem celB_iff (c : Cl) : celB c = true → 0 ≤ c.1 ∧ c.1 < 16777216 ∧ 0 ≤ c.2 ∧ c.2 < 256 := by
  intro h
  unfold celB at h
  simp only [Bool.and_eq_true, inB_iff] at h
  omega
structure ScrBs (s : ScrI) : Prop where
  w1 : 2 ≤ s.w
  w2 : s.w ≤ 24
  h1 : 2 ≤ s.h
  h2 : s.h ≤ 10
  x1 : 0 ≤ s.x
  x2 : s.x ≤ s.w
  y1 : 0 ≤ s.y
  y2 : s.y ≤ s.h - 1
  l1 : 0 ≤ s.look
  l2 : s.look ≤ 127
  t1 : 0 ≤ s.top
  t2 : s.top ≤ s.h - 2
  b1 : s.top + 1 ≤ s.bot
  b2 : s.bot ≤ s.h - 1
  sx1 : 0 ≤ s.sx
  sx2 : s.sx ≤ s.w
  sy1 : 0 ≤ s.sy
  sy2 : s.sy ≤ s.h - 1
  ti : s.title.size ≤ 40
  tt : tiB s.title.data.toList = true
  cn : (s.cells.length : Int) = s.w * s.h
  cs : ∀ c ∈ s.cells, celB c = true
  hn : s.hist.length ≤ 6
  hs : ∀ t ∈ s.hist, t.size ≤ 96
theorem scrB_iff (s : ScrI) : scrB s = true ↔ ScrBs s := by
  unfold scrB scrH
  simp only [Bool.and_eq_true, inB_iff, decide_eq_true_eq, List.all_eq_true]
  constructor
  · rintro ⟨⟨⟨⟨⟨⟨⟨⟨⟨⟨⟨⟨⟨⟨⟨a1, a2⟩, b1, b2⟩, c1, c2⟩, d1, d2⟩, e1, e2⟩, f1, f2⟩, g1, g2⟩, h1, h2⟩, i1, i2⟩, j⟩, k⟩, l⟩, m⟩, n⟩, o⟩
    exact ⟨a1, a2, b1, b2, c1, c2, d1, d2, e1, e2, f1, f2, g1, g2, h1, h2, i1, i2, j, m, k, n, l, o⟩
  · rintro ⟨a1, a2, b1, b2, c1, c2, d1, d2, e1, e2, f1, f2, g1, g2, h1, h2, i1, i2, j, m, k, n, l, o⟩
    exact ⟨⟨⟨⟨⟨⟨⟨⟨⟨⟨⟨⟨⟨⟨⟨a1, a2⟩, b1, b2⟩, c1, c2⟩, d1, d2⟩, e1, e2⟩, f1, f2⟩, g1, g2⟩, h1, h2⟩, i1, i2⟩, j⟩, k⟩, l⟩, m⟩, n⟩, o⟩
end
section
open Go.RowKit
variable {l : List UInt8} {s : ScrI}
theorem ScrBs.len (h : ScrBs s) : s.cells.length = s.h.toNat * s.w.toNat := by
  obtain ⟨a, ha⟩ : ∃ a : Nat, s.w = (a : Int) := ⟨s.w.toNat, by have := h.w1; omega⟩
  obtain ⟨b, hb⟩ : ∃ b : Nat, s.h = (b : Int) := ⟨s.h.toNat, by have := h.h1; omega⟩
  have e := h.cn
  rw [ha, hb] at e
  rw [ha, hb, Int.toNat_natCast, Int.toNat_natCast, Nat.mul_comm]
  exact_mod_cast e
theorem ScrBs.rowLen (h : ScrBs s) {y : Nat} (hy : y < s.h.toNat) : (rowI s y).length = s.w.toNat := by
  have e := h.len
  have h1 : (y + 1) * s.w.toNat ≤ s.h.toNat * s.w.toNat := Nat.mul_le_mul_right _ hy
  rw [Nat.succ_mul] at h1
  rw [rowI, List.length_take, List.length_drop]
  omega
theorem ScrBs.rowCs (h : ScrBs s) (y : Nat) : ∀ c ∈ rowI s y, 0 ≤ c.1 ∧ c.1 < 16777216 ∧ 0 ≤ c.2 ∧ c.2 < 256 := fun c hc =>
  celB_iff c (h.cs c (List.mem_of_mem_drop (List.mem_of_mem_take hc)))
theorem ScrBs.row4 (h : ScrBs s) {y : Nat} (hy : y < s.h.toNat) : (strOf (celL (rowI s y))).size = 4 * s.w.toNat := by
  rw [strOf_size, celL_length, h.rowLen hy]
theorem rowsL_length (s : ScrI) (n : Nat) : (rowsL s n).length = n := by simp [rowsL]
theorem ScrBs.rows (h : ScrBs s) : ∀ r ∈ rowsL s s.h.toNat, r.size = 4 * s.w.toNat := by
  intro r hr
  obtain ⟨y, hy, rfl⟩ := List.mem_map.1 hr
  exact h.row4 (List.mem_range.1 hy)
theorem ScrBs.nine (h : ScrBs s) : ∀ x ∈ nineL s, -1 ≤ x ∧ x < 16777215 := by
  intro x hx
  obtain ⟨a1, a2, b1, b2, c1, c2, d1, d2, e1, e2, f1, f2, g1, g2, h1, h2, i1, i2, j, m, k, n, l, o⟩ := h
  simp only [nineL, List.mem_cons, List.not_mem_nil, or_false] at hx
  omega
theorem ScrBs.histLen (h : ScrBs s) : (fldL s.hist).length ≤ 589 := by
  have h1 := fldB_le s.hist 96 h.hs
  have h2 := h.hn
  simp only [fldL, List.length_cons]
  omega
theorem ScrBs.fs (h : ScrBs s) : ∀ r ∈ scrFs s, r.size ≤ 600 := by
  intro r hr
  have h1 := h.histLen
  have h2 := h.ti
  have h3 := h.w2
  simp only [scrFs, List.mem_cons] at hr
  rcases hr with rfl | rfl | rfl | hr
  · rw [strOf_size, numL_length]
    simp [nineL]
  · omega
  · rw [strOf_size]
    omega
  · have := h.rows r hr
    omega
theorem scrFs_length (s : ScrI) : (scrFs s).length = 3 + s.h.toNat := by simp [scrFs, rowsL_length]; omega
theorem ScrBs.text (h : ScrBs s) : (scrText s).length ≤ 8000 := by
  have h1 := fldB_le (scrFs s) 600 h.fs
  rw [scrFs_length] at h1
  have h2 := h.h2
  simp only [scrText, fldL, List.length_cons]
  have h3 : (3 + s.h.toNat) * (2 + 600) ≤ 13 * (2 + 600) := Nat.mul_le_mul_right _ (by omega)
  omega
theorem ScrIs.bs (h : ScrIs l s) : ScrBs s := (scrB_iff s).1 h.1
theorem ScrIs.len (h : ScrIs l s) : l.length ≤ 8000 := by rw [← h.2]; exact h.bs.text
theorem ScrIs.read (h : ScrIs l s) : rdAll l = some (scrFs s) := by
  rw [← h.2]
  have hh := h.bs.h2
  exact rdAll_fldL _ (fun r hr => by have := h.bs.fs r hr; omega) (by rw [scrFs_length]; omega)
theorem ScrIs.nums (h : ScrIs l s) : rnF 9 (numL (nineL s)) = nineL s := rnF_numL (nineL s) h.bs.nine
theorem ScrIs.hist (h : ScrIs l s) : rdAll (fldL s.hist) = some s.hist :=
  rdAll_fldL _ (fun r hr => by have := h.bs.hs r hr; omega) (by have := h.bs.hn; omega)
def rowsC (w : Nat) (rows : List ByteArray) : List Cl := rows.flatMap fun r => chunkC w r.data.toList
theorem rowsC_snoc (w : Nat) (rows : List ByteArray) (k : Nat) (hk : k < rows.length) : rowsC w (rows.take (k + 1)) = rowsC w (rows.take k) ++ chunkC w rows[k].data.toList := by
  unfold rowsC
  rw [List.take_succ_eq_append_getElem hk, List.flatMap_append]
  simp only [List.flatMap_cons, List.flatMap_nil, List.append_nil]
theorem rowsC_row (w : Nat) : ∀ (rows : List ByteArray) (y : Nat) (hy : y < rows.length), ((rowsC w rows).drop (y * w)).take w = chunkC w rows[y].data.toList
  | r :: rows, 0, _ => by
    show ((chunkC w r.data.toList ++ rowsC w rows).drop (0 * w)).take w = _
    rw [Nat.zero_mul, List.drop_zero, List.take_append_of_le_length (by rw [chunkC_length]; exact Nat.le_refl _), List.take_of_length_le (by rw [chunkC_length]; exact Nat.le_refl _)]
    rfl
  | r :: rows, y + 1, h => by
    show ((chunkC w r.data.toList ++ rowsC w rows).drop ((y + 1) * w)).take w = _
    have ih := rowsC_row w rows y (by simpa using h)
    rw [Nat.succ_mul, Nat.add_comm, ← List.drop_drop]
    have e : (chunkC w r.data.toList ++ rowsC w rows).drop w = rowsC w rows := by
      rw [List.drop_append_of_le_length (by rw [chunkC_length]; exact Nat.le_refl _), List.drop_of_length_le (by rw [chunkC_length]; exact Nat.le_refl _), List.nil_append]
    rw [e, ih]
    rfl
theorem scr_from {a t hh : ByteArray} {rows hs : List ByteArray} (hr : rdAll l = some (a :: t :: hh :: rows)) (ha : a.data.toList.length = 27)
    (hn : rnF 9 a.data.toList = nineL s) (ht : s.title = t) (hhs : rdAll hh.data.toList = some s.hist) (hl : rows.length = s.h.toNat)
    (hw : ∀ r ∈ rows, r.data.toList.length = 4 * s.w.toNat) (hc : s.cells = rowsC s.w.toNat rows) : scrText s = l := by
  obtain ⟨k1, _, _⟩ := rdAll_canon hr
  obtain ⟨k2, _, _⟩ := rdAll_canon hhs
  have k3 := numL_rnF 9 a.data.toList ha
  have ea : strOf (numL (nineL s)) = a := by rw [← hn, k3]; exact strOf_data a
  have eh : strOf (fldL s.hist) = hh := by rw [← k2]; exact strOf_data hh
  have er : rowsL s s.h.toNat = rows := by
    refine List.ext_getElem (by rw [rowsL_length, hl]) ?_
    intro y h1 h2
    have e1 : rowI s y = chunkC s.w.toNat rows[y].data.toList := by
      rw [rowI, hc]
      exact rowsC_row _ rows y h2
    simp only [rowsL, List.getElem_map, List.getElem_range]
    rw [e1, celL_chunkC _ _ (hw _ (List.getElem_mem h2))]
    exact strOf_data _
  rw [scrText, scrFs, ea, ht, eh, er]
  exact k1.symm
theorem ScrIs.cells (h : ScrIs l s) : s.cells = rowsC s.w.toNat (rowsL s s.h.toNat) := by
  have e := rows_flat s.w.toNat s.cells s.h.toNat
  rw [List.take_of_length_le (by rw [h.bs.len]; exact Nat.le_refl _)] at e
  rw [rowsC, rowsL, List.flatMap_map]
  refine e.symm.trans ?_
  rw [List.flatMap_def, List.flatMap_def]
  refine congrArg List.flatten (List.map_congr_left ?_)
  intro y hy
  have hy' := List.mem_range.1 hy
  show rowI s y = chunkC s.w.toNat (strOf (celL (rowI s y))).data.toList
  have := chunkC_celL (rowI s y) (h.bs.rowCs y)
  rw [h.bs.rowLen hy'] at this
  rw [strOf_data', this]
end
section
open Go.RowKit
theorem celB_ok (c : Cl) : celB c = true ↔ celOK c := by
  unfold celB celOK rnOK
  simp only [Bool.and_eq_true, inB_iff, decide_eq_true_eq, Bool.not_eq_true', beq_eq_false_iff_ne, ne_eq]
  have h : inB c.1 55296 57343 = false ↔ ¬ (55296 ≤ c.1 ∧ c.1 ≤ 57343) := by rw [← Bool.not_eq_true, inB_iff]
  rw [h]
  omega
theorem titB_iff {t : ByteArray} : titB t = true ↔ t.size ≤ 40 ∧ tiB t.data.toList = true := by
  unfold titB tiB
  simp only [Bool.and_eq_true, decide_eq_true_eq]
theorem ScrOK.b {s : Scr} (h : ScrOK s) : scrB s.i = true := by
  obtain ⟨w1, w2, h1, h2, hx, hy, lk, tb, bh, hsx, hsy, ti, cn, cs, hn, hs⟩ := h
  obtain ⟨t1, t2⟩ := titB_iff.1 ti
  refine (scrB_iff _).2 ⟨?_, ?_, ?_, ?_, ?_, ?_, ?_, ?_, ?_, ?_, ?_, ?_, ?_, ?_, ?_, ?_, ?_, ?_, t1, t2, ?_, fun c hc => (celB_ok c).2 (cs c hc), hn, hs⟩
  all_goals simp only [Scr.i]
  all_goals first
    | omega
    | (rw [cn]; exact Int.natCast_mul _ _)
def ScrI.n (s : ScrI) : Scr := ⟨s.w.toNat, s.h.toNat, s.x.toNat, s.y.toNat, s.look.toNat, s.top.toNat, s.bot.toNat, s.sx.toNat, s.sy.toNat, s.title, s.cells, s.hist⟩
theorem ScrI.n_i {s : ScrI} (h : scrB s = true) : s.n.i = s := by
  obtain ⟨a1, a2, b1, b2, c1, c2, d1, d2, e1, e2, f1, f2, g1, g2, h1, h2, i1, i2, j, m, k, n, l, o⟩ := (scrB_iff s).1 h
  obtain ⟨w, hh, x, y, look, top, bot, sx, sy, ti, ce, hi⟩ := s
  simp only at *
  simp only [ScrI.n, Scr.i, ScrI.mk.injEq, and_true, true_and]
  omega
theorem ScrI.ok {s : ScrI} (h : scrB s = true) : ScrOK s.n := by
  have hl := ((scrB_iff s).1 h).len
  obtain ⟨a1, a2, b1, b2, c1, c2, d1, d2, e1, e2, f1, f2, g1, g2, h1, h2, i1, i2, j, m, k, n, l, o⟩ := (scrB_iff s).1 h
  refine ⟨?_, ?_, ?_, ?_, ?_, ?_, ?_, ?_, ?_, ?_, ?_, titB_iff.2 ⟨j, m⟩, ?_, fun c hc => (celB_ok c).1 (n c hc), l, o⟩
  all_goals simp only [ScrI.n]
  all_goals first
    | omega
    | (rw [hl, Nat.mul_comm])
end
section
open Go.RowKit
theorem rnF_nine (l : List UInt8) : rnF 9 l = [nAt l 0, nAt l 1, nAt l 2, nAt l 3, nAt l 4, nAt l 5, nAt l 6, nAt l 7, nAt l 8] := by
  simp [rnF, nAt, List.drop_drop]
def rdS (a t : ByteArray) (cs : List Cl) (hs : List ByteArray) : ScrI :=
  ⟨nAt a.data.toList 0, nAt a.data.toList 1, nAt a.data.toList 2, nAt a.data.toList 3, nAt a.data.toList 4, nAt a.data.toList 5, nAt a.data.toList 6, nAt a.data.toList 7, nAt a.data.toList 8, t, cs, hs⟩
theorem rdS_nine (a t : ByteArray) (cs : List Cl) (hs : List ByteArray) : nineL (rdS a t cs hs) = rnF 9 a.data.toList := by rw [rnF_nine]; rfl
def impR (r : ByteArray) : List Cl := chunkC (r.size / 4) r.data.toList
def impCs (rows : List ByteArray) : List Cl := rows.flatMap impR
theorem impCs_snoc (rows : List ByteArray) (k : Nat) (hk : k < rows.length) : impCs (rows.take (k + 1)) = impCs (rows.take k) ++ impR rows[k] := by
  unfold impCs
  rw [List.take_succ_eq_append_getElem hk, List.flatMap_append]
  simp only [List.flatMap_cons, List.flatMap_nil, List.append_nil]
theorem impR_length (r : ByteArray) : (impR r).length = r.size / 4 := chunkC_length _ _
theorem impCs_le : ∀ (rows : List ByteArray), (∀ r ∈ rows, r.size ≤ 20000) → (impCs rows).length ≤ 5000 * rows.length
  | [], _ => by simp [impCs]
  | r :: rows, h => by
    have h1 := h r (by simp)
    have h2 := impCs_le rows (fun x hx => h x (by simp [hx]))
    show (impR r ++ impCs rows).length ≤ _
    rw [List.length_append, impR_length, List.length_cons]
    omega
theorem impCs_row (w : Nat) : ∀ (rows : List ByteArray), (∀ r ∈ rows, r.size = 4 * w) → impCs rows = rowsC w rows
  | [], _ => rfl
  | r :: rows, h => by
    have h1 := h r (by simp)
    have h2 := impCs_row w rows (fun x hx => h x (by simp [hx]))
    show impR r ++ impCs rows = chunkC w r.data.toList ++ rowsC w rows
    rw [h2, impR, h1, Nat.mul_div_cancel_left _ (by decide)]
structure RdF (s : ScrI) (a t hh : ByteArray) (rows : List ByteArray) : Prop where
  a27 : a.data.toList.length = 27
  hs : rdAll hh.data.toList = some s.hist
  rl : rows.length = s.h.toNat
  rw : ∀ r ∈ rows, r.size = 4 * s.w.toNat
  eq : s = rdS a t (rowsC s.w.toNat rows) s.hist
variable {l : List UInt8} {s : ScrI} {a t hh : ByteArray} {rows : List ByteArray}
theorem ScrIs.parts (h : ScrIs l s) (hr : rdAll l = some (a :: t :: hh :: rows)) : RdF s a t hh rows := by
  have h1 := h.read
  rw [hr] at h1
  injection h1 with h1
  rw [scrFs] at h1
  injection h1 with ha h1
  injection h1 with ht h1
  injection h1 with hh' hrow
  have hnum : rnF 9 a.data.toList = nineL s := by rw [ha, strOf_data']; exact h.nums
  refine ⟨?_, ?_, ?_, ?_, ?_⟩
  · rw [ha, strOf_data', numL_length]
    rfl
  · rw [hh', strOf_data']
    exact h.hist
  · rw [hrow, rowsL_length]
  · rw [hrow]
    exact h.bs.rows
  · have hc := h.cells
    rw [← hrow] at hc
    rw [rnF_nine] at hnum
    simp only [nineL, List.cons.injEq, and_true] at hnum
    obtain ⟨n0, n1, n2, n3, n4, n5, n6, n7, n8⟩ := hnum
    obtain ⟨w, hgt, x, y, look, top, bot, sx, sy, ti, ce, hi⟩ := s
    simp only at n0 n1 n2 n3 n4 n5 n6 n7 n8 ht hc
    simp only [rdS, ScrI.mk.injEq, and_true]
    exact ⟨n0.symm, n1.symm, n2.symm, n3.symm, n4.symm, n5.symm, n6.symm, n7.symm, n8.symm, ht.symm, hc⟩
def NoScr (l : List UInt8) : Prop := ∀ s, ¬ ScrIs l s
theorem NoScr.none (h : rdAll l = none) : NoScr l := fun s hs => by rw [hs.read] at h; cases h
theorem NoScr.short {F : List ByteArray} (h : rdAll l = some F) (h3 : F.length < 3) : NoScr l := fun s hs => by
  rw [hs.read] at h
  injection h with h
  rw [← h, scrFs_length] at h3
  omega
theorem NoScr.nums (hr : rdAll l = some (a :: t :: hh :: rows)) (h : a.data.toList.length ≠ 27) : NoScr l := fun _ hs => h (hs.parts hr).a27
theorem NoScr.hist (hr : rdAll l = some (a :: t :: hh :: rows)) (h : rdAll hh.data.toList = Option.none) : NoScr l := fun _ hs => by
  rw [(hs.parts hr).hs] at h
  cases h
theorem NoScr.imp {hs : List ByteArray} (hr : rdAll l = some (a :: t :: hh :: rows)) (hh' : rdAll hh.data.toList = some hs) (h : ¬ ScrIs l (rdS a t (impCs rows) hs)) : NoScr l := fun s k => h (by
  have p := k.parts hr
  have e1 := p.hs
  rw [hh'] at e1
  injection e1 with e1
  have e2 := p.eq
  rw [← impCs_row _ _ p.rw, ← e1] at e2
  rw [← e2]
  exact k)
theorem NoScr.count (hr : rdAll l = some (a :: t :: hh :: rows)) (h : (rows.length : Int) ≠ nAt a.data.toList 1 ∨ ¬ (0 ≤ nAt a.data.toList 1) ) : NoScr l := fun s k => by
  have p := k.parts hr
  have e : s.h = nAt a.data.toList 1 := by rw [p.eq]; rfl
  have h1 := k.bs.h1
  have h2 := p.rl
  omega
theorem NoScr.size (hr : rdAll l = some (a :: t :: hh :: rows)) (h : (inB (nAt a.data.toList 0) 2 24 && inB (nAt a.data.toList 1) 2 10) = false) : NoScr l := fun s k => by
  have p := k.parts hr
  have e : s.h = nAt a.data.toList 1 := by rw [p.eq]; rfl
  have e0 : s.w = nAt a.data.toList 0 := by rw [p.eq]; rfl
  rw [← e, ← e0] at h
  have b := k.bs
  have h1 : (inB s.w 2 24 && inB s.h 2 10) = true := by
    rw [Bool.and_eq_true, inB_iff, inB_iff]
    exact ⟨⟨b.w1, b.w2⟩, b.h1, b.h2⟩
  rw [h1] at h
  cases h
theorem NoScr.row (hr : rdAll l = some (a :: t :: hh :: rows)) {r : ByteArray} (hm : r ∈ rows) (h : (r.size : Int) ≠ 4 * nAt a.data.toList 0) : NoScr l := fun s k => by
  have p := k.parts hr
  have e0 : s.w = nAt a.data.toList 0 := by rw [p.eq]; rfl
  have h1 := p.rw r hm
  have h2 := k.bs.w1
  omega
theorem ScrIs.spec {hs : List ByteArray} {w : Nat} (hr : rdAll l = some (a :: t :: hh :: rows)) (ha : a.data.toList.length = 27) (hh' : rdAll hh.data.toList = some hs) (hw : nAt a.data.toList 0 = (w : Int)) (hl : (rows.length : Int) = nAt a.data.toList 1)
    (hrow : ∀ r ∈ rows, r.size = 4 * w) (hB : scrB (rdS a t (rowsC w rows) hs) = true) : ScrIs l (rdS a t (rowsC w rows) hs) := by
  have ew : (rdS a t (rowsC w rows) hs).w.toNat = w := by show (nAt a.data.toList 0).toNat = w; omega
  refine ⟨hB, scr_from (hs := []) hr ha (rdS_nine _ _ _ _).symm rfl hh' ?_ (fun r h => ?_) ?_⟩
  · show rows.length = (nAt a.data.toList 1).toNat
    omega
  · rw [ew]
    exact hrow r h
  · rw [ew]
    rfl
theorem NoScr.spec {hs : List ByteArray} {w : Nat} (hr : rdAll l = some (a :: t :: hh :: rows)) (hh' : rdAll hh.data.toList = some hs) (hw : nAt a.data.toList 0 = (w : Int)) (hB : scrB (rdS a t (rowsC w rows) hs) = false) : NoScr l := fun s k => by
  have p := k.parts hr
  have e0 : s.w = nAt a.data.toList 0 := by rw [p.eq]; rfl
  have ew : s.w.toNat = w := by omega
  have e1 := p.hs
  rw [hh'] at e1
  injection e1 with e1
  have e2 := p.eq
  rw [ew, ← e1] at e2
  rw [← e2, k.1] at hB
  cases hB
end
section
open Go.RowKit
section
variable {B lo g : Nat} {p p' : PV} {ap ap' al al' : Option Addr} {cp cp' cl cl' : Nat} {L us : List ActA} {w w' w1 w2 : World} {R : PV × List AV} {e : Ending} {xs ys : List Int}
theorem FreshIn.setI {c k : Nat} (h : FreshIn intE 3 1 lo w.heap.size (.slice (some ⟨g, 0, none⟩) xs.length c) xs w) (hk : k < xs.length) (v : Int) : FreshIn intE 3 1 lo (w.setCell ⟨g, k, none⟩ (.int .i64 v)).heap.size (.slice (some ⟨g, 0, none⟩) (xs.set k v).length c) (xs.set k v) (w.setCell ⟨g, k, none⟩ (.int .i64 v)) := by
  obtain ⟨g', he, h1, h2, h3, ho⟩ := h.block (by omega)
  cases he
  have hs := (ho.stored k (.int .i64 v)).1
  rw [flat_set1 intE (fun _ => rfl) _ k hk v _ rfl] at hs
  have hl : (xs.set k v).length = xs.length := by simp
  refine ⟨?_, fun j hj => by simp [Value.ownBlock] at hj; subst hj; simpa [World.setCell] using h3⟩
  rw [hl]
  exact Fresh.of_own hs hl.symm rfl
theorem PS.arg2 (h : PS B lo p ap cp L al cl w) (hc : Ch (· ∈ blkOf ap) w w1) (ha : FreshIn intE 3 1 lo w1.heap.size (.slice ap' xs.length cp') xs w1) (hk : ∀ k ∈ blkOf ap', k ∈ blkOf ap ∨ w.heap.size ≤ k) : PS B lo { p with args := xs } ap' cp' L al cl (w1.setCell ⟨B, 1, none⟩ (.slice ap' xs.length cp')) := by
  have hB : ¬ B ∈ blkOf ap := fun hb => h.nB (by simp [hb])
  have hlt := Nat.lt_of_lt_of_le h.lt hc.size
  have hB' : B ∉ blkOf ap' := fun hb => by
    rcases hk B hb with h1 | h1
    · exact hB h1
    · have := h.lt; omega
  have hcs : Ch (fun k => k = B) w1 (w1.setCell ⟨B, 1, none⟩ (.slice ap' xs.length cp')) := Ch.set1 _ _ _ _
  have k1 : w1.cell? ⟨B, 1, none⟩ = some (.slice ap p.args.length cp) := (hc.cell (p := ⟨B, 1, none⟩) h.lt hB).trans h.c1
  have ot : ∀ o, o ≠ 1 → (w1.setCell ⟨B, 1, none⟩ (.slice ap' xs.length cp')).cell? ⟨B, o, none⟩ = w.cell? ⟨B, o, none⟩ := fun o ho => (World.cell?_setCell_other _ _ _ _ (fun e => by cases e; exact ho rfl)).trans (hc.cell (p := ⟨B, o, none⟩) h.lt hB)
  refine ⟨(ot 0 (by decide)).trans h.c0, by simp [go_sem, k1], (ot 2 (by decide)).trans h.c2, (ot 3 (by decide)).trans h.c3, (ot 4 (by decide)).trans h.c4, fun o => (World.frozen?_setCell _ _ _ _).trans ((hc.frozen (p := ⟨B, o, none⟩) h.lt hB).trans (h.fz o)), by simpa [World.setCell] using hlt, ha.ch hcs (fun k hk1 e => hB' (e ▸ hk1)), (h.ro.ch actL hc (fun k hk hk2 => h.nd k hk2 hk)).ch actL hcs (fun k hk1 e => h.nB (by rw [List.mem_append]; exact .inr (e ▸ hk1))), fun hb => ?_, fun k hk1 hk2 => ?_⟩
  · rcases List.mem_append.1 hb with hb | hb
    · exact hB' hb
    · exact h.nB (List.mem_append.2 (.inr hb))
  · rcases hk k hk1 with h1 | h1
    · exact h.nd k h1 hk2
    · have := (h.ro.bd actL k hk2).2; omega
end
end
section
open Go.RowKit
section
variable {p : PV} {b : UInt8} {n : Nat}
theorem cs1 (hn : b.toNat = n) (h : n = 27) : cstep p b = (pst 1, []) := by subst hn; unfold cstep; rw [if_pos h]
theorem cs2 (hn : b.toNat = n) (h : ¬ n = 27) (h2 : ctl n = true) : cstep p b = (p, [⟨2, n, false, [], e0⟩]) := by subst hn; unfold cstep; rw [if_neg h, if_pos h2]
theorem cs3 (hn : b.toNat = n) (h2 : ctl n = false) (h3 : 48 ≤ n ∧ n ≤ 57) : cstep p b = ({ p with args := p.args.dropLast ++ [min 9999 (max 0 (lastA p.args) * 10 + ((n : Int) - 48))] }, []) := by subst hn; unfold cstep; rw [if_neg (by omega), if_neg (by rw [h2]; simp), if_pos h3]
theorem cs4 (hn : b.toNat = n) (h2 : ctl n = false) (h3 : n = 59 ∧ p.args.length < 8) : cstep p b = ({ p with args := p.args ++ [-1] }, []) := by subst hn; unfold cstep; rw [if_neg (by omega), if_neg (by rw [h2]; simp), if_neg (by omega), if_pos h3]
theorem cs5 (hn : b.toNat = n) (h2 : ctl n = false) (h3 : n = 63 ∧ p.args = [-1] ∧ p.priv = false) : cstep p b = ({ p with priv := true }, []) := by subst hn; unfold cstep; rw [if_neg (by omega), if_neg (by rw [h2]; simp), if_neg (by omega), if_neg (by omega), if_pos h3]
theorem cs6 (hn : b.toNat = n) (h2 : ctl n = false) (h3 : 64 ≤ n ∧ n ≤ 126) : cstep p b = (pz, [⟨4, n, p.priv, p.args, e0⟩]) := by subst hn; unfold cstep; rw [if_neg (by omega), if_neg (by rw [h2]; simp), if_neg (by omega), if_neg (by omega), if_neg (by omega), if_pos h3]
theorem cs7 (hn : b.toNat = n) (h : ¬ n = 27) (h2 : ctl n = false) (h3 : ¬ (48 ≤ n ∧ n ≤ 57)) (h4 : ¬ (n = 59 ∧ p.args.length < 8)) (h5 : ¬ (n = 63 ∧ p.args = [-1] ∧ p.priv = false)) (h6 : ¬ (64 ≤ n ∧ n ≤ 126)) : cstep p b = (pst 3, []) := by
  subst hn; unfold cstep; rw [if_neg h, if_neg (by rw [h2]; simp), if_neg h3, if_neg h4, if_neg h5, if_neg h6]
end
theorem set_last {xs : List Int} {m : Nat} (hm : xs.length = m + 1) (v : Int) : xs.set m v = xs.dropLast ++ [v] := by
  have h1 : xs ≠ [] := by intro h; rw [h] at hm; simp at hm
  obtain ⟨ys, y, rfl⟩ : ∃ ys y, xs = ys ++ [y] := ⟨xs.dropLast, xs.getLast h1, (List.dropLast_concat_getLast h1).symm⟩
  have : ys.length = m := by simpa using hm
  subst this
  simp
theorem last_at {xs : List Int} {m : Nat} (hm : xs.length = m + 1) : lastA xs = xs[m]'(by omega) := by
  have h1 : xs ≠ [] := by intro h; rw [h] at hm; simp at hm
  unfold lastA
  rw [List.getLastD_eq_getLast?, List.getLast?_eq_some_getLast h1, Option.getD_some, List.getLast_eq_getElem]
  congr 1
  omega
theorem one_at {xs : List Int} (h1 : xs.length = 1) (h2 : xs[0]'(by omega) = -1) : xs = [-1] := by
  match xs, h1, h2 with
  | [x], _, h2 => simpa using h2
theorem u8_in {n : Int} (h1 : 0 ≤ n) (h2 : n < 256) : IntKind.u8.wrap n = n := by
  unfold IntKind.wrap
  simp [IntKind.bits, IntKind.signed]
  omega
theorem PR.base {B lo : Nat} {R : PV × List AV} {ap al : Option Addr} {L : List ActA} {w w1 w' : World} {e : Ending} (h : PR B lo R ap L al w1 e w') (hb : Below w.heap.size w w1) : PR B lo R ap L al w e w' := by
  obtain ⟨ap', cp', L', al', cl', h1, h2, h3, h4, h5⟩ := h
  refine ⟨ap', cp', L', al', cl', h1, h2, h3, (Ch.of_below hb).trans h4 (fun i hi => .inl hi), fun k hk => ?_⟩
  rcases h5 k hk with h6 | h6
  · exact .inl h6
  · have := hb.size
    exact .inr (by omega)
end
section
open Go.RowKit
section
variable {p : PV} {b : UInt8}
theorem us1 (h : mayF p.utf.data.toList b.toNat = false) : ustep p b = ((gstep b).1, pr 65533 :: (gstep b).2) := by unfold ustep; rw [if_pos h]
theorem us2 (h : mayF p.utf.data.toList b.toNat = true) (h2 : p.utf.size + 1 < utfLen (p.utf.data.toList.headD 0).toNat) : ustep p b = ({ p with utf := p.utf ++ ⟨#[b]⟩ }, []) := by unfold ustep; rw [if_neg (by rw [h]; simp), if_pos h2]
theorem us3 (h : mayF p.utf.data.toList b.toNat = true) (h2 : ¬ p.utf.size + 1 < utfLen (p.utf.data.toList.headD 0).toNat) : ustep p b = (pz, [pr (rnV (p.utf.data.toList ++ [b]))]) := by unfold ustep; rw [if_neg (by rw [h]; simp), if_neg h2]
end
theorem PR.after {B lo : Nat} {R : PV × List AV} {ap al a1 : Option Addr} {L us : List ActA} {x : ActA} {w w2 w' : World} {e : Ending} (h : PR B lo R none us a1 w2 e w') (hx : x.aa = none) (hus : us = L ++ [x]) (hc : Ch (fun k => k = B ∨ k ∈ blkOf al) w w2) (hka : ∀ k ∈ blkOf a1, k ∈ blkOf al ∨ w.heap.size ≤ k) :
    PR B lo (R.1, x.A :: R.2) ap L al w e w' := by
  obtain ⟨ap', cp', L', al', cl', h1, h2, h3, h4, h5⟩ := h
  have hbx : actBlk x = [] := by unfold actBlk; rw [hx]; rfl
  refine ⟨ap', cp', L', al', cl', h1, h2, by rw [h3, hus]; simp, ?_, fun k hk1 => ?_⟩
  · refine (hc.mono (M := fun k => k = B ∨ k ∈ blkOf ap ∨ k ∈ blkOf al) (fun i hi => .inl (by rcases hi with h | h; exact .inl h; exact .inr (.inr h)))).trans h4 (fun i hi => ?_)
    rcases hi with h6 | h6 | h6
    · exact .inl (.inl h6)
    · simp [blkOf] at h6
    · rcases hka i h6 with h7 | h7
      · exact .inl (.inr (.inr h7))
      · exact .inr h7
  · rcases h5 k hk1 with h6 | h6
    · simp only [blkOf, List.nil_append, roB, List.mem_append, hus, List.flatMap_append, List.flatMap_cons, List.flatMap_nil, List.append_nil, hbx] at h6
      rcases h6 with h6 | h6
      · rcases hka k h6 with h7 | h7
        · exact .inl (by simp only [List.mem_append, roB]; exact .inr (.inl h7))
        · exact .inr h7
      · exact .inl (by simp only [List.mem_append, roB]; exact .inr (.inr h6))
    · have := hc.size
      exact .inr (by omega)
theorem convAt (g : Nat) (w : World) (b : UInt8) (n : Nat) (hc : w.cell? ⟨g, 0, none⟩ = some (.int .u8 n)) (hn : b.toNat = n) : (convert 22 9 (.slice (some ⟨g, 0, none⟩) 1 1)).run Try.prog w = .ok (.string ⟨#[b]⟩) w := by
  refine run_convert_bytes_back w _ _ 5 ⟨g, 0, none⟩ 1 [b] Try.underlying22 Try.underlying5 Try.underlying9 (fun j hj => ?_)
  have h0 : j = 0 := by simpa using hj
  subst h0
  simp [Addr.add, hc, hn]
end
section
open Go.RowKit
section
variable {b : UInt8} {n : Nat}
theorem es1 (hn : b.toNat = n) (h : n = 91) : estep b = (⟨2, [-1], false, e0, e0⟩, []) := by subst hn; unfold estep; rw [if_pos h]
theorem es2 (hn : b.toNat = n) (h : n = 93) : estep b = (pst 4, []) := by subst hn; unfold estep; rw [if_neg (by omega), if_pos h]
theorem es3 (hn : b.toNat = n) (h : n = 27) : estep b = (pst 1, []) := by subst hn; unfold estep; rw [if_neg (by omega), if_neg (by omega), if_pos h]
theorem es4 (hn : b.toNat = n) (h1 : ¬ n = 91) (h2 : ¬ n = 93) (h3 : ¬ n = 27) (h4 : esc n = true) : estep b = (pz, [⟨3, n, false, [], e0⟩]) := by subst hn; unfold estep; rw [if_neg h1, if_neg h2, if_neg h3, if_pos h4]
theorem es5 (hn : b.toNat = n) (h1 : ¬ n = 91) (h2 : ¬ n = 93) (h3 : ¬ n = 27) (h4 : esc n = false) : estep b = (pz, []) := by subst hn; unfold estep; rw [if_neg h1, if_neg h2, if_neg h3, if_neg (by rw [h4]; simp)]
end
theorem fresh_one (lo : Nat) (w : World) (g : Nat) (v : Int) (hg : g = w.heap.size) (h : lo ≤ w.heap.size) : FreshIn intE 3 1 lo (w.alloc (.cells #[.int .i64 v] 3)).heap.size (.slice (some ⟨g, 0, none⟩) 1 1) [v] (w.alloc (.cells #[.int .i64 v] 3)) := by
  subst hg
  exact (Fresh.of_own (World.ownsRow_lit (base := lo) w #[.int .i64 v] 1 h (by decide) rfl) rfl rfl).here
theorem PS.cellsNew {B lo g : Nat} {p p' : PV} {ap al : Option Addr} {cp cp' cl : Nat} {L : List ActA} {w w' : World} (h : PS B lo p ap cp L al cl w) (hc : Ch (fun k => k = B) w w') (hg : w.heap.size ≤ g) (ha : FreshIn intE 3 1 lo w'.heap.size (.slice (some ⟨g, 0, none⟩) p'.args.length cp') p'.args w')
    (c0 : w'.cell? ⟨B, 0, none⟩ = some (.int .i64 p'.state)) (c1 : w'.cell? ⟨B, 1, none⟩ = some (.slice (some ⟨g, 0, none⟩) p'.args.length cp')) (c2 : w'.cell? ⟨B, 2, none⟩ = some (.bool p'.priv))
    (c3 : w'.cell? ⟨B, 3, none⟩ = some (.string p'.text)) (c4 : w'.cell? ⟨B, 4, none⟩ = some (.string p'.utf)) (fz : ∀ o, w'.frozen? ⟨B, o, none⟩ = false) : PS B lo p' (some ⟨g, 0, none⟩) cp' L al cl w' := by
  have hne : ∀ k ∈ acB al L, ¬ k = B := fun k hk e => h.nB (by rw [List.mem_append]; exact .inr (e ▸ hk))
  have hlt := h.lt
  refine ⟨c0, c1, c2, c3, c4, fz, Nat.lt_of_lt_of_le hlt hc.size, ha, h.ro.ch actL hc hne, fun hB => ?_, fun k hk1 hk2 => ?_⟩
  · rcases List.mem_append.1 hB with h1 | h1
    · simp [blkOf] at h1; omega
    · exact hne B h1 rfl
  · simp [blkOf] at hk1
    have := (h.ro.bd actL k hk2).2
    omega
end
section
open Go.RowKit
section
variable {p : PV} {b : UInt8} {n : Nat}
theorem ss1 (hn : b.toNat = n) (h : n = 27) : sstep p b = (pst 1, []) := by subst hn; unfold sstep; rw [if_pos h]
theorem ss2 (hn : b.toNat = n) (h : 64 ≤ n ∧ n ≤ 126) : sstep p b = (pz, []) := by subst hn; unfold sstep; rw [if_neg (by omega), if_pos h]
theorem ss3 (hn : b.toNat = n) (h1 : ¬ n = 27) (h : ¬ (64 ≤ n ∧ n ≤ 126)) : sstep p b = (p, []) := by subst hn; unfold sstep; rw [if_neg h1, if_neg h]
theorem os1 (hn : b.toNat = n) (h : n = 7) : ostep p b = (pz, [⟨5, 0, false, [], p.text⟩]) := by subst hn; unfold ostep; rw [if_pos h]
theorem os2 (hn : b.toNat = n) (h : n = 27) : ostep p b = ({ p with state := 5 }, []) := by subst hn; unfold ostep; rw [if_neg (by omega), if_pos h]
theorem os3 (hn : b.toNat = n) (h : (32 ≤ n ∧ n ≤ 126) ∧ p.text.size < 40) : ostep p b = ({ p with text := p.text ++ ⟨#[b]⟩ }, []) := by subst hn; unfold ostep; rw [if_neg (by omega), if_neg (by omega), if_pos h]
theorem os4 (hn : b.toNat = n) (h1 : ¬ n = 7) (h2 : ¬ n = 27) (h : ¬ ((32 ≤ n ∧ n ≤ 126) ∧ p.text.size < 40)) : ostep p b = (p, []) := by subst hn; unfold ostep; rw [if_neg h1, if_neg h2, if_neg h]
theorem qs1 (hn : b.toNat = n) (h : n = 92) : qstep p b = (pz, [⟨5, 0, false, [], p.text⟩]) := by subst hn; unfold qstep; rw [if_pos h]
theorem qs2 (hn : b.toNat = n) (h : ¬ n = 92) : qstep p b = estep b := by subst hn; unfold qstep; rw [if_neg h]
end
end
section
open Go.RowKit
theorem titB_sz {s : ByteArray} (h : titB s = true) : s.size ≤ 40 := by
  rw [titB_eq, Bool.and_eq_true, decide_eq_true_eq] at h
  exact h.1
end
section
open Go.RowKit
theorem intOne : ∀ (x : Int), ∀ u ∈ intE x, u.oneCell' = true := fun x u hu => by simp [intE] at hu; subst hu; rfl
theorem fresh_mdI (w : World) (B : Nat) (hB : B ≤ w.heap.size) : Fresh intE 3 1 B (.slice (some ⟨w.heap.size, 0, none⟩) 0 0) [] (w.alloc (.cells #[] 3)) :=
  Fresh.of_own (World.ownsRow_made (base := B) w #[] 0 hB (by decide) rfl) rfl rfl
def ParR (p : PV) (w : World) (e : Ending) (w' : World) : Prop :=
  ∃ a c, e = .returned (.agg #[.int .i64 p.state, .slice a p.args.length c, .bool p.priv, .string p.text, .string p.utf]) ∧ FreshIn intE 3 1 w.heap.size w'.heap.size (.slice a p.args.length c) p.args w' ∧ Below w.heap.size w w'
end
section
open Go.RowKit
def OutR (G : (PV × List AV) × Int) (w : World) (e : Ending) (w' : World) : Prop :=
  ∃ (ap : Option Addr) (cp : Nat) (al : Option Addr) (cl : Nat) (L : List ActA), e = .returned (.tuple #[.agg #[.int .i64 G.1.1.state, .slice ap G.1.1.args.length cp, .bool G.1.1.priv, .string G.1.1.text, .string G.1.1.utf], .slice al L.length cl, .int .i64 G.2]) ∧ FreshIn intE 3 1 w.heap.size w'.heap.size (.slice ap G.1.1.args.length cp) G.1.1.args w' ∧ ActO w.heap.size L al cl w' ∧ (∀ k ∈ blkOf ap, k ∉ acB al L) ∧ L.map (·.A) = G.1.2 ∧ Below w.heap.size w w'
theorem OutR.zero {G : (PV × List AV) × Int} {c : Int} {w w' : World} (hG : G = ((pz, []), c)) (hb : Below w.heap.size w w') : OutR G w (.returned (.tuple #[.agg #[.int .i64 0, .slice none 0 0, .bool false, .string ⟨#[]⟩, .string ⟨#[]⟩], .slice none 0 0, .int .i64 c])) w' := by
  subst hG
  exact ⟨none, 0, none, 0, [], rfl, FreshIn.nil _ _ _ _ _ _, RO.nil, by simp [blkOf], rfl, hb⟩
theorem PS.box {B lo : Nat} {p : PV} {ap : Option Addr} {cp : Nat} {w : World} (hlt : B < w.heap.size) (ha : FreshIn intE 3 1 lo w.heap.size (.slice ap p.args.length cp) p.args w)
    (c0 : w.cell? ⟨B, 0, none⟩ = some (.int .i64 p.state)) (c1 : w.cell? ⟨B, 1, none⟩ = some (.slice ap p.args.length cp)) (c2 : w.cell? ⟨B, 2, none⟩ = some (.bool p.priv))
    (c3 : w.cell? ⟨B, 3, none⟩ = some (.string p.text)) (c4 : w.cell? ⟨B, 4, none⟩ = some (.string p.utf)) (fz : ∀ o, w.frozen? ⟨B, o, none⟩ = false) (hn : ∀ k ∈ blkOf ap, k ≠ B) : PS B lo p ap cp [] none 0 w :=
  ⟨c0, c1, c2, c3, c4, fz, hlt, ha, RO.nil, fun h => by
    rcases List.mem_append.1 h with h | h
    · exact hn _ h rfl
    · simp [acB, blkOf, roB] at h, fun k _ h => by simp [acB, blkOf, roB] at h⟩
theorem prun_snoc (p : PV) (l : List UInt8) (b : UInt8) : prun p (l ++ [b]) = ((pstep (prun p l).1 b).1, (prun p l).2 ++ (pstep (prun p l).1 b).2) := by
  rw [prun_append]
  simp [prun]
theorem step_len (p : PV) (b : UInt8) : (pstep p b).2.length ≤ 2 := by
  have hg : (gstep b).2.length ≤ 1 := by unfold gstep; (repeat' split) <;> simp
  have he : (estep b).2.length ≤ 1 := by unfold estep; (repeat' split) <;> simp
  have hc : (cstep p b).2.length ≤ 1 := by unfold cstep; (repeat' split) <;> simp
  have hs : (sstep p b).2.length ≤ 1 := by unfold sstep; (repeat' split) <;> simp
  have ho : (ostep p b).2.length ≤ 1 := by unfold ostep; (repeat' split) <;> simp
  have hq : (qstep p b).2.length ≤ 1 := by unfold qstep; (repeat' split) <;> first | exact he | simp
  have hu : (ustep p b).2.length ≤ 2 := by unfold ustep; (repeat' split) <;> simp <;> omega
  unfold pstep
  (repeat' split) <;> omega
theorem run_len (l : List UInt8) (p : PV) : (prun p l).2.length ≤ 2 * l.length := by
  induction l generalizing p with
  | nil => simp [prun]
  | cons b l ih =>
    have h1 := step_len p b
    have h2 := ih (pstep p b).1
    simp only [prun, List.length_append, List.length_cons]
    omega
end
section
open Go.RowKit
structure QS (X lo : Nat) (p : PV) (ap : Option Addr) (cp : Nat) (L : List ActA) (al : Option Addr) (cl : Nat) (w : World) : Prop where
  ps : PS X lo p ap cp L al cl w
  c5 : w.cell? ⟨X, 5, none⟩ = some (.slice al L.length cl)
  lo : lo ≤ X
section
variable {X lo : Nat} {p p' : PV} {ap ap' al al' : Option Addr} {cp cp' cl cl' : Nat} {L us : List ActA} {w w' w1 : World}
theorem QS.keep (h : QS X lo p ap cp L al cl w) (hb : Below w.heap.size w w') : QS X lo p ap cp L al cl w' := ⟨h.ps.keep hb, (hb.cell (p := ⟨X, 5, none⟩) h.ps.lt).trans h.c5, h.lo⟩
theorem PS.pushX (h : PS X lo p ap cp L al cl w) {x : ActA} (hx : actOwn lo w x) (hd : ∀ k ∈ blkOf x.aa, k ≠ X ∧ k ∉ blkOf ap ∧ k ∉ acB al L) (hus : us = L ++ [x]) (hf : FreshIn actE 87 5 lo w'.heap.size (.slice al' us.length cl') us w') (hc : Ch (· ∈ blkOf al) w w')
    (hk : ∀ k ∈ blkOf al', k ∈ blkOf al ∨ k = w.heap.size) : PS X lo p ap cp us al' cl' w' := by
  have hB : X ∉ blkOf al := fun hb => h.nB (by simp [roB, hb])
  have hA : ∀ k ∈ blkOf ap, k ∉ blkOf al := fun k hk1 hk2 => h.nd k hk1 (by simp [roB, hk2])
  have hro : ActO lo us al' cl' w' := h.ro.push actL hx (fun k hk1 => (hd k hk1).2.2) hus hf hc hk
  have hin : ∀ k ∈ acB al' us, k ∈ acB al L ∨ k ∈ blkOf x.aa ∨ k = w.heap.size := by
    intro k hk1
    simp only [roB, List.mem_append] at hk1 ⊢
    rcases hk1 with hk1 | hk1
    · rcases hk k hk1 with h2 | h2
      · exact .inl (.inl h2)
      · exact .inr (.inr h2)
    · rw [hus] at hk1
      simp only [List.flatMap_append, List.flatMap_cons, List.flatMap_nil, List.append_nil, List.mem_append] at hk1
      rcases hk1 with hk1 | hk1
      · exact .inl (.inr hk1)
      · exact .inr (.inl hk1)
  refine ⟨(hc.cell (p := ⟨X, 0, none⟩) h.lt hB).trans h.c0, (hc.cell (p := ⟨X, 1, none⟩) h.lt hB).trans h.c1, (hc.cell (p := ⟨X, 2, none⟩) h.lt hB).trans h.c2, (hc.cell (p := ⟨X, 3, none⟩) h.lt hB).trans h.c3, (hc.cell (p := ⟨X, 4, none⟩) h.lt hB).trans h.c4, fun o => (hc.frozen (p := ⟨X, o, none⟩) h.lt hB).trans (h.fz o), Nat.lt_of_lt_of_le h.lt hc.size, h.args.ch hc hA, hro, fun hb => ?_, fun k hk1 hk2 => ?_⟩
  · rcases List.mem_append.1 hb with hb | hb
    · exact h.nB (by simp [hb])
    · rcases hin X hb with h2 | h2 | h2
      · exact h.nB (List.mem_append.2 (.inr h2))
      · exact (hd X h2).1 rfl
      · have := h.lt; omega
  · rcases hin k hk2 with h2 | h2 | h2
    · exact h.nd k hk1 h2
    · exact (hd k h2).2.1 hk1
    · have := (FreshIn.blks h.args k hk1).2; omega
theorem QS.list {v : Value} (h : PS X lo p ap cp us al' cl' w) {u : Value} (hl : lo ≤ X) (hv : v = .slice al' us.length cl') (h5 : w.cell? ⟨X, 5, none⟩ = some u) : QS X lo p ap cp us al' cl' (w.setCell ⟨X, 5, none⟩ v) := by
  subst hv
  have hc : Ch (fun k => k = X) w (w.setCell ⟨X, 5, none⟩ (.slice al' us.length cl')) := Ch.set1 _ _ _ _
  have k0 := h.c0
  have k1 := h.c1
  have k2 := h.c2
  have k3 := h.c3
  have k4 := h.c4
  have kf := h.fz
  refine ⟨h.cells hc ?_ ?_ ?_ ?_ ?_ ?_ (.inl ⟨rfl, rfl, rfl⟩), ?_, hl⟩
  all_goals first | (intro o; simp [go_sem, kf]; done) | (simp [go_sem, k0, k1, k2, k3, k4, h5]; done)
end
theorem fresh_zero (lo : Nat) (w : World) (g : Nat) (hg : g = w.heap.size) (h : lo ≤ w.heap.size) : FreshIn intE 3 1 lo (w.alloc (.cells #[] 3)).heap.size (.slice (some ⟨g, 0, none⟩) 0 0) [] (w.alloc (.cells #[] 3)) := by
  subst hg
  exact (fresh_mdI w lo h).here
theorem ground_r (X lo : Nat) (p : PV) (ap al : Option Addr) (cp cl : Nat) (L : List ActA) (w : World) (h : QS X lo p ap cp L al cl w) :
    Calls Try.prog 90 #[.pointer (some ⟨X, 0, none⟩)] w fun e w' => e = .returned (.tuple #[]) ∧ ∃ g, w.heap.size ≤ g ∧ QS X lo pz (some ⟨g, 0, none⟩) 0 L al cl w' ∧ Ch (fun k => k = X) w w' := by
  have HP := Lib.hid h
  have k_0 := h.ps.c0
  have k_1 := h.ps.c1
  have k_2 := h.ps.c2
  have k_3 := h.ps.c3
  have k_4 := h.ps.c4
  have k_5 := h.c5
  have kf := h.ps.fz
  have klt := h.ps.lt
  clear h
  go_enter Try.func90, Try.ntmps90
  go_wp2_with fail
  refine bodyPost_end (v := .tuple #[]) (by simp [results, Try.results90]) rfl ?_
  have hlo : lo ≤ w.heap.size := by have := HP.out.lo; omega
  refine ⟨rfl, w.heap.size, Nat.le_refl _, ⟨HP.out.ps.cellsNew ?hc (Nat.le_refl _) ?ha ?_ ?_ ?_ ?_ ?_ ?_, ?_, HP.out.lo⟩, ?hc⟩
  case hc => repeat (first | (with_reducible exact Ch.refl) | (with_reducible refine Ch.alloc ?_ _) | (with_reducible refine Ch.drew ?_) | (with_reducible refine Ch.setB ?_ _ _))
  case ha => exact fresh_zero lo _ _ (by simp [World.setCell]) (by simp [World.setCell]; omega)
  all_goals first | (intro o; simp [go_sem, kf, klt]; done) | (simp [go_sem, k_0, k_1, k_2, k_3, k_4, k_5, klt, pz]; done)
end
section
open Go.RowKit
def QR (X lo : Nat) (R : PV × List AV) (L : List ActA) (e : Ending) (w w' : World) : Prop :=
  e = .returned (.tuple #[]) ∧ ∃ (ap' : Option Addr) (cp' : Nat) (L' : List ActA) (al' : Option Addr) (cl' : Nat), QS X lo R.1 ap' cp' L' al' cl' w' ∧ L'.map (·.A) = L.map (·.A) ++ R.2 ∧ Below lo w w'
theorem QS.below {X lo : Nat} {p : PV} {ap al : Option Addr} {cp cl : Nat} {L : List ActA} {w w' : World} (h : QS X lo p ap cp L al cl w) (hc : Ch (fun k => k = X ∨ k ∈ blkOf al) w w') : Below lo w w' := by
  have hl := h.lo
  have ht := h.ps.lt
  refine hc.below (by omega) (fun k hk => ?_)
  rcases hk with hk | hk
  · omega
  · exact (h.ps.ro.bd actL k (by simp [roB, hk])).1
theorem tell_r (X lo : Nat) (p : PV) (ap al aa : Option Addr) (cp cl ca : Nat) (L : List ActA) (A : AV) (w : World) (h : QS X lo p ap cp L al cl w)
    (hA : FreshIn intE 3 1 lo w.heap.size (.slice aa A.args.length ca) A.args w) (hd : ∀ k ∈ blkOf aa, k ≠ X ∧ k ∉ blkOf ap ∧ k ∉ acB al L) (hL : L.length ≤ 1048576) (hl : A.args.length ≤ 1048576) :
    Calls Try.prog 91 #[.pointer (some ⟨X, 0, none⟩), .agg #[.int .i64 A.kind, .int .i64 A.n, .bool A.priv, .slice aa A.args.length ca, .string A.text]] w (fun e w' => QR X lo (p, [A]) L e w w') := by
  obtain ⟨iA, hA', hA0, hA1, hA2⟩ := info_parts Try.infoAction
  have HP := Lib.hid h
  have HA := Lib.hid hA
  have HD := Lib.hid hd
  have k_5 := h.c5
  have kf := h.ps.fz
  have klt := h.ps.lt
  have hXn : ¬ w.heap.size = X := by omega
  have hXm : ¬ X = w.heap.size := by omega
  have hlo : lo ≤ w.heap.size := by have := h.lo; omega
  clear h hA hd
  have hA := hA'
  clear hA'
  go_enter Try.func91, Try.ntmps91
  by_cases hz : A.args.length = 0
  case pos =>
    have HE : Hid (A.args = []) := Lib.hid (List.length_eq_zero_iff.1 hz)
    have g0 : ((A.args.length : Int) == 0) = true := by rw [hz]; rfl
    clear hz
    go_upto_region 3 with fail
    have HB1 : Hid (Below w.heap.size w ((w.alloc (.cells #[.int .i64 A.kind, .int .i64 A.n, .bool A.priv, .slice (some ⟨w.heap.size + 1, 0, none⟩) 0 0, .string A.text] 87)).alloc (.cells #[] 3))) := Lib.hid (by repeat (first | (with_reducible exact Below.refl _ _) | (with_reducible refine Below.alloc ?_ ?_ _; rotate_left; ((try simp) <;> (try omega)))))
    have HOW : Hid (actOwn lo ((w.alloc (.cells #[.int .i64 A.kind, .int .i64 A.n, .bool A.priv, .slice (some ⟨w.heap.size + 1, 0, none⟩) 0 0, .string A.text] 87)).alloc (.cells #[] 3)) ⟨A, (some ⟨w.heap.size + 1, 0, none⟩), 0⟩ ∧ ∀ k ∈ blkOf (some ⟨w.heap.size + 1, 0, none⟩), k ≠ X ∧ k ∉ blkOf ap ∧ k ∉ acB al L) := Lib.hid (by
      refine ⟨?_, fun k hk => ?_⟩
      · unfold actOwn
        show FreshIn intE 3 1 lo _ (.slice _ A.args.length 0) A.args _
        rw [HE.out]
        exact fresh_zero lo _ _ (by simp) (by simp; omega)
      · simp [blkOf] at hk
        subst hk
        refine ⟨by omega, fun h => ?_, fun h => ?_⟩
        · have := (FreshIn.blks HP.out.ps.args _ h).2; omega
        · have := (HP.out.ps.ro.bd actL _ h).2; omega)
    have z_0 : ((w.alloc (.cells #[.int .i64 A.kind, .int .i64 A.n, .bool A.priv, .slice (some ⟨w.heap.size + 1, 0, none⟩) 0 0, .string A.text] 87)).alloc (.cells #[] 3)).cell? ⟨w.heap.size, 0, none⟩ = some (.int .i64 A.kind) := by simp [go_sem]
    have z_1 : ((w.alloc (.cells #[.int .i64 A.kind, .int .i64 A.n, .bool A.priv, .slice (some ⟨w.heap.size + 1, 0, none⟩) 0 0, .string A.text] 87)).alloc (.cells #[] 3)).cell? ⟨w.heap.size, 1, none⟩ = some (.int .i64 A.n) := by simp [go_sem]
    have z_2 : ((w.alloc (.cells #[.int .i64 A.kind, .int .i64 A.n, .bool A.priv, .slice (some ⟨w.heap.size + 1, 0, none⟩) 0 0, .string A.text] 87)).alloc (.cells #[] 3)).cell? ⟨w.heap.size, 2, none⟩ = some (.bool A.priv) := by simp [go_sem]
    have z_3 : ((w.alloc (.cells #[.int .i64 A.kind, .int .i64 A.n, .bool A.priv, .slice (some ⟨w.heap.size + 1, 0, none⟩) 0 0, .string A.text] 87)).alloc (.cells #[] 3)).cell? ⟨w.heap.size, 3, none⟩ = some (.slice (some ⟨w.heap.size + 1, 0, none⟩) 0 0) := by simp [go_sem]
    have z_4 : ((w.alloc (.cells #[.int .i64 A.kind, .int .i64 A.n, .bool A.priv, .slice (some ⟨w.heap.size + 1, 0, none⟩) 0 0, .string A.text] 87)).alloc (.cells #[] 3)).cell? ⟨w.heap.size, 4, none⟩ = some (.string A.text) := by simp [go_sem]
    obtain ⟨x1, hx1⟩ : ∃ x, ((w.alloc (.cells #[.int .i64 A.kind, .int .i64 A.n, .bool A.priv, .slice (some ⟨w.heap.size + 1, 0, none⟩) 0 0, .string A.text] 87)).alloc (.cells #[] 3)) = x := ⟨_, rfl⟩
    rw [hx1] at HB1 HOW z_0 z_1 z_2 z_3 z_4 ⊢
    clear hx1
    have hz1 := HB1.out.size
    have hzH : w.heap.size < x1.heap.size := by
      rcases Nat.lt_or_ge w.heap.size x1.heap.size with h | h
      · exact h
      · have : x1.cell? ⟨w.heap.size, 0, none⟩ = none := by simp [World.cell?, Array.getElem?_eq_none h]
        rw [this] at z_0; cases z_0
    have HP1 := Lib.hid (HP.out.keep HB1.out)
    have y_5 := HP1.out.c5
    have yf := HP1.out.ps.fz
    have ylt := HP1.out.ps.lt
    have hS0 : x1.cell? ⟨X, 5, none⟩ = some (.slice al L.length cl) ∧ x1.cell? ⟨w.heap.size, 0, none⟩ = some (.int .i64 A.kind) ∧ x1.cell? ⟨w.heap.size, 1, none⟩ = some (.int .i64 A.n) ∧ x1.cell? ⟨w.heap.size, 2, none⟩ = some (.bool A.priv) ∧ x1.cell? ⟨w.heap.size, 3, none⟩ = some (.slice (some ⟨w.heap.size + 1, 0, none⟩) 0 0) ∧ x1.cell? ⟨w.heap.size, 4, none⟩ = some (.string A.text) := ⟨y_5, z_0, z_1, z_2, z_3, z_4⟩
    refine wp_region_G (fun w' => w'.cell? ⟨X, 5, none⟩ = some (.slice al L.length cl) ∧ w'.cell? ⟨w.heap.size, 0, none⟩ = some (.int .i64 A.kind) ∧ w'.cell? ⟨w.heap.size, 1, none⟩ = some (.int .i64 A.n) ∧ w'.cell? ⟨w.heap.size, 2, none⟩ = some (.bool A.priv) ∧ w'.cell? ⟨w.heap.size, 3, none⟩ = some (.slice (some ⟨w.heap.size + 1, 0, none⟩) 0 0) ∧ w'.cell? ⟨w.heap.size, 4, none⟩ = some (.string A.text)) (fun i => i == 10) (by kernel_rfl) hS0 ?_
    refine tW ?_ 0 rfl ?_ ?_; rotate_left
    · intro w' hSw; go_simp; try rfl
    try simp only [Act.put,j1,j2,j3,j4,j5,j6]
    refine tW ?_ 1 rfl ?_ ?_; rotate_left
    · intro w' hSw; go_simp; try rfl
    try simp only [Act.put,j1,j2,j3,j4,j5,j6]
    refine tW ?_ 2 rfl ?_ ?_; rotate_left
    · intro w' hSw; go_simp; try rfl
    try simp only [Act.put,j1,j2,j3,j4,j5,j6]
    refine tW ?_ 3 rfl ?_ ?_; rotate_left
    · intro w' hSw; go_simp; try rfl
    try simp only [Act.put,j1,j2,j3,j4,j5,j6]
    refine tL ?_ 4 rfl hS0 ?_ ?_; rotate_left
    · intro w' hSw; obtain ⟨s0, s1, s2, s3, s4, s5⟩ := hSw; go_simp; try rfl
    try simp only [Act.put,j1,j2,j3,j4,j5,j6]
    refine tL ?_ 5 rfl hS0 ?_ ?_; rotate_left
    · intro w' hSw; obtain ⟨s0, s1, s2, s3, s4, s5⟩ := hSw; go_simp; try rfl
    try simp only [Act.put,j1,j2,j3,j4,j5,j6]
    refine wpAnyG_one (i := 6) (by kernel_rfl) rfl hS0 (fun K' hK => ?_)
    simp only [j1,j2,j3]
    go_simp
    obtain ⟨x2, hx2⟩ : ∃ x, (x1.alloc (.cells #[.int .i64 A.kind, .int .i64 A.n, .bool A.priv, .slice (some ⟨w.heap.size + 1, 0, none⟩) 0 0, .string A.text] 87)).drew = x := ⟨_, rfl⟩
    have hx2' : x1.drew.alloc (.cells #[.int .i64 A.kind, .int .i64 A.n, .bool A.priv, .slice (some ⟨w.heap.size + 1, 0, none⟩) 0 0, .string A.text] 87) = x2 := by rw [← hx2]; rfl
    have HB2 : Hid (Below x1.heap.size x1 x2) := Lib.hid (by rw [← hx2]; exact ((Below.refl _ _).alloc (Nat.le_refl _) _).drew)
    have hsrc : Src Try.prog 5 78 (.slice (some ⟨x1.heap.size, 0, none⟩) 1 1) [(⟨A, (some ⟨w.heap.size + 1, 0, none⟩), 0⟩ : ActA)].length ([(⟨A, (some ⟨w.heap.size + 1, 0, none⟩), 0⟩ : ActA)].flatMap actE) x2 := by
      rw [← hx2']
      exact Src.ofBox (enc := actE) Try.underlying78 (fun _ => rfl) actOne (⟨A, (some ⟨w.heap.size + 1, 0, none⟩), 0⟩ : ActA) _ _ (by simp [actE, HE.out]) _ (by simp)
    have HSRC := Lib.hid hsrc
    have HP2 := Lib.hid (HP1.out.keep HB2.out)
    have HOW2 : Hid (actOwn lo x2 ⟨A, (some ⟨w.heap.size + 1, 0, none⟩), 0⟩) := Lib.hid (actL.ch (M := fun _ => False) HOW.out.1 (Ch.of_below HB2.out) (fun _ _ h => h))
    have hz2 := HB2.out.size
    have hS1 := fun (p : Addr) (hp : p.block < x1.heap.size) => HB2.out.cell (p := p) hp
    have hS2 : x2.cell? ⟨X, 5, none⟩ = some (.slice al L.length cl) ∧ x2.cell? ⟨w.heap.size, 0, none⟩ = some (.int .i64 A.kind) ∧ x2.cell? ⟨w.heap.size, 1, none⟩ = some (.int .i64 A.n) ∧ x2.cell? ⟨w.heap.size, 2, none⟩ = some (.bool A.priv) ∧ x2.cell? ⟨w.heap.size, 3, none⟩ = some (.slice (some ⟨w.heap.size + 1, 0, none⟩) 0 0) ∧ x2.cell? ⟨w.heap.size, 4, none⟩ = some (.string A.text) := ⟨(hS1 ⟨X, 5, none⟩ ylt).trans y_5, (hS1 ⟨w.heap.size, 0, none⟩ hzH).trans z_0, (hS1 ⟨w.heap.size, 1, none⟩ hzH).trans z_1, (hS1 ⟨w.heap.size, 2, none⟩ hzH).trans z_2, (hS1 ⟨w.heap.size, 3, none⟩ hzH).trans z_3, (hS1 ⟨w.heap.size, 4, none⟩ hzH).trans z_4⟩
    clear hsrc hx2' hS1
    rw [hx2]
    clear hx2
    refine hK.out _ _ (Or.inr hS2) ?_
    clear hK K'
    try simp only [Act.put,j1,j2,j3,j4,j5,j6]
    refine wpAnyG_one (i := 7) (by kernel_rfl) rfl hS2 (fun K' hK => ?_)
    simp only [j1,j2,j3]
    rw [if_pos (by rfl)]
    refine step_append_ch (.tmp 14) (.tmp 16) 78 78 lo 87 iA (.agg #[.int .i64 0, .int .i64 0, .bool false, .slice none 0 0, .string ⟨#[]⟩]) 5 64 Try.underlying78 hA hA0 hA1 hA2 rfl (by decide) al L.length cl L HP2.out.ps.ro.row (.slice (some ⟨x1.heap.size, 0, none⟩) 1 1) [(⟨A, (some ⟨w.heap.size + 1, 0, none⟩), 0⟩ : ActA)] HSRC.out (by simp; omega) (by omega) ?_ ?_ ?_ ?_
    · rfl
    · rfl
    · rfl
    intro a4 c4 w4 us hus hf hc hk
    have HUS := hus
    have HF := Lib.hid hf
    have HC4 := Lib.hid hc
    have HK := Lib.hid hk
    have hHal : ¬ w.heap.size ∈ blkOf al := fun hb => by
      have := (HP.out.ps.ro.bd actL w.heap.size (by simp [roB, hb])).2
      omega
    have hXal : ¬ X ∈ blkOf al := fun hb => HP.out.ps.nB (by rw [List.mem_append]; right; simp [roB, hb])
    have hS3 := fun (p : Addr) (hp : p.block < x2.heap.size) (hd : ¬ p.block ∈ blkOf al) => HC4.out.cell (p := p) hp hd
    have hS4 : w4.cell? ⟨X, 5, none⟩ = some (.slice al L.length cl) ∧ w4.cell? ⟨w.heap.size, 0, none⟩ = some (.int .i64 A.kind) ∧ w4.cell? ⟨w.heap.size, 1, none⟩ = some (.int .i64 A.n) ∧ w4.cell? ⟨w.heap.size, 2, none⟩ = some (.bool A.priv) ∧ w4.cell? ⟨w.heap.size, 3, none⟩ = some (.slice (some ⟨w.heap.size + 1, 0, none⟩) 0 0) ∧ w4.cell? ⟨w.heap.size, 4, none⟩ = some (.string A.text) := ⟨(hS3 ⟨X, 5, none⟩ (by show X < _; omega) hXal).trans hS2.1, (hS3 ⟨w.heap.size, 0, none⟩ (by show w.heap.size < _; omega) hHal).trans hS2.2.1, (hS3 ⟨w.heap.size, 1, none⟩ (by show w.heap.size < _; omega) hHal).trans hS2.2.2.1, (hS3 ⟨w.heap.size, 2, none⟩ (by show w.heap.size < _; omega) hHal).trans hS2.2.2.2.1, (hS3 ⟨w.heap.size, 3, none⟩ (by show w.heap.size < _; omega) hHal).trans hS2.2.2.2.2.1, (hS3 ⟨w.heap.size, 4, none⟩ (by show w.heap.size < _; omega) hHal).trans hS2.2.2.2.2.2⟩
    have HPS4 : Hid (PS X lo p ap cp us a4 c4 w4) := Lib.hid (HP2.out.ps.pushX (x := ⟨A, (some ⟨w.heap.size + 1, 0, none⟩), 0⟩) HOW2.out HOW.out.2 HUS.out HF.out HC4.out HK.out)
    have v_5 := hS4.1
    have vf := HPS4.out.fz
    have vlt := HPS4.out.lt
    clear hus hf hc hk hS3
    refine hK.out _ _ (Or.inr hS4) ?_
    clear hK K'
    try simp only [Act.put,j1,j2,j3,j4,j5,j6]
    refine tW ?_ 8 rfl ?_ ?_; rotate_left
    · intro w' hSw; go_simp; try rfl
    try simp only [Act.put,j1,j2,j3,j4,j5,j6]
    refine tW ?_ 9 rfl ?_ ?_; rotate_left
    · intro w' hSw; go_simp; try rfl
    try simp only [Act.put,j1,j2,j3,j4,j5,j6]
    refine wpAnyG_one (i := 10) (by kernel_rfl) rfl hS4 (fun K' hK => ?_)
    simp only [j1,j2,j3]
    go_simp
    refine hK.out _ _ (Or.inl rfl) ?_
    clear hK K'
    try simp only [Act.put,j1,j2,j3,j4,j5,j6]
    refine wpAnyG_done (by kernel_rfl) ?_ _
    go_wp2_with fail
    refine bodyPost_end (v := .tuple #[]) (by simp [results, Try.results91]) rfl ?_
    have hq : QS X lo p ap cp us a4 c4 (w4.setCell ⟨X, 5, none⟩ (.slice a4 us.length c4)) := QS.list HPS4.out HP.out.lo rfl v_5
    refine ⟨rfl, ap, cp, us, a4, c4, hq, by rw [HUS.out]; simp, ?_⟩
    have hc : Ch (fun k => k = X ∨ k ∈ blkOf al) w w4 := (Ch.of_below HB1.out).trans ((Ch.of_below (M := fun k => k = X ∨ k ∈ blkOf al) HB2.out).trans HC4.out (fun i hi => .inl (.inr hi))) (fun i hi => .inl hi)
    exact HP.out.below (hc.setCell (p := ⟨X, 5, none⟩) (.inl (.inl rfl)) _)
  have g0 : ((A.args.length : Int) == 0) = false := beq_eq_false_iff_ne.2 (by omega)
  go_upto_region 3 with fail
  have HB1 : Hid (Below w.heap.size w (w.alloc (.cells #[.int .i64 A.kind, .int .i64 A.n, .bool A.priv, .slice aa A.args.length ca, .string A.text] 87))) := Lib.hid (by repeat (first | (with_reducible exact Below.refl _ _) | (with_reducible refine Below.alloc ?_ ?_ _; rotate_left; ((try simp) <;> (try omega)))))
  have HOW : Hid (actOwn lo (w.alloc (.cells #[.int .i64 A.kind, .int .i64 A.n, .bool A.priv, .slice aa A.args.length ca, .string A.text] 87)) ⟨A, aa, ca⟩ ∧ ∀ k ∈ blkOf aa, k ≠ X ∧ k ∉ blkOf ap ∧ k ∉ acB al L) := Lib.hid (by
    refine ⟨?_, HD.out⟩
    exact actL.ch (M := fun _ => False) (r := ⟨A, aa, ca⟩) HA.out (Ch.refl.alloc _) (fun _ _ h => h))
  have z_0 : (w.alloc (.cells #[.int .i64 A.kind, .int .i64 A.n, .bool A.priv, .slice aa A.args.length ca, .string A.text] 87)).cell? ⟨w.heap.size, 0, none⟩ = some (.int .i64 A.kind) := by simp [go_sem]
  have z_1 : (w.alloc (.cells #[.int .i64 A.kind, .int .i64 A.n, .bool A.priv, .slice aa A.args.length ca, .string A.text] 87)).cell? ⟨w.heap.size, 1, none⟩ = some (.int .i64 A.n) := by simp [go_sem]
  have z_2 : (w.alloc (.cells #[.int .i64 A.kind, .int .i64 A.n, .bool A.priv, .slice aa A.args.length ca, .string A.text] 87)).cell? ⟨w.heap.size, 2, none⟩ = some (.bool A.priv) := by simp [go_sem]
  have z_3 : (w.alloc (.cells #[.int .i64 A.kind, .int .i64 A.n, .bool A.priv, .slice aa A.args.length ca, .string A.text] 87)).cell? ⟨w.heap.size, 3, none⟩ = some (.slice aa A.args.length ca) := by simp [go_sem]
  have z_4 : (w.alloc (.cells #[.int .i64 A.kind, .int .i64 A.n, .bool A.priv, .slice aa A.args.length ca, .string A.text] 87)).cell? ⟨w.heap.size, 4, none⟩ = some (.string A.text) := by simp [go_sem]
  obtain ⟨x1, hx1⟩ : ∃ x, (w.alloc (.cells #[.int .i64 A.kind, .int .i64 A.n, .bool A.priv, .slice aa A.args.length ca, .string A.text] 87)) = x := ⟨_, rfl⟩
  rw [hx1] at HB1 HOW z_0 z_1 z_2 z_3 z_4 ⊢
  clear hx1
  have hz1 := HB1.out.size
  have hzH : w.heap.size < x1.heap.size := by
    rcases Nat.lt_or_ge w.heap.size x1.heap.size with h | h
    · exact h
    · have : x1.cell? ⟨w.heap.size, 0, none⟩ = none := by simp [World.cell?, Array.getElem?_eq_none h]
      rw [this] at z_0; cases z_0
  have HP1 := Lib.hid (HP.out.keep HB1.out)
  have y_5 := HP1.out.c5
  have yf := HP1.out.ps.fz
  have ylt := HP1.out.ps.lt
  have hS0 : x1.cell? ⟨X, 5, none⟩ = some (.slice al L.length cl) ∧ x1.cell? ⟨w.heap.size, 0, none⟩ = some (.int .i64 A.kind) ∧ x1.cell? ⟨w.heap.size, 1, none⟩ = some (.int .i64 A.n) ∧ x1.cell? ⟨w.heap.size, 2, none⟩ = some (.bool A.priv) ∧ x1.cell? ⟨w.heap.size, 3, none⟩ = some (.slice aa A.args.length ca) ∧ x1.cell? ⟨w.heap.size, 4, none⟩ = some (.string A.text) := ⟨y_5, z_0, z_1, z_2, z_3, z_4⟩
  refine wp_region_G (fun w' => w'.cell? ⟨X, 5, none⟩ = some (.slice al L.length cl) ∧ w'.cell? ⟨w.heap.size, 0, none⟩ = some (.int .i64 A.kind) ∧ w'.cell? ⟨w.heap.size, 1, none⟩ = some (.int .i64 A.n) ∧ w'.cell? ⟨w.heap.size, 2, none⟩ = some (.bool A.priv) ∧ w'.cell? ⟨w.heap.size, 3, none⟩ = some (.slice aa A.args.length ca) ∧ w'.cell? ⟨w.heap.size, 4, none⟩ = some (.string A.text)) (fun i => i == 10) (by kernel_rfl) hS0 ?_
  refine tW ?_ 0 rfl ?_ ?_; rotate_left
  · intro w' hSw; go_simp; try rfl
  try simp only [Act.put,j1,j2,j3,j4,j5,j6]
  refine tW ?_ 1 rfl ?_ ?_; rotate_left
  · intro w' hSw; go_simp; try rfl
  try simp only [Act.put,j1,j2,j3,j4,j5,j6]
  refine tW ?_ 2 rfl ?_ ?_; rotate_left
  · intro w' hSw; go_simp; try rfl
  try simp only [Act.put,j1,j2,j3,j4,j5,j6]
  refine tW ?_ 3 rfl ?_ ?_; rotate_left
  · intro w' hSw; go_simp; try rfl
  try simp only [Act.put,j1,j2,j3,j4,j5,j6]
  refine tL ?_ 4 rfl hS0 ?_ ?_; rotate_left
  · intro w' hSw; obtain ⟨s0, s1, s2, s3, s4, s5⟩ := hSw; go_simp; try rfl
  try simp only [Act.put,j1,j2,j3,j4,j5,j6]
  refine tL ?_ 5 rfl hS0 ?_ ?_; rotate_left
  · intro w' hSw; obtain ⟨s0, s1, s2, s3, s4, s5⟩ := hSw; go_simp; try rfl
  try simp only [Act.put,j1,j2,j3,j4,j5,j6]
  refine wpAnyG_one (i := 6) (by kernel_rfl) rfl hS0 (fun K' hK => ?_)
  simp only [j1,j2,j3]
  go_simp
  obtain ⟨x2, hx2⟩ : ∃ x, (x1.alloc (.cells #[.int .i64 A.kind, .int .i64 A.n, .bool A.priv, .slice aa A.args.length ca, .string A.text] 87)).drew = x := ⟨_, rfl⟩
  have hx2' : x1.drew.alloc (.cells #[.int .i64 A.kind, .int .i64 A.n, .bool A.priv, .slice aa A.args.length ca, .string A.text] 87) = x2 := by rw [← hx2]; rfl
  have HB2 : Hid (Below x1.heap.size x1 x2) := Lib.hid (by rw [← hx2]; exact ((Below.refl _ _).alloc (Nat.le_refl _) _).drew)
  have hsrc : Src Try.prog 5 78 (.slice (some ⟨x1.heap.size, 0, none⟩) 1 1) [(⟨A, aa, ca⟩ : ActA)].length ([(⟨A, aa, ca⟩ : ActA)].flatMap actE) x2 := by
    rw [← hx2']
    exact Src.ofBox (enc := actE) Try.underlying78 (fun _ => rfl) actOne (⟨A, aa, ca⟩ : ActA) _ _ (by simp [actE]) _ (by simp)
  have HSRC := Lib.hid hsrc
  have HP2 := Lib.hid (HP1.out.keep HB2.out)
  have HOW2 : Hid (actOwn lo x2 ⟨A, aa, ca⟩) := Lib.hid (actL.ch (M := fun _ => False) HOW.out.1 (Ch.of_below HB2.out) (fun _ _ h => h))
  have hz2 := HB2.out.size
  have hS1 := fun (p : Addr) (hp : p.block < x1.heap.size) => HB2.out.cell (p := p) hp
  have hS2 : x2.cell? ⟨X, 5, none⟩ = some (.slice al L.length cl) ∧ x2.cell? ⟨w.heap.size, 0, none⟩ = some (.int .i64 A.kind) ∧ x2.cell? ⟨w.heap.size, 1, none⟩ = some (.int .i64 A.n) ∧ x2.cell? ⟨w.heap.size, 2, none⟩ = some (.bool A.priv) ∧ x2.cell? ⟨w.heap.size, 3, none⟩ = some (.slice aa A.args.length ca) ∧ x2.cell? ⟨w.heap.size, 4, none⟩ = some (.string A.text) := ⟨(hS1 ⟨X, 5, none⟩ ylt).trans y_5, (hS1 ⟨w.heap.size, 0, none⟩ hzH).trans z_0, (hS1 ⟨w.heap.size, 1, none⟩ hzH).trans z_1, (hS1 ⟨w.heap.size, 2, none⟩ hzH).trans z_2, (hS1 ⟨w.heap.size, 3, none⟩ hzH).trans z_3, (hS1 ⟨w.heap.size, 4, none⟩ hzH).trans z_4⟩
  clear hsrc hx2' hS1
  rw [hx2]
  clear hx2
  refine hK.out _ _ (Or.inr hS2) ?_
  clear hK K'
  try simp only [Act.put,j1,j2,j3,j4,j5,j6]
  refine wpAnyG_one (i := 7) (by kernel_rfl) rfl hS2 (fun K' hK => ?_)
  simp only [j1,j2,j3]
  rw [if_pos (by rfl)]
  refine step_append_ch (.tmp 14) (.tmp 16) 78 78 lo 87 iA (.agg #[.int .i64 0, .int .i64 0, .bool false, .slice none 0 0, .string ⟨#[]⟩]) 5 64 Try.underlying78 hA hA0 hA1 hA2 rfl (by decide) al L.length cl L HP2.out.ps.ro.row (.slice (some ⟨x1.heap.size, 0, none⟩) 1 1) [(⟨A, aa, ca⟩ : ActA)] HSRC.out (by simp; omega) (by omega) ?_ ?_ ?_ ?_
  · rfl
  · rfl
  · rfl
  intro a4 c4 w4 us hus hf hc hk
  have HUS := hus
  have HF := Lib.hid hf
  have HC4 := Lib.hid hc
  have HK := Lib.hid hk
  have hHal : ¬ w.heap.size ∈ blkOf al := fun hb => by
    have := (HP.out.ps.ro.bd actL w.heap.size (by simp [roB, hb])).2
    omega
  have hXal : ¬ X ∈ blkOf al := fun hb => HP.out.ps.nB (by rw [List.mem_append]; right; simp [roB, hb])
  have hS3 := fun (p : Addr) (hp : p.block < x2.heap.size) (hd : ¬ p.block ∈ blkOf al) => HC4.out.cell (p := p) hp hd
  have hS4 : w4.cell? ⟨X, 5, none⟩ = some (.slice al L.length cl) ∧ w4.cell? ⟨w.heap.size, 0, none⟩ = some (.int .i64 A.kind) ∧ w4.cell? ⟨w.heap.size, 1, none⟩ = some (.int .i64 A.n) ∧ w4.cell? ⟨w.heap.size, 2, none⟩ = some (.bool A.priv) ∧ w4.cell? ⟨w.heap.size, 3, none⟩ = some (.slice aa A.args.length ca) ∧ w4.cell? ⟨w.heap.size, 4, none⟩ = some (.string A.text) := ⟨(hS3 ⟨X, 5, none⟩ (by show X < _; omega) hXal).trans hS2.1, (hS3 ⟨w.heap.size, 0, none⟩ (by show w.heap.size < _; omega) hHal).trans hS2.2.1, (hS3 ⟨w.heap.size, 1, none⟩ (by show w.heap.size < _; omega) hHal).trans hS2.2.2.1, (hS3 ⟨w.heap.size, 2, none⟩ (by show w.heap.size < _; omega) hHal).trans hS2.2.2.2.1, (hS3 ⟨w.heap.size, 3, none⟩ (by show w.heap.size < _; omega) hHal).trans hS2.2.2.2.2.1, (hS3 ⟨w.heap.size, 4, none⟩ (by show w.heap.size < _; omega) hHal).trans hS2.2.2.2.2.2⟩
  have HPS4 : Hid (PS X lo p ap cp us a4 c4 w4) := Lib.hid (HP2.out.ps.pushX (x := ⟨A, aa, ca⟩) HOW2.out HOW.out.2 HUS.out HF.out HC4.out HK.out)
  have v_5 := hS4.1
  have vf := HPS4.out.fz
  have vlt := HPS4.out.lt
  clear hus hf hc hk hS3
  refine hK.out _ _ (Or.inr hS4) ?_
  clear hK K'
  try simp only [Act.put,j1,j2,j3,j4,j5,j6]
  refine tW ?_ 8 rfl ?_ ?_; rotate_left
  · intro w' hSw; go_simp; try rfl
  try simp only [Act.put,j1,j2,j3,j4,j5,j6]
  refine tW ?_ 9 rfl ?_ ?_; rotate_left
  · intro w' hSw; go_simp; try rfl
  try simp only [Act.put,j1,j2,j3,j4,j5,j6]
  refine wpAnyG_one (i := 10) (by kernel_rfl) rfl hS4 (fun K' hK => ?_)
  simp only [j1,j2,j3]
  go_simp
  refine hK.out _ _ (Or.inl rfl) ?_
  clear hK K'
  try simp only [Act.put,j1,j2,j3,j4,j5,j6]
  refine wpAnyG_done (by kernel_rfl) ?_ _
  go_wp2_with fail
  refine bodyPost_end (v := .tuple #[]) (by simp [results, Try.results91]) rfl ?_
  have hq : QS X lo p ap cp us a4 c4 (w4.setCell ⟨X, 5, none⟩ (.slice a4 us.length c4)) := QS.list HPS4.out HP.out.lo rfl v_5
  refine ⟨rfl, ap, cp, us, a4, c4, hq, by rw [HUS.out]; simp, ?_⟩
  have hc : Ch (fun k => k = X ∨ k ∈ blkOf al) w w4 := (Ch.of_below HB1.out).trans ((Ch.of_below (M := fun k => k = X ∨ k ∈ blkOf al) HB2.out).trans HC4.out (fun i hi => .inl (.inr hi))) (fun i hi => .inl hi)
  exact HP.out.below (hc.setCell (p := ⟨X, 5, none⟩) (.inl (.inl rfl)) _)
end
section
open Go.RowKit
theorem control_r (n : Int) (w : World) : Calls Try.prog 92 #[.int .i64 n] w fun e w' => e = .returned (.bool (ctlI n)) ∧ w = w' := by
  have hc : ctlI n = (n == 7 || n == 8 || n == 9 || n == 10 || n == 13) := by
    unfold ctlI inB
    rw [Bool.eq_iff_iff]
    simp only [Bool.or_eq_true, Bool.and_eq_true, decide_eq_true_eq, beq_iff_eq]
    omega
  have HC := Lib.hid hc
  clear hc
  cases q1 : (n == 7) <;> cases q2 : (n == 8) <;> cases q3 : (n == 9) <;> cases q4 : (n == 10) <;> cases q5 : (n == 13)
  all_goals
    have HC2 := HC.out
    rw [q1, q2, q3, q4, q5] at HC2
    have HC3 := Lib.hid HC2
    clear HC2 HC
    go_enter Try.func92, Try.ntmps92
    go_wp2_with fail
    go_ret
    exact ⟨ret_b (by rw [HC3.out]; rfl), rfl⟩
end
section
open Go.RowKit
def szR (b : Nat) : Nat := if b < 128 then 1 else utfLen b
theorem size_r (s : ByteArray) (w : World) (h : 0 < s.size) : Calls Try.prog 94 #[.string s] w fun e w' => e = .returned (.int .i64 (szR (s[0]'h).toNat : Nat)) ∧ w = w' := by
  have hne : s.toList.isEmpty = false := notEmpty (by omega)
  obtain ⟨x, hx⟩ : ∃ x, s[0]'h = x := ⟨_, rfl⟩
  have h256 : x.toNat < 256 := x.toNat_lt
  rw [hx]
  by_cases c0 : x.toNat < 128
  · have HR : Hid (szR x.toNat = 1) := Lib.hid (by unfold szR; rw [if_pos c0])
    go_enter Try.func94, Try.ntmps94
    go_wp2_with fail
    go_ret
    exact ⟨ret_i (by rw [HR.out]; rfl), rfl⟩
  obtain ⟨v1, h1⟩ : ∃ v, inB (x.toNat : Int) 194 223 = v := ⟨_, rfl⟩
  obtain ⟨v2, h2⟩ : ∃ v, inB (x.toNat : Int) 224 239 = v := ⟨_, rfl⟩
  obtain ⟨v3, h3⟩ : ∃ v, inB (x.toNat : Int) 240 244 = v := ⟨_, rfl⟩
  have H1 := Lib.hid h1
  have H2 := Lib.hid h2
  have H3 := Lib.hid h3
  have HR : Hid ((szR x.toNat : Int) = if v1 then 2 else if v2 then 3 else if v3 then 4 else 0) := Lib.hid (by
    subst h1 h2 h3
    unfold szR utfLen inB
    rw [if_neg c0]
    simp only [Bool.and_eq_true, decide_eq_true_eq]
    (repeat' split) <;> omega)
  clear h1 h2 h3
  cases v1
  all_goals cases v2
  all_goals cases v3
  all_goals
    go_enter Try.func94, Try.ntmps94
    go_wp2_with (go_at_call 36; refine (l01In_c _ _ _ _).mono ?_; (first | rw [H1.out] | rw [H2.out] | rw [H3.out]); rintro e w' ⟨rfl, rfl⟩)
    go_ret
    exact ⟨ret_i (by rw [HR.out]; rfl), rfl⟩
end
section
open Go.RowKit
section
variable {X lo : Nat} {p p' : PV} {ap ap' al : Option Addr} {cp cp' cl : Nat} {L us : List ActA} {w w' w1 : World} {R : PV × List AV} {e : Ending}
theorem QR.stay (h : QS X lo p' ap' cp' L al cl w') (h0 : QS X lo p ap cp L al cl w) (hc : Ch (fun k => k = X ∨ k ∈ blkOf al) w w') (hR : R = (p', [])) : QR X lo R L (.returned (.tuple #[])) w w' := by
  subst hR
  exact ⟨rfl, ap', cp', L, al, cl, h, by simp, h0.below hc⟩
theorem QR.only (h : QS X lo p' ap' cp' L al cl w') (h0 : QS X lo p ap cp L al cl w) (hc : Ch (fun k => k = X) w w') (hR : R = (p', [])) : QR X lo R L (.returned (.tuple #[])) w w' :=
  QR.stay h h0 (hc.mono (fun i hi => .inl (.inl hi))) hR
theorem QR.base (h : QR X lo R L e w1 w') (hb : Below lo w w1) : QR X lo R L e w w' := by
  obtain ⟨h1, ap', cp', L', al', cl', h2, h3, h4⟩ := h
  exact ⟨h1, ap', cp', L', al', cl', h2, h3, hb.trans h4⟩
theorem QR.after {acts : List AV} (h : QR X lo R us e w1 w') (hb : Below lo w w1) (hu : us.map (·.A) = L.map (·.A) ++ acts) : QR X lo (R.1, acts ++ R.2) L e w w' := by
  obtain ⟨h1, ap', cp', L', al', cl', h2, h3, h4⟩ := h
  exact ⟨h1, ap', cp', L', al', cl', h2, by rw [h3, hu]; simp, hb.trans h4⟩
theorem QS.below1 (h : QS X lo p ap cp L al cl w) (hc : Ch (fun k => k = X) w w') : Below lo w w' := h.below (hc.mono (fun i hi => .inl (.inl hi)))
theorem QS.cells (h : QS X lo p ap cp L al cl w) (hc : Ch (fun k => k = X) w w') (c0 : w'.cell? ⟨X, 0, none⟩ = some (.int .i64 p'.state)) (c1 : w'.cell? ⟨X, 1, none⟩ = some (.slice ap' p'.args.length cp')) (c2 : w'.cell? ⟨X, 2, none⟩ = some (.bool p'.priv))
    (c3 : w'.cell? ⟨X, 3, none⟩ = some (.string p'.text)) (c4 : w'.cell? ⟨X, 4, none⟩ = some (.string p'.utf)) (c5 : w'.cell? ⟨X, 5, none⟩ = some (.slice al L.length cl)) (fz : ∀ o, w'.frozen? ⟨X, o, none⟩ = false) (ha : (ap' = ap ∧ cp' = cp ∧ p'.args = p.args) ∨ (ap' = none ∧ cp' = 0 ∧ p'.args = [])) : QS X lo p' ap' cp' L al cl w' :=
  ⟨h.ps.cells hc c0 c1 c2 c3 c4 fz ha, c5, h.lo⟩
end
theorem size1_r (b : UInt8) (u : Nat) (w : World) (h : szR b.toNat = u) : Calls Try.prog 94 #[.string ⟨#[b]⟩] w fun e w' => e = .returned (.int .i64 u) ∧ w = w' := by
  subst h
  exact size_r ⟨#[b]⟩ w (by show 0 < 1; omega)
theorem skip_r (X lo : Nat) (ap al : Option Addr) (cp cl : Nat) (L : List ActA) (b : UInt8) (w : World) (h : QS X lo (pst 3) ap cp L al cl w) (hL : L.length ≤ 1048576) :
    Calls Try.prog 77 #[.pointer (some ⟨X, 0, none⟩), .int .i64 b.toNat] w (fun e w' => QR X lo (sstep (pst 3) b) L e w w') := by
  have HP := Lib.hid h
  have k_0 := h.ps.c0
  have k_1 := h.ps.c1
  have k_2 := h.ps.c2
  have k_3 := h.ps.c3
  have k_4 := h.ps.c4
  have k_5 := h.c5
  have kf := h.ps.fz
  have klt := h.ps.lt
  have hlo : lo ≤ w.heap.size := by have := h.lo; omega
  have h256 : b.toNat < 256 := b.toNat_lt
  clear h
  obtain ⟨Gr, hG⟩ : ∃ G, sstep (pst 3) b = G := ⟨_, rfl⟩
  have HGG := Lib.hid hG
  rw [hG]
  clear hG
  obtain ⟨n, hn⟩ : ∃ n, b.toNat = n := ⟨_, rfl⟩
  rw [hn] at h256 ⊢
  have HN := Lib.hid hn
  clear hn
  by_cases h27 : n = 27
  case pos =>
    have HR : Hid (Gr = (pst 1, [])) := Lib.hid (by rw [← HGG.out]; exact ss1 HN.out h27)
    have g27 : ((n : Int) == 27) = true := by subst h27; rfl
    clear h27
    go_enter Try.func77, Try.ntmps77
    go_wp2_with fail
    refine bodyPost_end (v := .tuple #[]) (by simp [results, Try.results77]) rfl ?_
    refine QR.only (p' := pst 1) (HP.out.cells ?hc ?_ ?_ ?_ ?_ ?_ ?_ ?_ (.inl ⟨rfl, rfl, rfl⟩)) HP.out ?hc HR.out
    case hc => repeat (first | (with_reducible exact Ch.refl) | (with_reducible refine Ch.alloc ?_ _) | (with_reducible refine Ch.drew ?_) | (with_reducible refine Ch.setB ?_ _ _))
    all_goals first | (intro o; simp [go_sem, kf, klt]; done) | (simp [go_sem, k_0, k_1, k_2, k_3, k_4, k_5, klt, pst, pz]; done)
  have g27 : ((n : Int) == 27) = false := beq_eq_false_iff_ne.2 (by omega)
  obtain ⟨v, hv⟩ : ∃ v, inB (n : Int) 64 126 = v := ⟨_, rfl⟩
  have HV := Lib.hid hv
  clear hv
  cases v
  case false =>
    have HR : Hid (Gr = (pst 3, [])) := Lib.hid (by rw [← HGG.out]; exact ss3 HN.out h27 (by have := HV.out; simp [inB] at this; omega))
    go_enter Try.func77, Try.ntmps77
    go_wp2_with (go_at_call 36; refine (l01In_c _ _ _ _).mono ?_; rw [HV.out]; rintro e w' ⟨rfl, rfl⟩)
    refine bodyPost_end (v := .tuple #[]) (by simp [results, Try.results77]) rfl ?_
    exact QR.only HP.out HP.out Ch.refl HR.out
  have HR : Hid (Gr = (pz, [])) := Lib.hid (by rw [← HGG.out]; exact ss2 HN.out (by have := HV.out; simp [inB] at this; omega))
  go_enter Try.func77, Try.ntmps77
  go_wp2_with (go_at_call 36; refine (l01In_c _ _ _ _).mono ?_; rw [HV.out]; rintro e w' ⟨rfl, rfl⟩)
  refine (ground_r X lo _ ap al cp cl L _ HP.out).mono ?_
  rintro e w1 ⟨rfl, g, hg, hq, hc⟩
  have HQ := Lib.hid hq
  have HC := Lib.hid hc
  clear hq hc
  go_wp2_with fail
  refine bodyPost_end (v := .tuple #[]) (by simp [results, Try.results77]) rfl ?_
  exact QR.only HQ.out HP.out HC.out HR.out
theorem plain_r (X lo : Nat) (ap al : Option Addr) (cp cl : Nat) (L : List ActA) (b : UInt8) (w : World) (h : QS X lo pz ap cp L al cl w) (hL : L.length ≤ 1048576) :
    Calls Try.prog 81 #[.pointer (some ⟨X, 0, none⟩), .int .i64 b.toNat] w (fun e w' => QR X lo (gstep b) L e w w') := by
  have HP := Lib.hid h
  have k_0 := h.ps.c0
  have k_1 := h.ps.c1
  have k_2 := h.ps.c2
  have k_3 := h.ps.c3
  have k_4 := h.ps.c4
  have k_5 := h.c5
  have kf := h.ps.fz
  have klt := h.ps.lt
  have hlo : lo ≤ w.heap.size := by have := h.lo; omega
  have h256 : b.toNat < 256 := b.toNat_lt
  clear h
  obtain ⟨Gr, hG⟩ : ∃ G, gstep b = G := ⟨_, rfl⟩
  have HGG := Lib.hid hG
  rw [hG]
  clear hG
  obtain ⟨n, hn⟩ : ∃ n, b.toNat = n := ⟨_, rfl⟩
  rw [hn] at h256 ⊢
  have HN := Lib.hid hn
  clear hn
  by_cases h27 : n = 27
  case pos =>
    have HR : Hid (Gr = (pst 1, [])) := Lib.hid (by rw [← HGG.out]; exact gs1 (HN.out.trans h27))
    have g27 : ((n : Int) == 27) = true := by subst h27; rfl
    clear h27
    go_enter Try.func81, Try.ntmps81
    go_wp2_with fail
    refine bodyPost_end (v := .tuple #[]) (by simp [results, Try.results81]) rfl ?_
    refine QR.only (p' := pst 1) (HP.out.cells ?hc ?_ ?_ ?_ ?_ ?_ ?_ ?_ (.inl ⟨rfl, rfl, rfl⟩)) HP.out ?hc HR.out
    case hc => repeat (first | (with_reducible exact Ch.refl) | (with_reducible refine Ch.alloc ?_ _) | (with_reducible refine Ch.drew ?_) | (with_reducible refine Ch.setB ?_ _ _))
    all_goals first | (intro o; simp [go_sem, kf, klt]; done) | (simp [go_sem, k_0, k_1, k_2, k_3, k_4, k_5, klt, pst, pz]; done)
  have g27 : ((n : Int) == 27) = false := beq_eq_false_iff_ne.2 (by omega)
  obtain ⟨c, hc⟩ : ∃ c, ctl n = c := ⟨_, rfl⟩
  have HCC := Lib.hid hc
  have HCT : Hid (ctlI (n : Int) = c) := Lib.hid (by rw [ctl_eq]; exact hc)
  clear hc
  have hne : ¬ b.toNat = 27 := by rw [HN.out]; exact h27
  have HNE := Lib.hid hne
  clear hne
  cases c
  case true =>
    have HR : Hid (Gr = (pz, [⟨2, n, false, [], e0⟩])) := Lib.hid (by rw [← HGG.out, ← HN.out]; exact gs2 HNE.out (by rw [HN.out]; exact HCC.out))
    go_enter Try.func81, Try.ntmps81
    go_wp2_with (go_at_call 92; refine (control_r _ _).mono ?_; rw [HCT.out]; rintro e w' ⟨rfl, rfl⟩)
    refine (tell_r X lo pz ap al none cp cl 0 L ⟨2, n, false, [], e0⟩ _ HP.out (FreshIn.nil _ _ _ _ _ _) (by simp [blkOf]) hL (by simp)).mono ?_
    rintro e w1 hq
    have HQ := Lib.hid hq
    obtain ⟨rfl, _⟩ := hq
    go_wp2_with fail
    refine bodyPost_end (v := .tuple #[]) (by simp [results, Try.results81]) rfl ?_
    rw [HR.out]
    exact HQ.out
  obtain ⟨v, hv⟩ : ∃ v, inB (n : Int) 32 126 = v := ⟨_, rfl⟩
  have HV := Lib.hid hv
  clear hv
  cases v
  case true =>
    have HR : Hid (Gr = (pz, [pr n])) := Lib.hid (by rw [← HGG.out, ← HN.out]; exact gs3 HNE.out (by rw [HN.out]; exact HCC.out) (by rw [HN.out]; have := HV.out; simp [inB] at this; omega))
    go_enter Try.func81, Try.ntmps81
    go_wp2_with (first | (go_at_call 92; refine (control_r _ _).mono ?_; rw [HCT.out]; rintro e w' ⟨rfl, rfl⟩) | (go_at_call 36; refine (l01In_c _ _ _ _).mono ?_; rw [HV.out]; rintro e w' ⟨rfl, rfl⟩))
    refine (tell_r X lo pz ap al none cp cl 0 L ⟨1, n, false, [], e0⟩ _ HP.out (FreshIn.nil _ _ _ _ _ _) (by simp [blkOf]) hL (by simp)).mono ?_
    rintro e w1 hq
    have HQ := Lib.hid hq
    obtain ⟨rfl, _⟩ := hq
    go_wp2_with fail
    refine bodyPost_end (v := .tuple #[]) (by simp [results, Try.results81]) rfl ?_
    rw [HR.out]
    exact HQ.out
  have hnv : ¬ (32 ≤ n ∧ n ≤ 126) := by have := HV.out; simp [inB] at this; omega
  by_cases h128 : n < 128
  case pos =>
    have HR : Hid (Gr = (pz, [])) := Lib.hid (by rw [← HGG.out]; exact gs4 HNE.out (by rw [HN.out]; exact HCC.out) (by rw [HN.out]; exact hnv) (by rw [HN.out]; exact h128))
    have g128 : decide ((n : Int) < 128) = true := decide_eq_true (by omega)
    have g128' : (n : Int) < 128 := by omega
    go_enter Try.func81, Try.ntmps81
    go_wp2_with (first | (go_at_call 92; refine (control_r _ _).mono ?_; rw [HCT.out]; rintro e w' ⟨rfl, rfl⟩) | (go_at_call 36; refine (l01In_c _ _ _ _).mono ?_; rw [HV.out]; rintro e w' ⟨rfl, rfl⟩))
    refine bodyPost_end (v := .tuple #[]) (by simp [results, Try.results81]) rfl ?_
    exact QR.only HP.out HP.out Ch.refl HR.out
  have g128 : ¬ (n : Int) < 128 := by omega
  have hw8 : IntKind.u8.wrap (n : Int) = n := u8_in (by omega) (by omega)
  have hcv := conv1 w b n HN.out
  by_cases hu : 0 < utfLen n
  case pos =>
    have HR : Hid (Gr = (⟨6, [], false, e0, ⟨#[b]⟩⟩, [])) := Lib.hid (by rw [← HGG.out]; exact gs5 (by rw [HN.out]; omega) (by rw [HN.out]; exact hu))
    obtain ⟨u, hu2⟩ : ∃ u, utfLen n = u := ⟨_, rfl⟩
    have HSZ : Hid (szR b.toNat = u) := Lib.hid (by rw [HN.out]; unfold szR; rw [if_neg h128]; exact hu2)
    have hu1 : (1 : Int) < (u : Int) := by have := utfLen_two hu; omega
    clear hu hu2
    go_enter Try.func81, Try.ntmps81
    go_upto_region 10 with (first | (go_at_call 92; refine (control_r _ _).mono ?_; rw [HCT.out]; rintro e w' ⟨rfl, rfl⟩) | (go_at_call 36; refine (l01In_c _ _ _ _).mono ?_; rw [HV.out]; rintro e w' ⟨rfl, rfl⟩) | (go_at_call 94; refine (size1_r b _ _ HSZ.out).mono ?_; rintro e w' ⟨rfl, rfl⟩))
    clear hcv
    obtain ⟨x, hx⟩ : ∃ x, (w.setCell ⟨X, 0, none⟩ (.int .i64 6)).alloc (.cells #[.int .u8 n] 5) = x := ⟨_, rfl⟩
    have HCX : Hid (Ch (fun k => k = X) w x) := Lib.hid (by rw [← hx]; exact (Ch.set1 _ _ _ _).alloc _)
    have x_0 : x.cell? ⟨X, 0, none⟩ = some (.int .i64 6) := by rw [← hx]; simp [go_sem, k_0, klt]
    have x_1 : x.cell? ⟨X, 1, none⟩ = some (.slice ap 0 cp) := by rw [← hx]; simp [go_sem, k_1, klt, pz]
    have x_2 : x.cell? ⟨X, 2, none⟩ = some (.bool false) := by rw [← hx]; simp [go_sem, k_2, klt, pz]
    have x_3 : x.cell? ⟨X, 3, none⟩ = some (.string e0) := by rw [← hx]; simp [go_sem, k_3, klt, pz]
    have x_4 : x.cell? ⟨X, 4, none⟩ = some (.string e0) := by rw [← hx]; simp [go_sem, k_4, klt, pz]
    have x_5 : x.cell? ⟨X, 5, none⟩ = some (.slice al L.length cl) := by rw [← hx]; simp [go_sem, k_5, klt]
    have xf : ∀ o, x.frozen? ⟨X, o, none⟩ = false := by intro o; rw [← hx]; simp [go_sem, kf, klt]
    have xlt := Nat.lt_of_lt_of_le klt HCX.out.size
    rw [hx]
    clear hx
    have hcx := conv1 x b n HN.out
    go_wp2_with fail
    clear hcx
    refine bodyPost_end (v := .tuple #[]) (by simp [results, Try.results81]) rfl ?_
    refine QR.only (p' := ⟨6, [], false, e0, ⟨#[b]⟩⟩) (HP.out.cells (HCX.out.trans ?hc (fun i hi => .inl hi)) ?_ ?_ ?_ ?_ ?_ ?_ ?_ (.inl ⟨rfl, rfl, rfl⟩)) HP.out (HCX.out.trans ?hc (fun i hi => .inl hi)) HR.out
    case hc => repeat (first | (with_reducible exact Ch.refl) | (with_reducible refine Ch.alloc ?_ _) | (with_reducible refine Ch.drew ?_) | (with_reducible refine Ch.setB ?_ _ _))
    all_goals first | (intro o; simp [go_sem, xf, xlt]; done) | (simp [go_sem, x_0, x_1, x_2, x_3, x_4, x_5, xlt]; done)
  have HR : Hid (Gr = (pz, [pr 65533])) := Lib.hid (by rw [← HGG.out]; exact gs6 (by rw [HN.out]; omega) (by rw [HN.out]; exact hu))
  have HSZ : Hid (szR b.toNat = 0) := Lib.hid (by rw [HN.out]; unfold szR; rw [if_neg h128]; omega)
  clear hu
  go_enter Try.func81, Try.ntmps81
  go_wp2_with (first | (go_at_call 92; refine (control_r _ _).mono ?_; rw [HCT.out]; rintro e w' ⟨rfl, rfl⟩) | (go_at_call 36; refine (l01In_c _ _ _ _).mono ?_; rw [HV.out]; rintro e w' ⟨rfl, rfl⟩) | (go_at_call 94; refine (size1_r b _ _ HSZ.out).mono ?_; rintro e w' ⟨rfl, rfl⟩))
  clear hcv
  refine (tell_r X lo pz ap al none cp cl 0 L ⟨1, 65533, false, [], e0⟩ _ (HP.out.keep ((Below.refl _ _).alloc (Nat.le_refl _) _)) (FreshIn.nil _ _ _ _ _ _) (by simp [blkOf]) hL (by simp)).mono ?_
  rintro e w1 hq
  have HQ := Lib.hid (hq.base ((Below.refl lo w).alloc hlo _))
  obtain ⟨rfl, _⟩ := hq
  go_wp2_with fail
  refine bodyPost_end (v := .tuple #[]) (by simp [results, Try.results81]) rfl ?_
  rw [HR.out]
  exact HQ.out
end
section
open Go.RowKit
theorem escape_r (X lo : Nat) (ap al : Option Addr) (cp cl : Nat) (L : List ActA) (b : UInt8) (w : World) (h : QS X lo (pst 1) ap cp L al cl w) (hL : L.length ≤ 1048576) :
    Calls Try.prog 75 #[.pointer (some ⟨X, 0, none⟩), .int .i64 b.toNat] w (fun e w' => QR X lo (estep b) L e w w') := by
  have HP := Lib.hid h
  have k_0 := h.ps.c0
  have k_1 := h.ps.c1
  have k_2 := h.ps.c2
  have k_3 := h.ps.c3
  have k_4 := h.ps.c4
  have k_5 := h.c5
  have kf := h.ps.fz
  have klt := h.ps.lt
  have hlo : lo ≤ w.heap.size := by have := h.lo; omega
  have h256 : b.toNat < 256 := b.toNat_lt
  clear h
  obtain ⟨Gr, hG⟩ : ∃ G, estep b = G := ⟨_, rfl⟩
  have HGG := Lib.hid hG
  rw [hG]
  clear hG
  obtain ⟨n, hn⟩ : ∃ n, b.toNat = n := ⟨_, rfl⟩
  rw [hn] at h256 ⊢
  have HN := Lib.hid hn
  clear hn
  by_cases h91 : n = 91
  case pos =>
    have HR : Hid (Gr = (⟨2, [-1], false, e0, e0⟩, [])) := Lib.hid (by rw [← HGG.out]; exact es1 HN.out h91)
    have g91 : ((n : Int) == 91) = true := by subst h91; rfl
    clear h91
    go_enter Try.func75, Try.ntmps75
    go_wp2_with fail
    refine bodyPost_end (v := .tuple #[]) (by simp [results, Try.results75]) rfl ?_
    refine QR.only (p' := ⟨2, [-1], false, e0, e0⟩) (ap' := some ⟨w.heap.size, 0, none⟩) (cp' := 1) ⟨HP.out.ps.cellsNew ?hc (Nat.le_refl _) (fresh_one _ _ _ _ (by simp [World.setCell]) (by simp [World.setCell]; omega)) ?_ ?_ ?_ ?_ ?_ ?_, ?_, HP.out.lo⟩ HP.out ?hc HR.out
    case hc => repeat (first | (with_reducible exact Ch.refl) | (with_reducible refine Ch.alloc ?_ _) | (with_reducible refine Ch.drew ?_) | (with_reducible refine Ch.setB ?_ _ _))
    all_goals first | (intro o; simp [go_sem, kf, klt]; done) | (simp [go_sem, k_0, k_1, k_2, k_3, k_4, k_5, klt, pst, pz]; done)
  have g91 : ((n : Int) == 91) = false := beq_eq_false_iff_ne.2 (by omega)
  by_cases h93 : n = 93
  case pos =>
    have HR : Hid (Gr = (pst 4, [])) := Lib.hid (by rw [← HGG.out]; exact es2 HN.out h93)
    have g93 : ((n : Int) == 93) = true := by subst h93; rfl
    clear h93
    go_enter Try.func75, Try.ntmps75
    go_wp2_with fail
    refine bodyPost_end (v := .tuple #[]) (by simp [results, Try.results75]) rfl ?_
    refine QR.only (p' := pst 4) (HP.out.cells ?hc ?_ ?_ ?_ ?_ ?_ ?_ ?_ (.inl ⟨rfl, rfl, rfl⟩)) HP.out ?hc HR.out
    case hc => repeat (first | (with_reducible exact Ch.refl) | (with_reducible refine Ch.alloc ?_ _) | (with_reducible refine Ch.drew ?_) | (with_reducible refine Ch.setB ?_ _ _))
    all_goals first | (intro o; simp [go_sem, kf, klt]; done) | (simp [go_sem, k_0, k_1, k_2, k_3, k_4, k_5, klt, pst, pz]; done)
  have g93 : ((n : Int) == 93) = false := beq_eq_false_iff_ne.2 (by omega)
  by_cases h27 : n = 27
  case pos =>
    have HR : Hid (Gr = (pst 1, [])) := Lib.hid (by rw [← HGG.out]; exact es3 HN.out h27)
    have g27 : ((n : Int) == 27) = true := by subst h27; rfl
    clear h27
    go_enter Try.func75, Try.ntmps75
    go_wp2_with fail
    refine bodyPost_end (v := .tuple #[]) (by simp [results, Try.results75]) rfl ?_
    exact QR.only HP.out HP.out Ch.refl HR.out
  have g27 : ((n : Int) == 27) = false := beq_eq_false_iff_ne.2 (by omega)
  obtain ⟨c, hc⟩ : ∃ c, esc n = c := ⟨_, rfl⟩
  have HCC := Lib.hid hc
  cases c
  case false =>
    have HR : Hid (Gr = (pz, [])) := Lib.hid (by rw [← HGG.out]; exact es5 HN.out h91 h93 h27 HCC.out)
    simp only [esc, Bool.or_eq_false_iff, beq_eq_false_iff_ne] at hc
    have q55 : ((n : Int) == 55) = false := beq_eq_false_iff_ne.2 (by omega)
    have q56 : ((n : Int) == 56) = false := beq_eq_false_iff_ne.2 (by omega)
    have q68 : ((n : Int) == 68) = false := beq_eq_false_iff_ne.2 (by omega)
    have q69 : ((n : Int) == 69) = false := beq_eq_false_iff_ne.2 (by omega)
    have q77 : ((n : Int) == 77) = false := beq_eq_false_iff_ne.2 (by omega)
    have q99 : ((n : Int) == 99) = false := beq_eq_false_iff_ne.2 (by omega)
    clear hc
    go_enter Try.func75, Try.ntmps75
    go_wp2_with fail
    refine (ground_r X lo _ ap al cp cl L _ HP.out).mono ?_
    rintro e w1 ⟨rfl, g, hg, hq, hc⟩
    have HQ := Lib.hid hq
    have HC := Lib.hid hc
    clear hq hc
    go_wp2_with fail
    refine bodyPost_end (v := .tuple #[]) (by simp [results, Try.results75]) rfl ?_
    exact QR.only HQ.out HP.out HC.out HR.out
  have HR : Hid (Gr = (pz, [⟨3, n, false, [], e0⟩])) := Lib.hid (by rw [← HGG.out]; exact es4 HN.out h91 h93 h27 HCC.out)
  simp only [esc, Bool.or_eq_true, beq_iff_eq] at hc
  have hcs : n = 55 ∨ n = 56 ∨ n = 68 ∨ n = 69 ∨ n = 77 ∨ n = 99 := by omega
  clear hc
  rcases hcs with hc | hc | hc | hc | hc | hc
  · have q55 : ((n : Int) == 55) = true := by rw [hc]; rfl
    have q56 : ((n : Int) == 56) = false := beq_eq_false_iff_ne.2 (by omega)
    have q68 : ((n : Int) == 68) = false := beq_eq_false_iff_ne.2 (by omega)
    have q69 : ((n : Int) == 69) = false := beq_eq_false_iff_ne.2 (by omega)
    have q77 : ((n : Int) == 77) = false := beq_eq_false_iff_ne.2 (by omega)
    have q99 : ((n : Int) == 99) = false := beq_eq_false_iff_ne.2 (by omega)
    clear hc
    go_enter Try.func75, Try.ntmps75
    go_wp2_with fail
    refine (ground_r X lo _ ap al cp cl L _ HP.out).mono ?_
    rintro e w1 ⟨rfl, g, hg, hq, hc⟩
    have HQ := Lib.hid hq
    have HC := Lib.hid hc
    clear hq hc
    go_wp2_with fail
    refine (tell_r X lo pz (some ⟨g, 0, none⟩) al none 0 cl 0 L ⟨3, n, false, [], e0⟩ _ HQ.out (FreshIn.nil _ _ _ _ _ _) (by simp [blkOf]) hL (by simp)).mono ?_
    rintro e w2 hq
    have HQ2 := Lib.hid (hq.base (HP.out.below1 HC.out))
    obtain ⟨rfl, _⟩ := hq
    go_wp2_with fail
    refine bodyPost_end (v := .tuple #[]) (by simp [results, Try.results75]) rfl ?_
    rw [HR.out]
    exact HQ2.out
  · have q55 : ((n : Int) == 55) = false := beq_eq_false_iff_ne.2 (by omega)
    have q56 : ((n : Int) == 56) = true := by rw [hc]; rfl
    have q68 : ((n : Int) == 68) = false := beq_eq_false_iff_ne.2 (by omega)
    have q69 : ((n : Int) == 69) = false := beq_eq_false_iff_ne.2 (by omega)
    have q77 : ((n : Int) == 77) = false := beq_eq_false_iff_ne.2 (by omega)
    have q99 : ((n : Int) == 99) = false := beq_eq_false_iff_ne.2 (by omega)
    clear hc
    go_enter Try.func75, Try.ntmps75
    go_wp2_with fail
    refine (ground_r X lo _ ap al cp cl L _ HP.out).mono ?_
    rintro e w1 ⟨rfl, g, hg, hq, hc⟩
    have HQ := Lib.hid hq
    have HC := Lib.hid hc
    clear hq hc
    go_wp2_with fail
    refine (tell_r X lo pz (some ⟨g, 0, none⟩) al none 0 cl 0 L ⟨3, n, false, [], e0⟩ _ HQ.out (FreshIn.nil _ _ _ _ _ _) (by simp [blkOf]) hL (by simp)).mono ?_
    rintro e w2 hq
    have HQ2 := Lib.hid (hq.base (HP.out.below1 HC.out))
    obtain ⟨rfl, _⟩ := hq
    go_wp2_with fail
    refine bodyPost_end (v := .tuple #[]) (by simp [results, Try.results75]) rfl ?_
    rw [HR.out]
    exact HQ2.out
  · have q55 : ((n : Int) == 55) = false := beq_eq_false_iff_ne.2 (by omega)
    have q56 : ((n : Int) == 56) = false := beq_eq_false_iff_ne.2 (by omega)
    have q68 : ((n : Int) == 68) = true := by rw [hc]; rfl
    have q69 : ((n : Int) == 69) = false := beq_eq_false_iff_ne.2 (by omega)
    have q77 : ((n : Int) == 77) = false := beq_eq_false_iff_ne.2 (by omega)
    have q99 : ((n : Int) == 99) = false := beq_eq_false_iff_ne.2 (by omega)
    clear hc
    go_enter Try.func75, Try.ntmps75
    go_wp2_with fail
    refine (ground_r X lo _ ap al cp cl L _ HP.out).mono ?_
    rintro e w1 ⟨rfl, g, hg, hq, hc⟩
    have HQ := Lib.hid hq
    have HC := Lib.hid hc
    clear hq hc
    go_wp2_with fail
    refine (tell_r X lo pz (some ⟨g, 0, none⟩) al none 0 cl 0 L ⟨3, n, false, [], e0⟩ _ HQ.out (FreshIn.nil _ _ _ _ _ _) (by simp [blkOf]) hL (by simp)).mono ?_
    rintro e w2 hq
    have HQ2 := Lib.hid (hq.base (HP.out.below1 HC.out))
    obtain ⟨rfl, _⟩ := hq
    go_wp2_with fail
    refine bodyPost_end (v := .tuple #[]) (by simp [results, Try.results75]) rfl ?_
    rw [HR.out]
    exact HQ2.out
  · have q55 : ((n : Int) == 55) = false := beq_eq_false_iff_ne.2 (by omega)
    have q56 : ((n : Int) == 56) = false := beq_eq_false_iff_ne.2 (by omega)
    have q68 : ((n : Int) == 68) = false := beq_eq_false_iff_ne.2 (by omega)
    have q69 : ((n : Int) == 69) = true := by rw [hc]; rfl
    have q77 : ((n : Int) == 77) = false := beq_eq_false_iff_ne.2 (by omega)
    have q99 : ((n : Int) == 99) = false := beq_eq_false_iff_ne.2 (by omega)
    clear hc
    go_enter Try.func75, Try.ntmps75
    go_wp2_with fail
    refine (ground_r X lo _ ap al cp cl L _ HP.out).mono ?_
    rintro e w1 ⟨rfl, g, hg, hq, hc⟩
    have HQ := Lib.hid hq
    have HC := Lib.hid hc
    clear hq hc
    go_wp2_with fail
    refine (tell_r X lo pz (some ⟨g, 0, none⟩) al none 0 cl 0 L ⟨3, n, false, [], e0⟩ _ HQ.out (FreshIn.nil _ _ _ _ _ _) (by simp [blkOf]) hL (by simp)).mono ?_
    rintro e w2 hq
    have HQ2 := Lib.hid (hq.base (HP.out.below1 HC.out))
    obtain ⟨rfl, _⟩ := hq
    go_wp2_with fail
    refine bodyPost_end (v := .tuple #[]) (by simp [results, Try.results75]) rfl ?_
    rw [HR.out]
    exact HQ2.out
  · have q55 : ((n : Int) == 55) = false := beq_eq_false_iff_ne.2 (by omega)
    have q56 : ((n : Int) == 56) = false := beq_eq_false_iff_ne.2 (by omega)
    have q68 : ((n : Int) == 68) = false := beq_eq_false_iff_ne.2 (by omega)
    have q69 : ((n : Int) == 69) = false := beq_eq_false_iff_ne.2 (by omega)
    have q77 : ((n : Int) == 77) = true := by rw [hc]; rfl
    have q99 : ((n : Int) == 99) = false := beq_eq_false_iff_ne.2 (by omega)
    clear hc
    go_enter Try.func75, Try.ntmps75
    go_wp2_with fail
    refine (ground_r X lo _ ap al cp cl L _ HP.out).mono ?_
    rintro e w1 ⟨rfl, g, hg, hq, hc⟩
    have HQ := Lib.hid hq
    have HC := Lib.hid hc
    clear hq hc
    go_wp2_with fail
    refine (tell_r X lo pz (some ⟨g, 0, none⟩) al none 0 cl 0 L ⟨3, n, false, [], e0⟩ _ HQ.out (FreshIn.nil _ _ _ _ _ _) (by simp [blkOf]) hL (by simp)).mono ?_
    rintro e w2 hq
    have HQ2 := Lib.hid (hq.base (HP.out.below1 HC.out))
    obtain ⟨rfl, _⟩ := hq
    go_wp2_with fail
    refine bodyPost_end (v := .tuple #[]) (by simp [results, Try.results75]) rfl ?_
    rw [HR.out]
    exact HQ2.out
  · have q55 : ((n : Int) == 55) = false := beq_eq_false_iff_ne.2 (by omega)
    have q56 : ((n : Int) == 56) = false := beq_eq_false_iff_ne.2 (by omega)
    have q68 : ((n : Int) == 68) = false := beq_eq_false_iff_ne.2 (by omega)
    have q69 : ((n : Int) == 69) = false := beq_eq_false_iff_ne.2 (by omega)
    have q77 : ((n : Int) == 77) = false := beq_eq_false_iff_ne.2 (by omega)
    have q99 : ((n : Int) == 99) = true := by rw [hc]; rfl
    clear hc
    go_enter Try.func75, Try.ntmps75
    go_wp2_with fail
    refine (ground_r X lo _ ap al cp cl L _ HP.out).mono ?_
    rintro e w1 ⟨rfl, g, hg, hq, hc⟩
    have HQ := Lib.hid hq
    have HC := Lib.hid hc
    clear hq hc
    go_wp2_with fail
    refine (tell_r X lo pz (some ⟨g, 0, none⟩) al none 0 cl 0 L ⟨3, n, false, [], e0⟩ _ HQ.out (FreshIn.nil _ _ _ _ _ _) (by simp [blkOf]) hL (by simp)).mono ?_
    rintro e w2 hq
    have HQ2 := Lib.hid (hq.base (HP.out.below1 HC.out))
    obtain ⟨rfl, _⟩ := hq
    go_wp2_with fail
    refine bodyPost_end (v := .tuple #[]) (by simp [results, Try.results75]) rfl ?_
    rw [HR.out]
    exact HQ2.out
end
section
open Go.RowKit
theorem takeG_r (X lo : Nat) (ap al : Option Addr) (cp cl : Nat) (L : List ActA) (b : UInt8) (w : World) (h : QS X lo pz ap cp L al cl w) (hL : L.length ≤ 1048576) :
    Calls Try.prog 66 #[.pointer (some ⟨X, 0, none⟩), .int .i64 b.toNat] w (fun e w' => QR X lo (gstep b) L e w w') := by
  have HCA := Lib.hid (plain_r X lo ap al cp cl L b w h hL)
  have k_0 : w.cell? ⟨X, 0, none⟩ = some (.int .i64 0) := h.ps.c0
  have kf := h.ps.fz
  have klt := h.ps.lt
  clear h
  go_enter Try.func66, Try.ntmps66
  go_wp2_with fail
  refine HCA.out.mono ?_
  rintro e w1 hq
  have HQ := Lib.hid hq
  obtain ⟨rfl, _⟩ := hq
  go_wp2_with fail
  refine bodyPost_end (v := .tuple #[]) (by simp [results, Try.results66]) rfl ?_
  exact HQ.out
theorem takeE_r (X lo : Nat) (ap al : Option Addr) (cp cl : Nat) (L : List ActA) (b : UInt8) (w : World) (h : QS X lo (pst 1) ap cp L al cl w) (hL : L.length ≤ 1048576) :
    Calls Try.prog 66 #[.pointer (some ⟨X, 0, none⟩), .int .i64 b.toNat] w (fun e w' => QR X lo (estep b) L e w w') := by
  have HCA := Lib.hid (escape_r X lo ap al cp cl L b w h hL)
  have k_0 : w.cell? ⟨X, 0, none⟩ = some (.int .i64 1) := h.ps.c0
  have kf := h.ps.fz
  have klt := h.ps.lt
  clear h
  go_enter Try.func66, Try.ntmps66
  go_wp2_with fail
  refine HCA.out.mono ?_
  rintro e w1 hq
  have HQ := Lib.hid hq
  obtain ⟨rfl, _⟩ := hq
  go_wp2_with fail
  refine bodyPost_end (v := .tuple #[]) (by simp [results, Try.results66]) rfl ?_
  exact HQ.out
theorem takeS_r (X lo : Nat) (ap al : Option Addr) (cp cl : Nat) (L : List ActA) (b : UInt8) (w : World) (h : QS X lo (pst 3) ap cp L al cl w) (hL : L.length ≤ 1048576) :
    Calls Try.prog 66 #[.pointer (some ⟨X, 0, none⟩), .int .i64 b.toNat] w (fun e w' => QR X lo (sstep (pst 3) b) L e w w') := by
  have HCA := Lib.hid (skip_r X lo ap al cp cl L b w h hL)
  have k_0 : w.cell? ⟨X, 0, none⟩ = some (.int .i64 3) := h.ps.c0
  have kf := h.ps.fz
  have klt := h.ps.lt
  clear h
  go_enter Try.func66, Try.ntmps66
  go_wp2_with fail
  refine HCA.out.mono ?_
  rintro e w1 hq
  have HQ := Lib.hid hq
  obtain ⟨rfl, _⟩ := hq
  go_wp2_with fail
  refine bodyPost_end (v := .tuple #[]) (by simp [results, Try.results66]) rfl ?_
  exact HQ.out
theorem oscEnd_r (t : ByteArray) (X lo : Nat) (ap al : Option Addr) (cp cl : Nat) (L : List ActA) (b : UInt8) (w : World) (h : QS X lo ⟨5, [], false, t, e0⟩ ap cp L al cl w) (hL : L.length ≤ 1048576) :
    Calls Try.prog 79 #[.pointer (some ⟨X, 0, none⟩), .int .i64 b.toNat] w (fun e w' => QR X lo (qstep ⟨5, [], false, t, e0⟩ b) L e w w') := by
  have HP := Lib.hid h
  have k_0 := h.ps.c0
  have k_1 := h.ps.c1
  have k_2 := h.ps.c2
  have k_3 := h.ps.c3
  have k_4 := h.ps.c4
  have k_5 := h.c5
  have kf := h.ps.fz
  have klt := h.ps.lt
  have hlo : lo ≤ w.heap.size := by have := h.lo; omega
  have h256 : b.toNat < 256 := b.toNat_lt
  clear h
  obtain ⟨Gr, hG⟩ : ∃ G, qstep ⟨5, [], false, t, e0⟩ b = G := ⟨_, rfl⟩
  have HGG := Lib.hid hG
  rw [hG]
  clear hG
  obtain ⟨n, hn⟩ : ∃ n, b.toNat = n := ⟨_, rfl⟩
  rw [hn] at h256 ⊢
  have HN := Lib.hid hn
  clear hn
  by_cases h92 : n = 92
  case pos =>
    have HR : Hid (Gr = (pz, [⟨5, 0, false, [], t⟩])) := Lib.hid (by rw [← HGG.out]; exact qs1 HN.out h92)
    have g92 : ((n : Int) == 92) = true := by subst h92; rfl
    clear h92
    go_enter Try.func79, Try.ntmps79
    go_wp2_with fail
    refine (ground_r X lo _ ap al cp cl L _ HP.out).mono ?_
    rintro e w1 ⟨rfl, g, hg, hq, hc⟩
    have HQ := Lib.hid hq
    have HC := Lib.hid hc
    have y_0 := hq.ps.c0
    have y_1 := hq.ps.c1
    have y_2 := hq.ps.c2
    have y_3 := hq.ps.c3
    have y_4 := hq.ps.c4
    have y_5 := hq.c5
    have yf := hq.ps.fz
    have ylt := hq.ps.lt
    clear hq hc
    go_wp2_with fail
    refine (tell_r X lo pz (some ⟨g, 0, none⟩) al none 0 cl 0 L ⟨5, 0, false, [], t⟩ _ HQ.out (FreshIn.nil _ _ _ _ _ _) (by simp [blkOf]) hL (by simp)).mono ?_
    rintro e w2 hq
    have HQ2 := Lib.hid (hq.base (HP.out.below1 HC.out))
    obtain ⟨rfl, _⟩ := hq
    go_wp2_with fail
    refine bodyPost_ret (v := .tuple #[]) (by simp [results, Try.results79]) rfl ?_
    rw [HR.out]
    exact HQ2.out
  have g92 : ((n : Int) == 92) = false := beq_eq_false_iff_ne.2 (by omega)
  have HR : Hid (Gr = estep b) := Lib.hid (by rw [← HGG.out]; exact qs2 HN.out h92)
  go_enter Try.func79, Try.ntmps79
  go_wp2_with fail
  refine (ground_r X lo _ ap al cp cl L _ HP.out).mono ?_
  rintro e w1 ⟨rfl, g, hg, hq, hc⟩
  have HQ := Lib.hid hq
  have HC := Lib.hid hc
  have y_0 := hq.ps.c0
  have y_1 := hq.ps.c1
  have y_2 := hq.ps.c2
  have y_3 := hq.ps.c3
  have y_4 := hq.ps.c4
  have y_5 := hq.c5
  have yf := hq.ps.fz
  have ylt := hq.ps.lt
  clear hq hc
  have HQ3 : Hid (QS X lo (pst 1) (some ⟨g, 0, none⟩) 0 L al cl (w1.setCell ⟨X, 0, none⟩ (.int .i64 1))) := Lib.hid (by
    refine HQ.out.cells (Ch.set1 _ _ _ _) ?_ ?_ ?_ ?_ ?_ ?_ ?_ (.inl ⟨rfl, rfl, rfl⟩)
    all_goals first | (intro o; simp [go_sem, yf, ylt]; done) | (simp [go_sem, y_0, y_1, y_2, y_3, y_4, y_5, ylt, pst, pz]; done))
  have HCA : Hid (Calls Try.prog 66 #[.pointer (some ⟨X, 0, none⟩), .int .i64 n] (w1.setCell ⟨X, 0, none⟩ (.int .i64 1)) (fun e w' => QR X lo Gr L e w w')) := Lib.hid (by
    have h1 := (takeE_r X lo (some ⟨g, 0, none⟩) al 0 cl L b _ HQ3.out hL).mono (R' := fun e w' => QR X lo (estep b) L e w w') (fun e w' h => h.base ((HP.out.below1 HC.out).trans (HQ.out.below1 (Ch.set1 _ _ _ _))))
    rw [HN.out] at h1
    rw [HR.out]
    exact h1)
  go_wp2_with fail
  refine HCA.out.mono ?_
  rintro e w2 hq
  have HQ4 := Lib.hid hq
  obtain ⟨rfl, _⟩ := hq
  go_wp2_with fail
  refine bodyPost_end (v := .tuple #[]) (by simp [results, Try.results79]) rfl ?_
  exact HQ4.out
end
section
open Go.RowKit
theorem osc_r (t : ByteArray) (X lo : Nat) (ap al : Option Addr) (cp cl : Nat) (L : List ActA) (b : UInt8) (w : World) (h : QS X lo ⟨4, [], false, t, e0⟩ ap cp L al cl w) (hL : L.length ≤ 1048576) (hT : t.size ≤ 40) :
    Calls Try.prog 78 #[.pointer (some ⟨X, 0, none⟩), .int .i64 b.toNat] w (fun e w' => QR X lo (ostep ⟨4, [], false, t, e0⟩ b) L e w w') := by
  have HP := Lib.hid h
  have k_0 := h.ps.c0
  have k_1 := h.ps.c1
  have k_2 := h.ps.c2
  have k_3 := h.ps.c3
  have k_4 := h.ps.c4
  have k_5 := h.c5
  have kf := h.ps.fz
  have klt := h.ps.lt
  have hlo : lo ≤ w.heap.size := by have := h.lo; omega
  have h256 : b.toNat < 256 := b.toNat_lt
  clear h
  obtain ⟨Gr, hG⟩ : ∃ G, ostep ⟨4, [], false, t, e0⟩ b = G := ⟨_, rfl⟩
  have HGG := Lib.hid hG
  rw [hG]
  clear hG
  obtain ⟨n, hn⟩ : ∃ n, b.toNat = n := ⟨_, rfl⟩
  rw [hn] at h256 ⊢
  have HN := Lib.hid hn
  clear hn
  by_cases h7 : n = 7
  case pos =>
    have HR : Hid (Gr = (pz, [⟨5, 0, false, [], t⟩])) := Lib.hid (by rw [← HGG.out]; exact os1 HN.out h7)
    have g7 : ((n : Int) == 7) = true := by subst h7; rfl
    clear h7
    have hb0 : Below w.heap.size w (w.alloc (.cells #[.int .i64 5, .int .i64 0, .bool false, .slice none 0 0, .string t] 87)) := (Below.refl _ _).alloc (Nat.le_refl _) _
    have HP0 := Lib.hid (HP.out.keep hb0)
    have HB0 : Hid (Below lo w (w.alloc (.cells #[.int .i64 5, .int .i64 0, .bool false, .slice none 0 0, .string t] 87))) := Lib.hid ((Below.refl _ _).alloc hlo _)
    clear hb0
    go_enter Try.func78, Try.ntmps78
    go_wp2_with fail
    refine (ground_r X lo _ ap al cp cl L _ HP0.out).mono ?_
    rintro e w1 ⟨rfl, g, hg, hq, hc⟩
    have HQ := Lib.hid hq
    have HC := Lib.hid hc
    have hz1 : w.heap.size < w1.heap.size := by have := hc.size; simp at this; omega
    have hXH : ¬ w.heap.size = X := by omega
    have b_0 : w1.cell? ⟨w.heap.size, 0, none⟩ = some (.int .i64 5) := (hc.cell (p := ⟨w.heap.size, 0, none⟩) (by simp) hXH).trans (by simp [go_sem])
    have b_1 : w1.cell? ⟨w.heap.size, 1, none⟩ = some (.int .i64 0) := (hc.cell (p := ⟨w.heap.size, 1, none⟩) (by simp) hXH).trans (by simp [go_sem])
    have b_2 : w1.cell? ⟨w.heap.size, 2, none⟩ = some (.bool false) := (hc.cell (p := ⟨w.heap.size, 2, none⟩) (by simp) hXH).trans (by simp [go_sem])
    have b_3 : w1.cell? ⟨w.heap.size, 3, none⟩ = some (.slice none 0 0) := (hc.cell (p := ⟨w.heap.size, 3, none⟩) (by simp) hXH).trans (by simp [go_sem])
    have b_4 : w1.cell? ⟨w.heap.size, 4, none⟩ = some (.string t) := (hc.cell (p := ⟨w.heap.size, 4, none⟩) (by simp) hXH).trans (by simp [go_sem])
    clear hq hc
    go_wp2_with fail
    refine (tell_r X lo pz (some ⟨g, 0, none⟩) al none 0 cl 0 L ⟨5, 0, false, [], t⟩ _ HQ.out (FreshIn.nil _ _ _ _ _ _) (by simp [blkOf]) hL (by simp)).mono ?_
    rintro e w2 hq
    have HQ2 := Lib.hid (hq.base (HB0.out.trans (HP0.out.below1 HC.out)))
    obtain ⟨rfl, _⟩ := hq
    go_wp2_with fail
    refine bodyPost_end (v := .tuple #[]) (by simp [results, Try.results78]) rfl ?_
    rw [HR.out]
    exact HQ2.out
  have g7 : ((n : Int) == 7) = false := beq_eq_false_iff_ne.2 (by omega)
  by_cases h27 : n = 27
  case pos =>
    have HR : Hid (Gr = (⟨5, [], false, t, e0⟩, [])) := Lib.hid (by rw [← HGG.out]; exact os2 HN.out h27)
    have g27 : ((n : Int) == 27) = true := by subst h27; rfl
    clear h27
    go_enter Try.func78, Try.ntmps78
    go_wp2_with fail
    refine bodyPost_end (v := .tuple #[]) (by simp [results, Try.results78]) rfl ?_
    refine QR.only (p' := ⟨5, [], false, t, e0⟩) (HP.out.cells ?hc ?_ ?_ ?_ ?_ ?_ ?_ ?_ (.inl ⟨rfl, rfl, rfl⟩)) HP.out ?hc HR.out
    case hc => repeat (first | (with_reducible exact Ch.refl) | (with_reducible refine Ch.alloc ?_ _) | (with_reducible refine Ch.drew ?_) | (with_reducible refine Ch.setB ?_ _ _))
    all_goals first | (intro o; simp [go_sem, kf, klt]; done) | (simp [go_sem, k_0, k_1, k_2, k_3, k_4, k_5, klt, pst, pz]; done)
  have g27 : ((n : Int) == 27) = false := beq_eq_false_iff_ne.2 (by omega)
  obtain ⟨v, hv⟩ : ∃ v, inB (n : Int) 32 126 = v := ⟨_, rfl⟩
  have HV := Lib.hid hv
  clear hv
  cases v
  case false =>
    have HR : Hid (Gr = (⟨4, [], false, t, e0⟩, [])) := Lib.hid (by rw [← HGG.out]; exact os4 HN.out h7 h27 (fun h => by have := HV.out; simp [inB] at this; omega))
    go_enter Try.func78, Try.ntmps78
    go_wp2_with (go_at_call 36; refine (l01In_c _ _ _ _).mono ?_; rw [HV.out]; rintro e w' ⟨rfl, rfl⟩)
    refine bodyPost_end (v := .tuple #[]) (by simp [results, Try.results78]) rfl ?_
    exact QR.only HP.out HP.out Ch.refl HR.out
  by_cases h40 : t.size < 40
  case neg =>
    have HR : Hid (Gr = (⟨4, [], false, t, e0⟩, [])) := Lib.hid (by rw [← HGG.out]; exact os4 HN.out h7 h27 (fun h => h40 h.2))
    have g40 : decide ((t.size : Int) < 40) = false := decide_eq_false (by omega)
    go_enter Try.func78, Try.ntmps78
    go_wp2_with (go_at_call 36; refine (l01In_c _ _ _ _).mono ?_; rw [HV.out]; rintro e w' ⟨rfl, rfl⟩)
    all_goals first
      | (exfalso; omega)
      | (refine bodyPost_end (v := .tuple #[]) (by simp [results, Try.results78]) rfl ?_
         exact QR.only HP.out HP.out Ch.refl HR.out)
  have HR : Hid (Gr = (⟨4, [], false, t ++ ⟨#[b]⟩, e0⟩, [])) := Lib.hid (by rw [← HGG.out]; exact os3 HN.out ⟨by have := HV.out; simp [inB] at this; omega, h40⟩)
  have g40 : (t.size : Int) < 40 := by omega
  have hbig : ¬ 9223372036854775807 < t.size + 1 := by omega
  have hw8 : IntKind.u8.wrap (n : Int) = n := u8_in (by omega) (by omega)
  have hcv := convAt w.heap.size (w.alloc (.cells #[.int .u8 n] 5)).drew b n (by simp [go_sem]) HN.out
  go_enter Try.func78, Try.ntmps78
  go_upto_region 7 with (go_at_call 36; refine (l01In_c _ _ _ _).mono ?_; rw [HV.out]; rintro e w' ⟨rfl, rfl⟩)
  refine wp_region_G (fun w' => w'.cell? ⟨X, 3, none⟩ = some (.string t)) (fun i => i == 13) (by kernel_rfl) k_3 ?_
  refine tW ?_ 0 rfl ?_ ?_; rotate_left
  · intro w' hSw; go_simp; try rfl
  try simp only [Act.put,j1,j2,j3,j4,j5,j6]
  refine tW ?_ 1 rfl ?_ ?_; rotate_left
  · intro w' hSw; go_simp; try rfl
  try simp only [Act.put,j1,j2,j3,j4,j5,j6]
  refine tW ?_ 2 rfl ?_ ?_; rotate_left
  · intro w' hSw; go_simp; try rfl
  try simp only [Act.put,j1,j2,j3,j4,j5,j6]
  refine tW ?_ 3 rfl ?_ ?_; rotate_left
  · intro w' hSw; go_simp; try rfl
  try simp only [Act.put,j1,j2,j3,j4,j5,j6]
  refine tL ?_ 4 rfl k_3 ?_ ?_; rotate_left
  · intro w' hSw; go_simp; try rfl
  try simp only [Act.put,j1,j2,j3,j4,j5,j6]
  refine tW ?_ 5 rfl ?_ ?_; rotate_left
  · intro w' hSw; go_simp; try rfl
  try simp only [Act.put,j1,j2,j3,j4,j5,j6]
  refine tW ?_ 6 rfl ?_ ?_; rotate_left
  · intro w' hSw; go_simp; try rfl
  try simp only [Act.put,j1,j2,j3,j4,j5,j6]
  refine wpAnyG_one (i := 7) (by kernel_rfl) rfl k_3 (fun K' hK => ?_)
  simp only [j1,j2,j3]
  go_simp
  have hS1 : (w.alloc (.cells #[.int .u8 n] 5)).cell? ⟨X, 3, none⟩ = some (.string t) := (World.cell?_alloc_lt _ _ _ klt).trans k_3
  refine hK.out _ _ (Or.inr hS1) ?_
  clear hK K'
  try simp only [Act.put,j1,j2,j3,j4,j5,j6]
  refine wpAnyG_one (i := 8) (by kernel_rfl) rfl hS1 (fun K' hK => ?_)
  simp only [j1,j2,j3]
  go_simp
  refine hK.out _ _ (Or.inr hS1) ?_
  clear hK K'
  try simp only [Act.put,j1,j2,j3,j4,j5,j6]
  refine tW ?_ 9 rfl ?_ ?_; rotate_left
  · intro w' hSw; go_simp; try rfl
  try simp only [Act.put,j1,j2,j3,j4,j5,j6]
  refine tW ?_ 10 rfl ?_ ?_; rotate_left
  · intro w' hSw; go_simp; try rfl
  try simp only [Act.put,j1,j2,j3,j4,j5,j6]
  refine tW ?_ 11 rfl ?_ ?_; rotate_left
  · intro w' hSw; go_simp; try rfl
  try simp only [Act.put,j1,j2,j3,j4,j5,j6]
  refine tW ?_ 12 rfl ?_ ?_; rotate_left
  · intro w' hSw; go_simp; try rfl
  try simp only [Act.put,j1,j2,j3,j4,j5,j6]
  clear hcv hbig hw8
  have hb1 : Below w.heap.size w (w.alloc (.cells #[.int .u8 n] 5)).drew := ((Below.refl _ _).alloc (Nat.le_refl _) _).drew
  obtain ⟨x, hx⟩ : ∃ x, (w.alloc (.cells #[.int .u8 n] 5)).drew = x := ⟨_, rfl⟩
  have hS2 : x.cell? ⟨X, 3, none⟩ = some (.string t) := by rw [← hx]; exact hS1
  rw [hx] at hb1 ⊢
  clear hx
  have HBX : Hid (Below w.heap.size w x) := Lib.hid hb1
  have x_0 := (hb1.cell (p := ⟨X, 0, none⟩) klt).trans k_0
  have x_1 := (hb1.cell (p := ⟨X, 1, none⟩) klt).trans k_1
  have x_2 := (hb1.cell (p := ⟨X, 2, none⟩) klt).trans k_2
  have x_3 := (hb1.cell (p := ⟨X, 3, none⟩) klt).trans k_3
  have x_4 := (hb1.cell (p := ⟨X, 4, none⟩) klt).trans k_4
  have x_5 := (hb1.cell (p := ⟨X, 5, none⟩) klt).trans k_5
  have xf := fun o => kF hb1 klt (kf o)
  have xlt := Nat.lt_of_lt_of_le klt hb1.size
  clear hb1
  refine wpAnyG_one (i := 13) (by kernel_rfl) rfl hS2 (fun K' hK => ?_)
  simp only [j1,j2,j3]
  go_simp
  refine hK.out _ _ (Or.inl rfl) ?_
  clear hK K'
  try simp only [Act.put,j1,j2,j3,j4,j5,j6]
  refine wpAnyG_done (by kernel_rfl) ?_ _
  go_wp2_with fail
  refine bodyPost_end (v := .tuple #[]) (by simp [results, Try.results78]) rfl ?_
  have HCX : Ch (fun k => k = X) w x := Ch.of_below HBX.out
  refine QR.only (p' := ⟨4, [], false, t ++ ⟨#[b]⟩, e0⟩) (HP.out.cells (HCX.trans ?hc (fun i hi => .inl hi)) ?_ ?_ ?_ ?_ ?_ ?_ ?_ (.inl ⟨rfl, rfl, rfl⟩)) HP.out (HCX.trans ?hc (fun i hi => .inl hi)) HR.out
  case hc => repeat (first | (with_reducible exact Ch.refl) | (with_reducible refine Ch.alloc ?_ _) | (with_reducible refine Ch.drew ?_) | (with_reducible refine Ch.setB ?_ _ _))
  all_goals first | (intro o; simp [go_sem, xf, xlt]; done) | (simp [go_sem, x_0, x_1, x_2, x_3, x_4, x_5, xlt]; done)
end
section
open Go.RowKit
theorem fit_step {l : List UInt8} {k : Nat} (h : fitK l k) (hm : mayF (l.take k) (l.getD k 0).toNat = true) : fitK l (k + 1) := by
  intro j h1 h2
  rcases Nat.lt_succ_iff_lt_or_eq.1 h2 with h3 | rfl
  · exact h j h1 h3
  · exact hm
def FitR (s : ByteArray) (w : World) (e : Ending) (w' : World) : Prop := ∃ v : Bool, e = .returned (.bool v) ∧ (v = true ↔ fitK s.data.toList s.size) ∧ w = w'
theorem inB_nat (b : Nat) (l h : Nat) : inB (b : Int) l h = (decide (l ≤ b) && decide (b ≤ h)) := by
  unfold inB
  rw [Bool.eq_iff_iff]
  simp only [Bool.and_eq_true, decide_eq_true_eq]
  omega
theorem fits_r (s : ByteArray) (w : World) (hz : s.size ≤ 1048576) : Calls Try.prog 93 #[.string s] w (FitR s w) := by
  go_enter Try.func93, Try.ntmps93
  go_wp2_with fail
  go_loop [3] (fun i => ∃ k : Nat, (1 ≤ k ∧ (k ≤ s.size ∨ k = 1)) ∧ i = .int .i64 k ∧ Hid (fitK s.data.toList k)) (fun i => s.size - (intOf i).toNat)
  case atStart => exact ⟨1, ⟨by omega, .inr rfl⟩, rfl, Lib.hid (fun j h1 h2 => absurd h1 (by omega))⟩
  case round =>
    obtain ⟨k, ⟨hk1, hk⟩, rfl, HP⟩ := hrel
    by_cases hlt : k < s.size
    · obtain ⟨v, hv⟩ : ∃ v, mayF (s.data.toList.take k) (s.data.toList.getD k 0).toNat = v := ⟨_, rfl⟩
      have HST : Hid (v = true → fitK s.data.toList (k + 1)) := Lib.hid (fun h => fit_step HP.out (hv.trans h))
      have HNO : Hid (v = false → ¬ fitK s.data.toList s.size) := Lib.hid (fun h hf => by
        have := hf k hk1 hlt
        rw [hv, h] at this
        cases this)
      have h0 : 0 < s.size := by omega
      obtain ⟨y, hy⟩ : ∃ y, s[0]'h0 = y := ⟨_, rfl⟩
      obtain ⟨x, hx⟩ : ∃ x, s[k] = x := ⟨_, rfl⟩
      have h256 : x.toNat < 256 := x.toNat_lt
      rw [getDL hlt, hx] at hv
      by_cases h1 : k = 1
      · have hl : s.data.toList.take k = [y] := by
          have h2 := headL h0
          rw [hy] at h2
          rw [h1]
          cases hc : s.data.toList with
          | nil => have : s.data.toList.length = s.size := rfl; rw [hc] at this; simp at this; omega
          | cons a l => rw [hc] at h2; simp at h2; subst h2; rfl
        rw [hl] at hv
        unfold mayF at hv
        rw [lowOf_one, highOf_one] at hv
        have HV := Lib.hid hv
        have gk : ((k : Int) == 1) = true := by rw [h1]; rfl
        clear hv hl h1
        by_cases c224 : y.toNat = 224
        · have q224 : ((y.toNat : Int) == 224) = true := by rw [c224]; rfl
          have d237 : ¬ y.toNat = 237 := by omega
          have q237 : ((y.toNat : Int) == 237) = false := beq_eq_false_iff_ne.2 (by omega)
          have d240 : ¬ y.toNat = 240 := by omega
          have q240 : ((y.toNat : Int) == 240) = false := beq_eq_false_iff_ne.2 (by omega)
          have d244 : ¬ y.toNat = 244 := by omega
          have q244 : ((y.toNat : Int) == 244) = false := beq_eq_false_iff_ne.2 (by omega)
          have HI : Hid (inB (x.toNat : Int) 160 191 = v) := Lib.hid (by
            refine (inB_nat x.toNat 160 191).trans ?_
            rw [← HV.out]
            try simp [*])
          have HNX : Hid (v = true ∨ ¬ fitK s.data.toList s.size) := Lib.hid (by
            cases hb : v with
            | true => exact .inl rfl
            | false => exact .inr (HNO.out hb))
          cases v
          case false =>
            go_wp2_with (go_at_call 36; refine (l01In_c _ _ _ _).mono ?_; rw [HI.out]; rintro e w' ⟨rfl, rfl⟩)
            go_ret
            exact ⟨false, rfl, ⟨fun h => (by cases h), fun h => absurd h (HNX.out.resolve_left (by simp))⟩, rfl⟩
          case true =>
            go_wp2_with (go_at_call 36; refine (l01In_c _ _ _ _).mono ?_; rw [HI.out]; rintro e w' ⟨rfl, rfl⟩)
            go_round
            case rel => exact ⟨k + 1, ⟨by omega, by omega⟩, by go_num, Lib.hid (HST.out (by simp))⟩
            case measure => simp [intOf]; omega
        have q224 : ((y.toNat : Int) == 224) = false := beq_eq_false_iff_ne.2 (by omega)
        by_cases c237 : y.toNat = 237
        · have q237 : ((y.toNat : Int) == 237) = true := by rw [c237]; rfl
          have d240 : ¬ y.toNat = 240 := by omega
          have q240 : ((y.toNat : Int) == 240) = false := beq_eq_false_iff_ne.2 (by omega)
          have d244 : ¬ y.toNat = 244 := by omega
          have q244 : ((y.toNat : Int) == 244) = false := beq_eq_false_iff_ne.2 (by omega)
          have HI : Hid (inB (x.toNat : Int) 128 159 = v) := Lib.hid (by
            refine (inB_nat x.toNat 128 159).trans ?_
            rw [← HV.out]
            try simp [*])
          have HNX : Hid (v = true ∨ ¬ fitK s.data.toList s.size) := Lib.hid (by
            cases hb : v with
            | true => exact .inl rfl
            | false => exact .inr (HNO.out hb))
          cases v
          case false =>
            go_wp2_with (go_at_call 36; refine (l01In_c _ _ _ _).mono ?_; rw [HI.out]; rintro e w' ⟨rfl, rfl⟩)
            go_ret
            exact ⟨false, rfl, ⟨fun h => (by cases h), fun h => absurd h (HNX.out.resolve_left (by simp))⟩, rfl⟩
          case true =>
            go_wp2_with (go_at_call 36; refine (l01In_c _ _ _ _).mono ?_; rw [HI.out]; rintro e w' ⟨rfl, rfl⟩)
            go_round
            case rel => exact ⟨k + 1, ⟨by omega, by omega⟩, by go_num, Lib.hid (HST.out (by simp))⟩
            case measure => simp [intOf]; omega
        have q237 : ((y.toNat : Int) == 237) = false := beq_eq_false_iff_ne.2 (by omega)
        by_cases c240 : y.toNat = 240
        · have q240 : ((y.toNat : Int) == 240) = true := by rw [c240]; rfl
          have d244 : ¬ y.toNat = 244 := by omega
          have q244 : ((y.toNat : Int) == 244) = false := beq_eq_false_iff_ne.2 (by omega)
          have HI : Hid (inB (x.toNat : Int) 144 191 = v) := Lib.hid (by
            refine (inB_nat x.toNat 144 191).trans ?_
            rw [← HV.out]
            try simp [*])
          have HNX : Hid (v = true ∨ ¬ fitK s.data.toList s.size) := Lib.hid (by
            cases hb : v with
            | true => exact .inl rfl
            | false => exact .inr (HNO.out hb))
          cases v
          case false =>
            go_wp2_with (go_at_call 36; refine (l01In_c _ _ _ _).mono ?_; rw [HI.out]; rintro e w' ⟨rfl, rfl⟩)
            go_ret
            exact ⟨false, rfl, ⟨fun h => (by cases h), fun h => absurd h (HNX.out.resolve_left (by simp))⟩, rfl⟩
          case true =>
            go_wp2_with (go_at_call 36; refine (l01In_c _ _ _ _).mono ?_; rw [HI.out]; rintro e w' ⟨rfl, rfl⟩)
            go_round
            case rel => exact ⟨k + 1, ⟨by omega, by omega⟩, by go_num, Lib.hid (HST.out (by simp))⟩
            case measure => simp [intOf]; omega
        have q240 : ((y.toNat : Int) == 240) = false := beq_eq_false_iff_ne.2 (by omega)
        by_cases c244 : y.toNat = 244
        · have q244 : ((y.toNat : Int) == 244) = true := by rw [c244]; rfl
          have HI : Hid (inB (x.toNat : Int) 128 143 = v) := Lib.hid (by
            refine (inB_nat x.toNat 128 143).trans ?_
            rw [← HV.out]
            try simp [*])
          have HNX : Hid (v = true ∨ ¬ fitK s.data.toList s.size) := Lib.hid (by
            cases hb : v with
            | true => exact .inl rfl
            | false => exact .inr (HNO.out hb))
          cases v
          case false =>
            go_wp2_with (go_at_call 36; refine (l01In_c _ _ _ _).mono ?_; rw [HI.out]; rintro e w' ⟨rfl, rfl⟩)
            go_ret
            exact ⟨false, rfl, ⟨fun h => (by cases h), fun h => absurd h (HNX.out.resolve_left (by simp))⟩, rfl⟩
          case true =>
            go_wp2_with (go_at_call 36; refine (l01In_c _ _ _ _).mono ?_; rw [HI.out]; rintro e w' ⟨rfl, rfl⟩)
            go_round
            case rel => exact ⟨k + 1, ⟨by omega, by omega⟩, by go_num, Lib.hid (HST.out (by simp))⟩
            case measure => simp [intOf]; omega
        have q244 : ((y.toNat : Int) == 244) = false := beq_eq_false_iff_ne.2 (by omega)
        have HI : Hid (inB (x.toNat : Int) 128 191 = v) := Lib.hid (by
          refine (inB_nat x.toNat 128 191).trans ?_
          rw [← HV.out]
          try simp [*])
        have HNX : Hid (v = true ∨ ¬ fitK s.data.toList s.size) := Lib.hid (by
          cases hb : v with
          | true => exact .inl rfl
          | false => exact .inr (HNO.out hb))
        cases v
        case false =>
          go_wp2_with (go_at_call 36; refine (l01In_c _ _ _ _).mono ?_; rw [HI.out]; rintro e w' ⟨rfl, rfl⟩)
          go_ret
          exact ⟨false, rfl, ⟨fun h => (by cases h), fun h => absurd h (HNX.out.resolve_left (by simp))⟩, rfl⟩
        case true =>
          go_wp2_with (go_at_call 36; refine (l01In_c _ _ _ _).mono ?_; rw [HI.out]; rintro e w' ⟨rfl, rfl⟩)
          go_round
          case rel => exact ⟨k + 1, ⟨by omega, by omega⟩, by go_num, Lib.hid (HST.out (by simp))⟩
          case measure => simp [intOf]; omega
      · have hll : (s.data.toList.take k).length ≠ 1 := by
          have : s.data.toList.length = s.size := rfl
          rw [List.length_take]; omega
        unfold mayF at hv
        rw [(low_not hll).1, (low_not hll).2] at hv
        have HV := Lib.hid hv
        have gk : ((k : Int) == 1) = false := beq_eq_false_iff_ne.2 (by omega)
        clear hv
        have HI : Hid (inB (x.toNat : Int) 128 191 = v) := Lib.hid (by
          refine (inB_nat x.toNat 128 191).trans ?_
          rw [← HV.out]
          try simp [*])
        have HNX : Hid (v = true ∨ ¬ fitK s.data.toList s.size) := Lib.hid (by
          cases hb : v with
          | true => exact .inl rfl
          | false => exact .inr (HNO.out hb))
        cases v
        case false =>
          go_wp2_with (go_at_call 36; refine (l01In_c _ _ _ _).mono ?_; rw [HI.out]; rintro e w' ⟨rfl, rfl⟩)
          go_ret
          exact ⟨false, rfl, ⟨fun h => (by cases h), fun h => absurd h (HNX.out.resolve_left (by simp))⟩, rfl⟩
        case true =>
          go_wp2_with (go_at_call 36; refine (l01In_c _ _ _ _).mono ?_; rw [HI.out]; rintro e w' ⟨rfl, rfl⟩)
          go_round
          case rel => exact ⟨k + 1, ⟨by omega, by omega⟩, by go_num, Lib.hid (HST.out (by simp))⟩
          case measure => simp [intOf]; omega
    · have HF : Hid (fitK s.data.toList s.size) := Lib.hid (fun j h1 h2 => HP.out j h1 (by omega))
      go_wp2_with fail
      go_ret
      exact ⟨true, rfl, ⟨fun _ => HF.out, fun _ => rfl⟩, rfl⟩
end
section
open Go.RowKit
def rnO (n : Nat) : Int := if n = 2 then 192 else if n = 3 then 224 else 240
def rnA (l : List UInt8) : Nat → Int
  | 0 => ((l.headD 0).toNat : Int) - rnO l.length
  | k + 1 => rnA l k * 64 + (l.getD (k + 1) 0).toNat - 128
theorem rnA_bd (l : List UInt8) (k : Nat) : -(512 * 128 ^ k) ≤ rnA l k ∧ rnA l k ≤ 512 * 128 ^ k := by
  induction k with
  | zero =>
    have h1 : (l.headD 0).toNat < 256 := (l.headD 0).toNat_lt
    unfold rnA rnO
    (repeat' split) <;> omega
  | succ k ih =>
    have h1 : (l.getD (k + 1) 0).toNat < 256 := (l.getD (k + 1) 0).toNat_lt
    have h2 : (0 : Int) < 128 ^ k := Int.pow_pos (by decide)
    rw [rnA, Int.pow_succ]
    omega
theorem rnA_end (l : List UInt8) (h : l.length = 2 ∨ l.length = 3 ∨ l.length = 4) : rnA l (l.length - 1) = rnV l := by
  match l, h with
  | [a, b], _ => simp [rnA, rnV, rnO]; omega
  | [a, b, c], _ => simp [rnA, rnV, rnO]; omega
  | [a, b, c, d], _ => simp [rnA, rnV, rnO]; omega
theorem rune_r (s : ByteArray) (w : World) (hz : s.size = 2 ∨ s.size = 3 ∨ s.size = 4) : Calls Try.prog 95 #[.string s] w fun e w' => e = .returned (.int .i64 (rnV s.data.toList)) ∧ w = w' := by
  have hls : s.data.toList.length = s.size := rfl
  have HLS := Lib.hid hls
  have HZ := Lib.hid hz
  have HE : Hid (rnA s.data.toList (s.size - 1) = rnV s.data.toList) := Lib.hid (rnA_end _ hz)
  have h0 : 0 < s.size := by omega
  have hs4 : s.size ≤ 4 := by omega
  obtain ⟨y, hy⟩ : ∃ y, s[0]'h0 = y := ⟨_, rfl⟩
  have hy256 : y.toNat < 256 := y.toNat_lt
  have H0 : Hid (rnA s.data.toList 0 = (y.toNat : Int) - rnO s.size) := Lib.hid (by
    rw [rnA, headL h0, hy, hls])
  clear hls hz
  have HW : Hid (s.size = 2 ∨ s.size = 3 ∨ s.size = 4) := HZ
  have hq : ∃ a b c : Bool, ((s.size : Int) == 2) = a ∧ ((s.size : Int) == 3) = b ∧ ((s.size : Int) == 4) = c ∧ rnO s.size = (if a then 192 else if b then 224 else 240) ∧ (a = false → b = false → c = true) := by
    refine ⟨_, _, _, rfl, rfl, rfl, ?_, ?_⟩
    · unfold rnO
      rcases HZ.out with h | h | h <;> rw [h] <;> rfl
    · intro h1 h2
      simp only [beq_eq_false_iff_ne, beq_iff_eq] at h1 h2 ⊢
      have := HZ.out
      omega
  obtain ⟨qa, qb, qc, q1, q2, q3, q4, q5⟩ := hq
  rw [q4] at H0
  have HQ := Lib.hid q5
  clear q4 q5
  cases qa
  all_goals cases qb
  all_goals cases qc
  all_goals first
    | (exact absurd (HQ.out rfl rfl : false = true) Bool.false_ne_true)
    | (have H1 : Hid (∃ z : Int, z = rnA s.data.toList 0) := Lib.hid ⟨_, rfl⟩
       go_enter Try.func95, Try.ntmps95
       go_wp2_with fail
       go_loop [3, 4] (fun m i => ∃ k : Nat, (1 ≤ k ∧ k ≤ s.size) ∧ i = .int .i64 k ∧ m = .int .i64 (rnA s.data.toList (k - 1))) (fun _ i => s.size - (intOf i).toNat)
       case atStart => exact ⟨1, ⟨by omega, by omega⟩, rfl, by show _ = Value.int .i64 (rnA s.data.toList 0); rw [H0.out]; rfl⟩
       case round =>
         obtain ⟨k, ⟨hk1, hk⟩, rfl, rfl⟩ := hrel
         by_cases hlt : k < s.size
         · obtain ⟨x, hx⟩ : ∃ x, s[k] = x := ⟨_, rfl⟩
           have h256 : x.toNat < 256 := x.toNat_lt
           have HN : Hid (rnA s.data.toList k = rnA s.data.toList (k - 1) * 64 + x.toNat - 128) := Lib.hid (by
             obtain ⟨j, rfl⟩ : ∃ j, k = j + 1 := ⟨k - 1, by omega⟩
             rw [rnA, getDL hlt, hx]; rfl)
           obtain ⟨m, hm⟩ : ∃ m, rnA s.data.toList (k - 1) = m := ⟨_, rfl⟩
           have hmb : -1073741824 ≤ m ∧ m ≤ 1073741824 := by
             rw [← hm]
             have h1 := rnA_bd s.data.toList (k - 1)
             have h2 : k - 1 = 0 ∨ k - 1 = 1 ∨ k - 1 = 2 := by omega
             rcases h2 with h2 | h2 | h2 <;> rw [h2] at h1 ⊢ <;> omega
           rw [hm] at HN ⊢
           clear hm
           have w1 : IntKind.i64.wrap (m * 64) = m * 64 := IntWalk.i64_in _ ⟨by omega, by omega⟩
           have w2 : IntKind.i64.wrap (m * 64 + x.toNat) = m * 64 + x.toNat := IntWalk.i64_in _ ⟨by omega, by omega⟩
           have w3 : IntKind.i64.wrap (m * 64 + x.toNat - 128) = m * 64 + x.toNat - 128 := IntWalk.i64_in _ ⟨by omega, by omega⟩
           go_wp2_with fail
           go_round
           case rel => exact ⟨k + 1, ⟨by omega, by omega⟩, by go_num, by rw [Nat.add_sub_cancel, HN.out]⟩
           case measure => simp [intOf]; omega
         · have HF : Hid (rnA s.data.toList (k - 1) = rnV s.data.toList) := Lib.hid (by
             obtain rfl : k = s.size := by omega
             exact HE.out)
           go_wp2_with fail
           go_ret
           exact ⟨ret_i HF.out, rfl⟩)
end
section
open Go.RowKit
theorem utfLen_low {b : Nat} (h : b < 128) : utfLen b = 0 := by unfold utfLen; rw [if_pos (.inl (by omega))]
end
section
open Go.RowKit
theorem fit_snoc {l : List UInt8} {b : UInt8} (h : fitK l l.length) (h0 : 0 < l.length) : fitK (l ++ [b]) (l.length + 1) ↔ mayF l b.toNat = true := by
  constructor
  · intro h1
    have h2 := h1 l.length (by omega) (by omega)
    rw [List.take_left] at h2
    simpa using h2
  · intro h1
    refine fit_step (fun j h2 h3 => ?_) (by rw [List.take_left]; simpa using h1)
    have h4 := h j h2 h3
    rw [List.take_append_of_le_length (by omega)]
    rw [List.getD_eq_getElem?_getD, List.getElem?_append_left h3, ← List.getD_eq_getElem?_getD]
    exact h4
theorem utf_r (t : ByteArray) (X lo : Nat) (ap al : Option Addr) (cp cl : Nat) (L : List ActA) (b : UInt8) (w : World) (h : QS X lo ⟨6, [], false, e0, t⟩ ap cp L al cl w) (hL : L.length ≤ 1048575) (hT : begB t.data.toList = true) :
    Calls Try.prog 80 #[.pointer (some ⟨X, 0, none⟩), .int .i64 b.toNat] w (fun e w' => QR X lo (ustep ⟨6, [], false, e0, t⟩ b) L e w w') := by
  have HP := Lib.hid h
  have k_0 := h.ps.c0
  have k_1 := h.ps.c1
  have k_2 := h.ps.c2
  have k_3 := h.ps.c3
  have k_4 := h.ps.c4
  have k_5 := h.c5
  have kf := h.ps.fz
  have klt := h.ps.lt
  have hlo : lo ≤ w.heap.size := by have := h.lo; omega
  have h256 : b.toNat < 256 := b.toNat_lt
  clear h
  obtain ⟨Gr, hG⟩ : ∃ G, ustep ⟨6, [], false, e0, t⟩ b = G := ⟨_, rfl⟩
  have HGG := Lib.hid hG
  rw [hG]
  clear hG
  obtain ⟨n, hn⟩ : ∃ n, b.toNat = n := ⟨_, rfl⟩
  rw [hn] at h256 ⊢
  have HN := Lib.hid hn
  clear hn
  obtain ⟨u1, u2, u3⟩ := begB_iff.1 hT
  have hls : t.data.toList.length = t.size := rfl
  have ht4 : t.size ≤ 3 := by
    have : ∀ n, utfLen n ≤ 4 := fun n => by unfold utfLen; (repeat' split) <;> omega
    have := this (t.data.toList.headD 0).toNat
    omega
  have ht0 : 0 < t.size := by omega
  have HFK : Hid (fitK (t.data.toList ++ [b]) (t.size + 1) ↔ mayF t.data.toList b.toNat = true) := Lib.hid (fit_snoc u3 u1)
  obtain ⟨U, hU⟩ : ∃ U, t ++ (⟨#[b]⟩ : ByteArray) = U := ⟨_, rfl⟩
  have HU := Lib.hid hU
  have HUL : Hid (U.data.toList = t.data.toList ++ [b]) := Lib.hid (by rw [← hU]; simp)
  have HUS : Hid (U.size = t.size + 1) := Lib.hid (by rw [← hU, ByteArray.size_append]; rfl)
  have hU4 : U.size ≤ 4 := by rw [HUS.out]; omega
  have hU0 : 0 < U.size := by rw [HUS.out]; omega
  have HU0 : Hid ((U[0]'hU0) = t.data.toList.headD 0) := Lib.hid (by
    rw [← headL hU0, HUL.out]
    cases hc : t.data.toList with
    | nil => rw [hc] at hls; simp at hls; omega
    | cons a l => rfl)
  obtain ⟨z, hz⟩ : ∃ z, utfLen (t.data.toList.headD 0).toNat = z := ⟨_, rfl⟩
  have HZ := Lib.hid hz
  have hz4 : t.size < z ∧ z ≤ 4 := by
    refine ⟨by omega, ?_⟩
    rw [← hz]
    unfold utfLen; (repeat' split) <;> omega
  have HSZ : Hid (szR (U[0]'hU0).toNat = z) := Lib.hid (by
    rw [HU0.out]
    unfold szR
    rw [if_neg, hz]
    intro h
    rw [utfLen_low h] at hz
    omega)
  have hbig : ¬ 9223372036854775807 < t.size + 1 := by omega
  have hw8 : IntKind.u8.wrap (n : Int) = n := u8_in (by omega) (by omega)
  have hcv := convAt w.heap.size (w.alloc (.cells #[.int .u8 n] 5)).drew b n (by simp [go_sem]) HN.out
  obtain ⟨v, hv⟩ : ∃ v, mayF t.data.toList b.toNat = v := ⟨_, rfl⟩
  have HV := Lib.hid hv
  have HFT : Hid (∀ w, Calls Try.prog 93 #[.string U] w fun e w' => e = .returned (.bool v) ∧ w = w') := Lib.hid (fun w => (fits_r U w (by omega)).mono (fun e w' h => by
    obtain ⟨v', rfl, hv', rfl⟩ := h
    refine ⟨ret_b ?_, rfl⟩
    rw [HUL.out, HUS.out, HFK.out, hv] at hv'
    exact Bool.eq_iff_iff.2 hv'))
  clear hv hz hT u1 u2 u3 hls
  go_enter Try.func80, Try.ntmps80
  go_upto_region 0 with fail
  refine wp_region_G (fun w' => w'.cell? ⟨X, 4, none⟩ = some (.string t)) (fun i => false) (by kernel_rfl) k_4 ?_
  refine tW ?_ 0 rfl ?_ ?_; rotate_left
  · intro w' hSw; go_simp; try rfl
  try simp only [Act.put,j1,j2,j3,j4,j5,j6]
  refine tW ?_ 1 rfl ?_ ?_; rotate_left
  · intro w' hSw; go_simp; try rfl
  try simp only [Act.put,j1,j2,j3,j4,j5,j6]
  refine tW ?_ 2 rfl ?_ ?_; rotate_left
  · intro w' hSw; go_simp; try rfl
  try simp only [Act.put,j1,j2,j3,j4,j5,j6]
  refine tW ?_ 3 rfl ?_ ?_; rotate_left
  · intro w' hSw; go_simp; try rfl
  try simp only [Act.put,j1,j2,j3,j4,j5,j6]
  refine tL ?_ 4 rfl k_4 ?_ ?_; rotate_left
  · intro w' hSw; go_simp; try rfl
  try simp only [Act.put,j1,j2,j3,j4,j5,j6]
  refine tW ?_ 5 rfl ?_ ?_; rotate_left
  · intro w' hSw; go_simp; try rfl
  try simp only [Act.put,j1,j2,j3,j4,j5,j6]
  refine tW ?_ 6 rfl ?_ ?_; rotate_left
  · intro w' hSw; go_simp; try rfl
  try simp only [Act.put,j1,j2,j3,j4,j5,j6]
  refine wpAnyG_one (i := 7) (by kernel_rfl) rfl k_4 (fun K' hK => ?_)
  simp only [j1,j2,j3]
  go_simp
  have hS1 : (w.alloc (.cells #[.int .u8 n] 5)).cell? ⟨X, 4, none⟩ = some (.string t) := (World.cell?_alloc_lt _ _ _ klt).trans k_4
  refine hK.out _ _ (Or.inr hS1) ?_
  clear hK K'
  try simp only [Act.put,j1,j2,j3,j4,j5,j6]
  refine wpAnyG_one (i := 8) (by kernel_rfl) rfl hS1 (fun K' hK => ?_)
  simp only [j1,j2,j3]
  go_simp
  refine hK.out _ _ (Or.inr hS1) ?_
  clear hK K'
  try simp only [Act.put,j1,j2,j3,j4,j5,j6]
  refine tW ?_ 9 rfl ?_ ?_; rotate_left
  · intro w' hSw; go_simp; try rfl
  try simp only [Act.put,j1,j2,j3,j4,j5,j6]
  refine tW ?_ 10 rfl ?_ ?_; rotate_left
  · intro w' hSw; go_simp; try rfl
  try simp only [Act.put,j1,j2,j3,j4,j5,j6]
  refine wpAnyG_done (by kernel_rfl) ?_ _
  clear hcv hbig hw8 hU
  have hb1 : Below w.heap.size w (w.alloc (.cells #[.int .u8 n] 5)).drew := ((Below.refl _ _).alloc (Nat.le_refl _) _).drew
  obtain ⟨x, hx⟩ : ∃ x, (w.alloc (.cells #[.int .u8 n] 5)).drew = x := ⟨_, rfl⟩
  rw [hx] at hb1 ⊢
  clear hx
  have HBX : Hid (Below lo w x) := Lib.hid (hb1.mono hlo)
  have HP1 := Lib.hid (HP.out.keep hb1)
  have x_0 := HP1.out.ps.c0
  have x_1 := HP1.out.ps.c1
  have x_2 := HP1.out.ps.c2
  have x_3 := HP1.out.ps.c3
  have x_4 := HP1.out.ps.c4
  have x_5 := HP1.out.c5
  have xf := HP1.out.ps.fz
  have xlt := HP1.out.ps.lt
  clear hb1
  cases v
  case false =>
    have HR : Hid (Gr = ((gstep b).1, pr 65533 :: (gstep b).2)) := Lib.hid (by rw [← HGG.out]; exact us1 HV.out)
    go_wp2_with (go_at_call 93; refine (HFT.out _).mono ?_; rintro e w' ⟨rfl, rfl⟩)
    refine (ground_r X lo _ ap al cp cl L _ HP1.out).mono ?_
    rintro e w1 ⟨rfl, g, hg, hq, hc⟩
    have HQ := Lib.hid hq
    have HC := Lib.hid hc
    clear hq hc
    go_wp2_with fail
    refine (tell_r X lo pz (some ⟨g, 0, none⟩) al none 0 cl 0 L ⟨1, 65533, false, [], e0⟩ _ HQ.out (FreshIn.nil _ _ _ _ _ _) (by simp [blkOf]) (by omega) (by simp)).mono ?_
    rintro e w2 ⟨rfl, ap', cp', L', al', cl', g1, g2, g3⟩
    have G2 := Lib.hid g2
    have hL' : L'.length ≤ 1048576 := by
      have := congrArg List.length g2
      simp at this
      omega
    have HB2 : Hid (Below lo w w2) := Lib.hid (HBX.out.trans ((HP1.out.below1 HC.out).trans g3))
    have h1 := takeG_r X lo ap' al' cp' cl' L' b _ g1 hL'
    rw [HN.out] at h1
    have H1 := Lib.hid h1
    clear g1 g2 g3 h1
    go_wp2_with fail
    refine H1.out.mono ?_
    rintro e w3 hq
    have HQ4 := Lib.hid (hq.after HB2.out G2.out)
    obtain ⟨rfl, _⟩ := hq
    go_wp2_with fail
    refine bodyPost_ret (v := .tuple #[]) (by simp [results, Try.results80]) rfl ?_
    rw [HR.out]
    exact HQ4.out
  by_cases hlt : U.size < z
  case pos =>
    have HR : Hid (Gr = (⟨6, [], false, e0, U⟩, [])) := Lib.hid (by
      rw [← HGG.out, ← HU.out]
      exact us2 (p := ⟨6, [], false, e0, t⟩) HV.out (by have := HUS.out; have := HZ.out; show t.size + 1 < utfLen (t.data.toList.headD 0).toNat; omega))
    have gz : (U.size : Int) < (z : Int) := by omega
    go_wp2_with (first | (go_at_call 93; refine (HFT.out _).mono ?_; rintro e w' ⟨rfl, rfl⟩) | (go_at_call 94; refine (size_r U _ hU0).mono ?_; rw [HSZ.out]; rintro e w' ⟨rfl, rfl⟩))
    refine bodyPost_ret (v := .tuple #[]) (by simp [results, Try.results80]) rfl ?_
    refine QR.base (QR.only (p' := ⟨6, [], false, e0, U⟩) (HP1.out.cells ?hc ?_ ?_ ?_ ?_ ?_ ?_ ?_ (.inl ⟨rfl, rfl, rfl⟩)) HP1.out ?hc HR.out) HBX.out
    case hc => repeat (first | (with_reducible exact Ch.refl) | (with_reducible refine Ch.alloc ?_ _) | (with_reducible refine Ch.drew ?_) | (with_reducible refine Ch.setB ?_ _ _))
    all_goals first | (intro o; simp [go_sem, xf, xlt]; done) | (simp [go_sem, x_0, x_1, x_2, x_3, x_4, x_5, xlt]; done)
  have HR : Hid (Gr = (pz, [⟨1, rnV U.data.toList, false, [], e0⟩])) := Lib.hid (by
    rw [← HGG.out, HUL.out]
    exact us3 (p := ⟨6, [], false, e0, t⟩) HV.out (by have := HUS.out; have := HZ.out; show ¬ t.size + 1 < utfLen (t.data.toList.headD 0).toNat; omega))
  have gz : ¬ (U.size : Int) < (z : Int) := by omega
  have HRU : Hid (U.size = 2 ∨ U.size = 3 ∨ U.size = 4) := Lib.hid (by have := HUS.out; omega)
  go_wp2_with (first | (go_at_call 93; refine (HFT.out _).mono ?_; rintro e w' ⟨rfl, rfl⟩) | (go_at_call 94; refine (size_r U _ hU0).mono ?_; rw [HSZ.out]; rintro e w' ⟨rfl, rfl⟩))
  refine (ground_r X lo _ ap al cp cl L _ HP1.out).mono ?_
  rintro e w1 ⟨rfl, g, hg, hq, hc⟩
  have HQ := Lib.hid hq
  have HC := Lib.hid hc
  clear hq hc
  go_wp2_with (go_at_call 95; refine (rune_r U _ HRU.out).mono ?_; rintro e w' ⟨rfl, rfl⟩)
  refine (tell_r X lo pz (some ⟨g, 0, none⟩) al none 0 cl 0 L ⟨1, rnV U.data.toList, false, [], e0⟩ _ HQ.out (FreshIn.nil _ _ _ _ _ _) (by simp [blkOf]) (by omega) (by simp)).mono ?_
  rintro e w2 hq
  have HQ2 := Lib.hid (hq.base (HBX.out.trans (HP1.out.below1 HC.out)))
  obtain ⟨rfl, _⟩ := hq
  go_wp2_with fail
  refine bodyPost_end (v := .tuple #[]) (by simp [results, Try.results80]) rfl ?_
  rw [HR.out]
  exact HQ2.out
end
section
open Go.RowKit
theorem takeO_r (t : ByteArray) (X lo : Nat) (ap al : Option Addr) (cp cl : Nat) (L : List ActA) (b : UInt8) (w : World) (h : QS X lo ⟨4, [], false, t, e0⟩ ap cp L al cl w) (hL : L.length ≤ 1048576) (hT : t.size ≤ 40) :
    Calls Try.prog 66 #[.pointer (some ⟨X, 0, none⟩), .int .i64 b.toNat] w (fun e w' => QR X lo (ostep ⟨4, [], false, t, e0⟩ b) L e w w') := by
  have HCA := Lib.hid (osc_r t X lo ap al cp cl L b w h hL hT)
  have k_0 : w.cell? ⟨X, 0, none⟩ = some (.int .i64 4) := h.ps.c0
  have kf := h.ps.fz
  have klt := h.ps.lt
  clear h
  go_enter Try.func66, Try.ntmps66
  go_wp2_with fail
  refine HCA.out.mono ?_
  rintro e w1 hq
  have HQ := Lib.hid hq
  obtain ⟨rfl, _⟩ := hq
  go_wp2_with fail
  refine bodyPost_end (v := .tuple #[]) (by simp [results, Try.results66]) rfl ?_
  exact HQ.out
theorem takeQ_r (t : ByteArray) (X lo : Nat) (ap al : Option Addr) (cp cl : Nat) (L : List ActA) (b : UInt8) (w : World) (h : QS X lo ⟨5, [], false, t, e0⟩ ap cp L al cl w) (hL : L.length ≤ 1048576) :
    Calls Try.prog 66 #[.pointer (some ⟨X, 0, none⟩), .int .i64 b.toNat] w (fun e w' => QR X lo (qstep ⟨5, [], false, t, e0⟩ b) L e w w') := by
  have HCA := Lib.hid (oscEnd_r t X lo ap al cp cl L b w h hL)
  have k_0 : w.cell? ⟨X, 0, none⟩ = some (.int .i64 5) := h.ps.c0
  have kf := h.ps.fz
  have klt := h.ps.lt
  clear h
  go_enter Try.func66, Try.ntmps66
  go_wp2_with fail
  refine HCA.out.mono ?_
  rintro e w1 hq
  have HQ := Lib.hid hq
  obtain ⟨rfl, _⟩ := hq
  go_wp2_with fail
  refine bodyPost_end (v := .tuple #[]) (by simp [results, Try.results66]) rfl ?_
  exact HQ.out
theorem takeU_r (t : ByteArray) (X lo : Nat) (ap al : Option Addr) (cp cl : Nat) (L : List ActA) (b : UInt8) (w : World) (h : QS X lo ⟨6, [], false, e0, t⟩ ap cp L al cl w) (hL : L.length ≤ 1048575) (hT : begB t.data.toList = true) :
    Calls Try.prog 66 #[.pointer (some ⟨X, 0, none⟩), .int .i64 b.toNat] w (fun e w' => QR X lo (ustep ⟨6, [], false, e0, t⟩ b) L e w w') := by
  have HCA := Lib.hid (utf_r t X lo ap al cp cl L b w h hL hT)
  have k_0 : w.cell? ⟨X, 0, none⟩ = some (.int .i64 6) := h.ps.c0
  have kf := h.ps.fz
  have klt := h.ps.lt
  clear h
  go_enter Try.func66, Try.ntmps66
  go_wp2_with fail
  refine HCA.out.mono ?_
  rintro e w1 hq
  have HQ := Lib.hid hq
  obtain ⟨rfl, _⟩ := hq
  go_wp2_with fail
  refine bodyPost_end (v := .tuple #[]) (by simp [results, Try.results66]) rfl ?_
  exact HQ.out
end
section
open Go.RowKit
theorem own_r (ap : Option Addr) (cp : Nat) (p : PV) (w : World) (ha : Sl intE 1 w ap p.args) (hl : p.args.length ≤ 1048576) :
    Calls Try.prog 65 #[.agg #[.int .i64 p.state, .slice ap p.args.length cp, .bool p.priv, .string p.text, .string p.utf]] w (ParR p w) := by
  obtain ⟨i0, hi, hz0, hz1, hz2⟩ := info_parts Try.infoInt
  have la := hl
  have HA := Lib.hid (((ha.alloc (.cells #[.int .i64 p.state, .slice ap p.args.length cp, .bool p.priv, .string p.text, .string p.utf] 50)).alloc (.cells #[.int .i64 0, .slice none 0 0, .bool false, .string ⟨#[]⟩, .string ⟨#[]⟩] 50)).alloc (.cells #[] 3))
  have h0 := (fresh_mdI ((w.alloc (.cells #[.int .i64 p.state, .slice ap p.args.length cp, .bool p.priv, .string p.text, .string p.utf] 50)).alloc (.cells #[.int .i64 0, .slice none 0 0, .bool false, .string ⟨#[]⟩, .string ⟨#[]⟩] 50)) (w.heap.size + 2) (by simp)).here
  simp only [World.size_alloc] at h0
  have HFR := Lib.hid h0
  clear h0
  go_enter Try.func65, Try.ntmps65
  go_wp2_with (first
    | (skip
       at_builtin
       refine wpList_append_fresh rfl (.tmp 3) (.tmp 5) 48 48 rfl (w.heap.size + 2) (w.heap.size + 2 + 1) 3 i0 (.int .i64 0) 1 8 Try.underlying48 hi hz0 hz1 hz2 rfl (by decide) (.slice (some ⟨w.heap.size + 2, 0, none⟩) 0 0) ([]) rfl (HFR.out) _ (p.args) rfl (Src.ofSl (enc := intE) (sz := 1) (xs := p.args) Try.underlying48 (fun _ => rfl) intOne HA.out cp) (by (try simp) <;> (try omega)) (by (try simp) <;> (try omega)) ?_
       intro a1 c1 w1 L1 hL1 hf1 hm1
       have HLL := hL1
       have hf := Lib.hid hf1
       have hmm := Lib.hid hm1
       have hz := hm1.size
       simp only [World.size_alloc] at hz
       have hl1 : w.heap.size + 1 < w1.heap.size := by omega
       have hl0 : w.heap.size < w1.heap.size := by omega
       have q0_0 : w1.cell? ⟨w.heap.size, 0, none⟩ = some (.int .i64 p.state) := (hm1.cell (p := ⟨w.heap.size, 0, none⟩) (by show w.heap.size < _; simp; try omega) (.inl (by show w.heap.size < _; omega))).trans (by simp [go_sem])
       have f0_0 : w1.frozen? ⟨w.heap.size, 0, none⟩ = false := (hm1.frozen (p := ⟨w.heap.size, 0, none⟩) (by show w.heap.size < _; simp; try omega) (.inl (by show w.heap.size < _; omega))).trans (by simp [go_sem])
       have q0_1 : w1.cell? ⟨w.heap.size, 1, none⟩ = some (.slice ap p.args.length cp) := (hm1.cell (p := ⟨w.heap.size, 1, none⟩) (by show w.heap.size < _; simp; try omega) (.inl (by show w.heap.size < _; omega))).trans (by simp [go_sem])
       have f0_1 : w1.frozen? ⟨w.heap.size, 1, none⟩ = false := (hm1.frozen (p := ⟨w.heap.size, 1, none⟩) (by show w.heap.size < _; simp; try omega) (.inl (by show w.heap.size < _; omega))).trans (by simp [go_sem])
       have q0_2 : w1.cell? ⟨w.heap.size, 2, none⟩ = some (.bool p.priv) := (hm1.cell (p := ⟨w.heap.size, 2, none⟩) (by show w.heap.size < _; simp; try omega) (.inl (by show w.heap.size < _; omega))).trans (by simp [go_sem])
       have f0_2 : w1.frozen? ⟨w.heap.size, 2, none⟩ = false := (hm1.frozen (p := ⟨w.heap.size, 2, none⟩) (by show w.heap.size < _; simp; try omega) (.inl (by show w.heap.size < _; omega))).trans (by simp [go_sem])
       have q0_3 : w1.cell? ⟨w.heap.size, 3, none⟩ = some (.string p.text) := (hm1.cell (p := ⟨w.heap.size, 3, none⟩) (by show w.heap.size < _; simp; try omega) (.inl (by show w.heap.size < _; omega))).trans (by simp [go_sem])
       have f0_3 : w1.frozen? ⟨w.heap.size, 3, none⟩ = false := (hm1.frozen (p := ⟨w.heap.size, 3, none⟩) (by show w.heap.size < _; simp; try omega) (.inl (by show w.heap.size < _; omega))).trans (by simp [go_sem])
       have q0_4 : w1.cell? ⟨w.heap.size, 4, none⟩ = some (.string p.utf) := (hm1.cell (p := ⟨w.heap.size, 4, none⟩) (by show w.heap.size < _; simp; try omega) (.inl (by show w.heap.size < _; omega))).trans (by simp [go_sem])
       have f0_4 : w1.frozen? ⟨w.heap.size, 4, none⟩ = false := (hm1.frozen (p := ⟨w.heap.size, 4, none⟩) (by show w.heap.size < _; simp; try omega) (.inl (by show w.heap.size < _; omega))).trans (by simp [go_sem])
       have q1_0 : w1.cell? ⟨w.heap.size + 1, 0, none⟩ = some (.int .i64 0) := (hm1.cell (p := ⟨w.heap.size + 1, 0, none⟩) (by show w.heap.size + 1 < _; simp; try omega) (.inl (by show w.heap.size + 1 < _; omega))).trans (by simp [go_sem])
       have f1_0 : w1.frozen? ⟨w.heap.size + 1, 0, none⟩ = false := (hm1.frozen (p := ⟨w.heap.size + 1, 0, none⟩) (by show w.heap.size + 1 < _; simp; try omega) (.inl (by show w.heap.size + 1 < _; omega))).trans (by simp [go_sem])
       have q1_1 : w1.cell? ⟨w.heap.size + 1, 1, none⟩ = some (.slice none 0 0) := (hm1.cell (p := ⟨w.heap.size + 1, 1, none⟩) (by show w.heap.size + 1 < _; simp; try omega) (.inl (by show w.heap.size + 1 < _; omega))).trans (by simp [go_sem])
       have f1_1 : w1.frozen? ⟨w.heap.size + 1, 1, none⟩ = false := (hm1.frozen (p := ⟨w.heap.size + 1, 1, none⟩) (by show w.heap.size + 1 < _; simp; try omega) (.inl (by show w.heap.size + 1 < _; omega))).trans (by simp [go_sem])
       have q1_2 : w1.cell? ⟨w.heap.size + 1, 2, none⟩ = some (.bool false) := (hm1.cell (p := ⟨w.heap.size + 1, 2, none⟩) (by show w.heap.size + 1 < _; simp; try omega) (.inl (by show w.heap.size + 1 < _; omega))).trans (by simp [go_sem])
       have f1_2 : w1.frozen? ⟨w.heap.size + 1, 2, none⟩ = false := (hm1.frozen (p := ⟨w.heap.size + 1, 2, none⟩) (by show w.heap.size + 1 < _; simp; try omega) (.inl (by show w.heap.size + 1 < _; omega))).trans (by simp [go_sem])
       have q1_3 : w1.cell? ⟨w.heap.size + 1, 3, none⟩ = some (.string ⟨#[]⟩) := (hm1.cell (p := ⟨w.heap.size + 1, 3, none⟩) (by show w.heap.size + 1 < _; simp; try omega) (.inl (by show w.heap.size + 1 < _; omega))).trans (by simp [go_sem])
       have f1_3 : w1.frozen? ⟨w.heap.size + 1, 3, none⟩ = false := (hm1.frozen (p := ⟨w.heap.size + 1, 3, none⟩) (by show w.heap.size + 1 < _; simp; try omega) (.inl (by show w.heap.size + 1 < _; omega))).trans (by simp [go_sem])
       have q1_4 : w1.cell? ⟨w.heap.size + 1, 4, none⟩ = some (.string ⟨#[]⟩) := (hm1.cell (p := ⟨w.heap.size + 1, 4, none⟩) (by show w.heap.size + 1 < _; simp; try omega) (.inl (by show w.heap.size + 1 < _; omega))).trans (by simp [go_sem])
       have f1_4 : w1.frozen? ⟨w.heap.size + 1, 4, none⟩ = false := (hm1.frozen (p := ⟨w.heap.size + 1, 4, none⟩) (by show w.heap.size + 1 < _; simp; try omega) (.inl (by show w.heap.size + 1 < _; omega))).trans (by simp [go_sem])
       clear hf1 hm1 hz
       skip))
  obtain rfl : L1 = p.args := by simpa using HLL.out
  refine bodyPost_ret (v := .agg #[.int .i64 p.state, .slice a1 p.args.length c1, .bool p.priv, .string p.text, .string p.utf]) (by simp [results, Try.results65, go_sem, q0_0, q0_1, q0_2, q0_3, q0_4, q1_0, q1_1, q1_2, q1_3, q1_4, hl0, hl1]) rfl ?_
  have hc : ∀ x1 y0 y1 y2 y3 y4, Ch (fun k => k = w.heap.size ∨ k = w.heap.size + 1) w1 ((((((w1.setCell ⟨w.heap.size, 1, none⟩ x1).setCell ⟨w.heap.size + 1, 0, none⟩ y0).setCell ⟨w.heap.size + 1, 1, none⟩ y1).setCell ⟨w.heap.size + 1, 2, none⟩ y2).setCell ⟨w.heap.size + 1, 3, none⟩ y3).setCell ⟨w.heap.size + 1, 4, none⟩ y4) := fun x1 y0 y1 y2 y3 y4 =>
    (((((Ch.refl.setCell (M := fun k => k = w.heap.size ∨ k = w.heap.size + 1) (p := ⟨w.heap.size, 1, none⟩) (.inl (.inl rfl)) x1).setCell (p := ⟨w.heap.size + 1, 0, none⟩) (.inl (.inr rfl)) y0).setCell (p := ⟨w.heap.size + 1, 1, none⟩) (.inl (.inr rfl)) y1).setCell (p := ⟨w.heap.size + 1, 2, none⟩) (.inl (.inr rfl)) y2).setCell (p := ⟨w.heap.size + 1, 3, none⟩) (.inl (.inr rfl)) y3).setCell (p := ⟨w.heap.size + 1, 4, none⟩) (.inl (.inr rfl)) y4
  have hB := (((((Below.refl w.heap.size w).alloc (Nat.le_refl _) _).alloc (by simp) _).alloc (by simp; omega) _).trans (hmm.out.below (by omega) (by simp; try omega)))
  have hF := hf.out.mono (lo' := w.heap.size + 2) (Nat.le_refl _) (Nat.le_refl _)
  have hcx := hc (.slice a1 p.args.length c1) (.int .i64 p.state) (.slice a1 p.args.length c1) (.bool p.priv) (.string p.text) (.string p.utf)
  refine ⟨a1, c1, rfl, ?_, ?_⟩
  · have h1 := FreshIn.ch hF hcx (fun k hk h => by
      have := (FreshIn.blks hF k hk).1
      omega)
    exact h1.mono (by omega) (Nat.le_refl _)
  · exact hB.trans (hcx.below (by omega) (fun k h => by omega))
end
end Go.Proofs.Ytjmpgeffkdjpdaa
