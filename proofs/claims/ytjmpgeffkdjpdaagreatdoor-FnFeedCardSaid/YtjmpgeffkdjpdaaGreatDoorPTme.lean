/- Contracts of the functions that the claim reaches. No conditions but sizes. -/
import Derived.Test.YtjmpgeffkdjpdaaGreatDoorPTmd
import Derived.Lib.Bits
import Derived.Laws.Bits128
namespace Go.Proofs.YtjmpgeffkdjpdaaGreatDoor
set_option linter.unusedVariables false
set_option linter.unusedSimpArgs false
set_option maxRecDepth 100000
set_option maxHeartbeats 16000000
open Go.RowKit
section
theorem SA.whole {lo b o : Nat} {s s' : Scr} {g cc g2 c2 : Nat} {ah a2 : Option Addr} {dh d2 : Nat} {w : World} (h : SA lo b o s g cc ah dh w) (hf : sF lo s' (some ⟨g2, 0, none⟩) c2 a2 d2 w) (h1 : g2 ≠ b) (h2 : ∀ k ∈ bO a2, k ≠ b) : SA lo b o s' g2 c2 a2 d2 ((((((((((((w.setCell ⟨b, o, none⟩ (.int .i64 s'.w)).setCell ⟨b, o + 1, none⟩ (.int .i64 s'.h)).setCell ⟨b, o + 2, none⟩ (.int .i64 s'.x)).setCell ⟨b, o + 3, none⟩ (.int .i64 s'.y)).setCell ⟨b, o + 4, none⟩ (.int .i64 s'.look)).setCell ⟨b, o + 5, none⟩ (.int .i64 s'.top)).setCell ⟨b, o + 6, none⟩ (.int .i64 s'.bot)).setCell ⟨b, o + 7, none⟩ (.int .i64 s'.sx)).setCell ⟨b, o + 8, none⟩ (.int .i64 s'.sy)).setCell ⟨b, o + 9, none⟩ (.string s'.title)).setCell ⟨b, o + 10, none⟩ (.slice (some ⟨g2, 0, none⟩) s'.cells.length c2)).setCell ⟨b, o + 11, none⟩ (.slice a2 s'.hist.length d2)) ∧ Ch (· = b) w ((((((((((((w.setCell ⟨b, o, none⟩ (.int .i64 s'.w)).setCell ⟨b, o + 1, none⟩ (.int .i64 s'.h)).setCell ⟨b, o + 2, none⟩ (.int .i64 s'.x)).setCell ⟨b, o + 3, none⟩ (.int .i64 s'.y)).setCell ⟨b, o + 4, none⟩ (.int .i64 s'.look)).setCell ⟨b, o + 5, none⟩ (.int .i64 s'.top)).setCell ⟨b, o + 6, none⟩ (.int .i64 s'.bot)).setCell ⟨b, o + 7, none⟩ (.int .i64 s'.sx)).setCell ⟨b, o + 8, none⟩ (.int .i64 s'.sy)).setCell ⟨b, o + 9, none⟩ (.string s'.title)).setCell ⟨b, o + 10, none⟩ (.slice (some ⟨g2, 0, none⟩) s'.cells.length c2)).setCell ⟨b, o + 11, none⟩ (.slice a2 s'.hist.length d2)) ∧ Upd b o (o + 12) (fun _ => False) w ((((((((((((w.setCell ⟨b, o, none⟩ (.int .i64 s'.w)).setCell ⟨b, o + 1, none⟩ (.int .i64 s'.h)).setCell ⟨b, o + 2, none⟩ (.int .i64 s'.x)).setCell ⟨b, o + 3, none⟩ (.int .i64 s'.y)).setCell ⟨b, o + 4, none⟩ (.int .i64 s'.look)).setCell ⟨b, o + 5, none⟩ (.int .i64 s'.top)).setCell ⟨b, o + 6, none⟩ (.int .i64 s'.bot)).setCell ⟨b, o + 7, none⟩ (.int .i64 s'.sx)).setCell ⟨b, o + 8, none⟩ (.int .i64 s'.sy)).setCell ⟨b, o + 9, none⟩ (.string s'.title)).setCell ⟨b, o + 10, none⟩ (.slice (some ⟨g2, 0, none⟩) s'.cells.length c2)).setCell ⟨b, o + 11, none⟩ (.slice a2 s'.hist.length d2)) := by
 have hc : Ch (· = b) w ((((((((((((w.setCell ⟨b, o, none⟩ (.int .i64 s'.w)).setCell ⟨b, o + 1, none⟩ (.int .i64 s'.h)).setCell ⟨b, o + 2, none⟩ (.int .i64 s'.x)).setCell ⟨b, o + 3, none⟩ (.int .i64 s'.y)).setCell ⟨b, o + 4, none⟩ (.int .i64 s'.look)).setCell ⟨b, o + 5, none⟩ (.int .i64 s'.top)).setCell ⟨b, o + 6, none⟩ (.int .i64 s'.bot)).setCell ⟨b, o + 7, none⟩ (.int .i64 s'.sx)).setCell ⟨b, o + 8, none⟩ (.int .i64 s'.sy)).setCell ⟨b, o + 9, none⟩ (.string s'.title)).setCell ⟨b, o + 10, none⟩ (.slice (some ⟨g2, 0, none⟩) s'.cells.length c2)).setCell ⟨b, o + 11, none⟩ (.slice a2 s'.hist.length d2)) := by
  exact (((((((((((Ch.set1' w b o _).trans (Ch.set1' _ b (o + 1) _) (fun _ h => .inl h)).trans (Ch.set1' _ b (o + 2) _) (fun _ h => .inl h)).trans (Ch.set1' _ b (o + 3) _) (fun _ h => .inl h)).trans (Ch.set1' _ b (o + 4) _) (fun _ h => .inl h)).trans (Ch.set1' _ b (o + 5) _) (fun _ h => .inl h)).trans (Ch.set1' _ b (o + 6) _) (fun _ h => .inl h)).trans (Ch.set1' _ b (o + 7) _) (fun _ h => .inl h)).trans (Ch.set1' _ b (o + 8) _) (fun _ h => .inl h)).trans (Ch.set1' _ b (o + 9) _) (fun _ h => .inl h)).trans (Ch.set1' _ b (o + 10) _) (fun _ h => .inl h)).trans (Ch.set1' _ b (o + 11) _) (fun _ h => .inl h)
 have yy0 : ((((((((((((w.setCell ⟨b, o, none⟩ (.int .i64 s'.w)).setCell ⟨b, o + 1, none⟩ (.int .i64 s'.h)).setCell ⟨b, o + 2, none⟩ (.int .i64 s'.x)).setCell ⟨b, o + 3, none⟩ (.int .i64 s'.y)).setCell ⟨b, o + 4, none⟩ (.int .i64 s'.look)).setCell ⟨b, o + 5, none⟩ (.int .i64 s'.top)).setCell ⟨b, o + 6, none⟩ (.int .i64 s'.bot)).setCell ⟨b, o + 7, none⟩ (.int .i64 s'.sx)).setCell ⟨b, o + 8, none⟩ (.int .i64 s'.sy)).setCell ⟨b, o + 9, none⟩ (.string s'.title)).setCell ⟨b, o + 10, none⟩ (.slice (some ⟨g2, 0, none⟩) s'.cells.length c2)).setCell ⟨b, o + 11, none⟩ (.slice a2 s'.hist.length d2)).cell? ⟨b, o, none⟩ = some (.int .i64 s'.w) := sO (sO (sO (sO (sO (sO (sO (sO (sO (sO (sO (World.cell?_setCell_same _ _ _ (h.c0))))))))))))
 have yy1 : ((((((((((((w.setCell ⟨b, o, none⟩ (.int .i64 s'.w)).setCell ⟨b, o + 1, none⟩ (.int .i64 s'.h)).setCell ⟨b, o + 2, none⟩ (.int .i64 s'.x)).setCell ⟨b, o + 3, none⟩ (.int .i64 s'.y)).setCell ⟨b, o + 4, none⟩ (.int .i64 s'.look)).setCell ⟨b, o + 5, none⟩ (.int .i64 s'.top)).setCell ⟨b, o + 6, none⟩ (.int .i64 s'.bot)).setCell ⟨b, o + 7, none⟩ (.int .i64 s'.sx)).setCell ⟨b, o + 8, none⟩ (.int .i64 s'.sy)).setCell ⟨b, o + 9, none⟩ (.string s'.title)).setCell ⟨b, o + 10, none⟩ (.slice (some ⟨g2, 0, none⟩) s'.cells.length c2)).setCell ⟨b, o + 11, none⟩ (.slice a2 s'.hist.length d2)).cell? ⟨b, o + 1, none⟩ = some (.int .i64 s'.h) := sO (sO (sO (sO (sO (sO (sO (sO (sO (sO (World.cell?_setCell_same _ _ _ (sO (h.c1))))))))))))
 have yy2 : ((((((((((((w.setCell ⟨b, o, none⟩ (.int .i64 s'.w)).setCell ⟨b, o + 1, none⟩ (.int .i64 s'.h)).setCell ⟨b, o + 2, none⟩ (.int .i64 s'.x)).setCell ⟨b, o + 3, none⟩ (.int .i64 s'.y)).setCell ⟨b, o + 4, none⟩ (.int .i64 s'.look)).setCell ⟨b, o + 5, none⟩ (.int .i64 s'.top)).setCell ⟨b, o + 6, none⟩ (.int .i64 s'.bot)).setCell ⟨b, o + 7, none⟩ (.int .i64 s'.sx)).setCell ⟨b, o + 8, none⟩ (.int .i64 s'.sy)).setCell ⟨b, o + 9, none⟩ (.string s'.title)).setCell ⟨b, o + 10, none⟩ (.slice (some ⟨g2, 0, none⟩) s'.cells.length c2)).setCell ⟨b, o + 11, none⟩ (.slice a2 s'.hist.length d2)).cell? ⟨b, o + 2, none⟩ = some (.int .i64 s'.x) := sO (sO (sO (sO (sO (sO (sO (sO (sO (World.cell?_setCell_same _ _ _ (sO (sO (h.c2))))))))))))
 have yy3 : ((((((((((((w.setCell ⟨b, o, none⟩ (.int .i64 s'.w)).setCell ⟨b, o + 1, none⟩ (.int .i64 s'.h)).setCell ⟨b, o + 2, none⟩ (.int .i64 s'.x)).setCell ⟨b, o + 3, none⟩ (.int .i64 s'.y)).setCell ⟨b, o + 4, none⟩ (.int .i64 s'.look)).setCell ⟨b, o + 5, none⟩ (.int .i64 s'.top)).setCell ⟨b, o + 6, none⟩ (.int .i64 s'.bot)).setCell ⟨b, o + 7, none⟩ (.int .i64 s'.sx)).setCell ⟨b, o + 8, none⟩ (.int .i64 s'.sy)).setCell ⟨b, o + 9, none⟩ (.string s'.title)).setCell ⟨b, o + 10, none⟩ (.slice (some ⟨g2, 0, none⟩) s'.cells.length c2)).setCell ⟨b, o + 11, none⟩ (.slice a2 s'.hist.length d2)).cell? ⟨b, o + 3, none⟩ = some (.int .i64 s'.y) := sO (sO (sO (sO (sO (sO (sO (sO (World.cell?_setCell_same _ _ _ (sO (sO (sO (h.c3))))))))))))
 have yy4 : ((((((((((((w.setCell ⟨b, o, none⟩ (.int .i64 s'.w)).setCell ⟨b, o + 1, none⟩ (.int .i64 s'.h)).setCell ⟨b, o + 2, none⟩ (.int .i64 s'.x)).setCell ⟨b, o + 3, none⟩ (.int .i64 s'.y)).setCell ⟨b, o + 4, none⟩ (.int .i64 s'.look)).setCell ⟨b, o + 5, none⟩ (.int .i64 s'.top)).setCell ⟨b, o + 6, none⟩ (.int .i64 s'.bot)).setCell ⟨b, o + 7, none⟩ (.int .i64 s'.sx)).setCell ⟨b, o + 8, none⟩ (.int .i64 s'.sy)).setCell ⟨b, o + 9, none⟩ (.string s'.title)).setCell ⟨b, o + 10, none⟩ (.slice (some ⟨g2, 0, none⟩) s'.cells.length c2)).setCell ⟨b, o + 11, none⟩ (.slice a2 s'.hist.length d2)).cell? ⟨b, o + 4, none⟩ = some (.int .i64 s'.look) := sO (sO (sO (sO (sO (sO (sO (World.cell?_setCell_same _ _ _ (sO (sO (sO (sO (h.c4))))))))))))
 have yy5 : ((((((((((((w.setCell ⟨b, o, none⟩ (.int .i64 s'.w)).setCell ⟨b, o + 1, none⟩ (.int .i64 s'.h)).setCell ⟨b, o + 2, none⟩ (.int .i64 s'.x)).setCell ⟨b, o + 3, none⟩ (.int .i64 s'.y)).setCell ⟨b, o + 4, none⟩ (.int .i64 s'.look)).setCell ⟨b, o + 5, none⟩ (.int .i64 s'.top)).setCell ⟨b, o + 6, none⟩ (.int .i64 s'.bot)).setCell ⟨b, o + 7, none⟩ (.int .i64 s'.sx)).setCell ⟨b, o + 8, none⟩ (.int .i64 s'.sy)).setCell ⟨b, o + 9, none⟩ (.string s'.title)).setCell ⟨b, o + 10, none⟩ (.slice (some ⟨g2, 0, none⟩) s'.cells.length c2)).setCell ⟨b, o + 11, none⟩ (.slice a2 s'.hist.length d2)).cell? ⟨b, o + 5, none⟩ = some (.int .i64 s'.top) := sO (sO (sO (sO (sO (sO (World.cell?_setCell_same _ _ _ (sO (sO (sO (sO (sO (h.c5))))))))))))
 have yy6 : ((((((((((((w.setCell ⟨b, o, none⟩ (.int .i64 s'.w)).setCell ⟨b, o + 1, none⟩ (.int .i64 s'.h)).setCell ⟨b, o + 2, none⟩ (.int .i64 s'.x)).setCell ⟨b, o + 3, none⟩ (.int .i64 s'.y)).setCell ⟨b, o + 4, none⟩ (.int .i64 s'.look)).setCell ⟨b, o + 5, none⟩ (.int .i64 s'.top)).setCell ⟨b, o + 6, none⟩ (.int .i64 s'.bot)).setCell ⟨b, o + 7, none⟩ (.int .i64 s'.sx)).setCell ⟨b, o + 8, none⟩ (.int .i64 s'.sy)).setCell ⟨b, o + 9, none⟩ (.string s'.title)).setCell ⟨b, o + 10, none⟩ (.slice (some ⟨g2, 0, none⟩) s'.cells.length c2)).setCell ⟨b, o + 11, none⟩ (.slice a2 s'.hist.length d2)).cell? ⟨b, o + 6, none⟩ = some (.int .i64 s'.bot) := sO (sO (sO (sO (sO (World.cell?_setCell_same _ _ _ (sO (sO (sO (sO (sO (sO (h.c6))))))))))))
 have yy7 : ((((((((((((w.setCell ⟨b, o, none⟩ (.int .i64 s'.w)).setCell ⟨b, o + 1, none⟩ (.int .i64 s'.h)).setCell ⟨b, o + 2, none⟩ (.int .i64 s'.x)).setCell ⟨b, o + 3, none⟩ (.int .i64 s'.y)).setCell ⟨b, o + 4, none⟩ (.int .i64 s'.look)).setCell ⟨b, o + 5, none⟩ (.int .i64 s'.top)).setCell ⟨b, o + 6, none⟩ (.int .i64 s'.bot)).setCell ⟨b, o + 7, none⟩ (.int .i64 s'.sx)).setCell ⟨b, o + 8, none⟩ (.int .i64 s'.sy)).setCell ⟨b, o + 9, none⟩ (.string s'.title)).setCell ⟨b, o + 10, none⟩ (.slice (some ⟨g2, 0, none⟩) s'.cells.length c2)).setCell ⟨b, o + 11, none⟩ (.slice a2 s'.hist.length d2)).cell? ⟨b, o + 7, none⟩ = some (.int .i64 s'.sx) := sO (sO (sO (sO (World.cell?_setCell_same _ _ _ (sO (sO (sO (sO (sO (sO (sO (h.c7))))))))))))
 have yy8 : ((((((((((((w.setCell ⟨b, o, none⟩ (.int .i64 s'.w)).setCell ⟨b, o + 1, none⟩ (.int .i64 s'.h)).setCell ⟨b, o + 2, none⟩ (.int .i64 s'.x)).setCell ⟨b, o + 3, none⟩ (.int .i64 s'.y)).setCell ⟨b, o + 4, none⟩ (.int .i64 s'.look)).setCell ⟨b, o + 5, none⟩ (.int .i64 s'.top)).setCell ⟨b, o + 6, none⟩ (.int .i64 s'.bot)).setCell ⟨b, o + 7, none⟩ (.int .i64 s'.sx)).setCell ⟨b, o + 8, none⟩ (.int .i64 s'.sy)).setCell ⟨b, o + 9, none⟩ (.string s'.title)).setCell ⟨b, o + 10, none⟩ (.slice (some ⟨g2, 0, none⟩) s'.cells.length c2)).setCell ⟨b, o + 11, none⟩ (.slice a2 s'.hist.length d2)).cell? ⟨b, o + 8, none⟩ = some (.int .i64 s'.sy) := sO (sO (sO (World.cell?_setCell_same _ _ _ (sO (sO (sO (sO (sO (sO (sO (sO (h.c8))))))))))))
 have yy9 : ((((((((((((w.setCell ⟨b, o, none⟩ (.int .i64 s'.w)).setCell ⟨b, o + 1, none⟩ (.int .i64 s'.h)).setCell ⟨b, o + 2, none⟩ (.int .i64 s'.x)).setCell ⟨b, o + 3, none⟩ (.int .i64 s'.y)).setCell ⟨b, o + 4, none⟩ (.int .i64 s'.look)).setCell ⟨b, o + 5, none⟩ (.int .i64 s'.top)).setCell ⟨b, o + 6, none⟩ (.int .i64 s'.bot)).setCell ⟨b, o + 7, none⟩ (.int .i64 s'.sx)).setCell ⟨b, o + 8, none⟩ (.int .i64 s'.sy)).setCell ⟨b, o + 9, none⟩ (.string s'.title)).setCell ⟨b, o + 10, none⟩ (.slice (some ⟨g2, 0, none⟩) s'.cells.length c2)).setCell ⟨b, o + 11, none⟩ (.slice a2 s'.hist.length d2)).cell? ⟨b, o + 9, none⟩ = some (.string s'.title) := sO (sO (World.cell?_setCell_same _ _ _ (sO (sO (sO (sO (sO (sO (sO (sO (sO (h.c9))))))))))))
 have yy10 : ((((((((((((w.setCell ⟨b, o, none⟩ (.int .i64 s'.w)).setCell ⟨b, o + 1, none⟩ (.int .i64 s'.h)).setCell ⟨b, o + 2, none⟩ (.int .i64 s'.x)).setCell ⟨b, o + 3, none⟩ (.int .i64 s'.y)).setCell ⟨b, o + 4, none⟩ (.int .i64 s'.look)).setCell ⟨b, o + 5, none⟩ (.int .i64 s'.top)).setCell ⟨b, o + 6, none⟩ (.int .i64 s'.bot)).setCell ⟨b, o + 7, none⟩ (.int .i64 s'.sx)).setCell ⟨b, o + 8, none⟩ (.int .i64 s'.sy)).setCell ⟨b, o + 9, none⟩ (.string s'.title)).setCell ⟨b, o + 10, none⟩ (.slice (some ⟨g2, 0, none⟩) s'.cells.length c2)).setCell ⟨b, o + 11, none⟩ (.slice a2 s'.hist.length d2)).cell? ⟨b, o + 10, none⟩ = some (.slice (some ⟨g2, 0, none⟩) s'.cells.length c2) := sO (World.cell?_setCell_same _ _ _ (sO (sO (sO (sO (sO (sO (sO (sO (sO (sO (h.c10))))))))))))
 have yy11 : ((((((((((((w.setCell ⟨b, o, none⟩ (.int .i64 s'.w)).setCell ⟨b, o + 1, none⟩ (.int .i64 s'.h)).setCell ⟨b, o + 2, none⟩ (.int .i64 s'.x)).setCell ⟨b, o + 3, none⟩ (.int .i64 s'.y)).setCell ⟨b, o + 4, none⟩ (.int .i64 s'.look)).setCell ⟨b, o + 5, none⟩ (.int .i64 s'.top)).setCell ⟨b, o + 6, none⟩ (.int .i64 s'.bot)).setCell ⟨b, o + 7, none⟩ (.int .i64 s'.sx)).setCell ⟨b, o + 8, none⟩ (.int .i64 s'.sy)).setCell ⟨b, o + 9, none⟩ (.string s'.title)).setCell ⟨b, o + 10, none⟩ (.slice (some ⟨g2, 0, none⟩) s'.cells.length c2)).setCell ⟨b, o + 11, none⟩ (.slice a2 s'.hist.length d2)).cell? ⟨b, o + 11, none⟩ = some (.slice a2 s'.hist.length d2) := World.cell?_setCell_same _ _ _ (sO (sO (sO (sO (sO (sO (sO (sO (sO (sO (sO (h.c11))))))))))))
 exact ⟨⟨yy0, yy1, yy2, yy3, yy4, yy5, yy6, yy7, yy8, yy9, yy10, yy11, fun k => by rw [World.frozen?_setCell, World.frozen?_setCell, World.frozen?_setCell, World.frozen?_setCell, World.frozen?_setCell, World.frozen?_setCell, World.frozen?_setCell, World.frozen?_setCell, World.frozen?_setCell, World.frozen?_setCell, World.frozen?_setCell, World.frozen?_setCell]; exact h.fz k, Nat.lt_of_lt_of_le h.lt hc.size, hf.row.ch hc (fun k hk e => by simp only [bO, List.mem_singleton] at hk; exact h1 (hk.symm.trans e)), hf.win.ch hc (fun k hk e => h2 k hk e), h1, fun k hk => ⟨h2 k hk, fun e => hf.ap k hk (by rw [e]; simp [bO])⟩⟩, hc, ((((((((((((Upd.refl).setCell (o) (by omega) (by omega) _).setCell (o + 1) (by omega) (by omega) _).setCell (o + 2) (by omega) (by omega) _).setCell (o + 3) (by omega) (by omega) _).setCell (o + 4) (by omega) (by omega) _).setCell (o + 5) (by omega) (by omega) _).setCell (o + 6) (by omega) (by omega) _).setCell (o + 7) (by omega) (by omega) _).setCell (o + 8) (by omega) (by omega) _).setCell (o + 9) (by omega) (by omega) _).setCell (o + 10) (by omega) (by omega) _).setCell (o + 11) (by omega) (by omega) _⟩
theorem escape_c (lo b : Nat) (s : Scr) (g cc : Nat) (ah : Option Addr) (dh : Nat) (w : World) (n : Int) (h : SA lo b 0 s g cc ah dh w) (ok : sK s) (hlo : lo ≤ w.heap.size) :
 Calls Tryz.prog 81 #[.pointer (some ⟨b, 0, none⟩), .int .i64 n] w fun e w' => e = .returned (.tuple #[]) ∧ sR lo b 0 (escS s n) g ah w w' := by
 have HS := zz h
 have HOK := zz ok
 have hw1 := ok.w1
 have hw2 := ok.w2
 have hh1 := ok.h1
 have hh2 := ok.h2
 have hx := ok.hx
 have hy := ok.hy
 clear h ok
 have k_0 := HS.out.e0
 have k_1 := HS.out.e1
 have k_2 := HS.out.e2
 have k_3 := HS.out.e3
 have k_4 := HS.out.e4
 have k_5 := HS.out.e5
 have k_6 := HS.out.e6
 have k_7 := HS.out.e7
 have k_8 := HS.out.e8
 have k_9 := HS.out.e9
 have k_10 := HS.out.e10
 have k_11 := HS.out.e11
 have k_f := HS.out.fz
 have k_l := HS.out.lt
 by_cases h55 : n = 55
 ·subst h55
  go_enter Tryz.func81, Tryz.ntmps81
  go_wp2_with fail
  first | refine bodyPost_end (v := .tuple #[]) (by simp [results, Tryz.results81]) rfl ?_ | refine bodyPost_ret (v := .tuple #[]) (by simp [results, Tryz.results81]) rfl ?_
  refine ⟨rfl, ?_⟩
  unfold escS
  rw [if_pos rfl]
  exact .mk ((HS.out.setv7 s.x rfl).setv8 s.y rfl) ((Upd.refl'.set7 _).set8 _)
 by_cases h56 : n = 56
 ·subst h56
  go_enter Tryz.func81, Tryz.ntmps81
  go_wp2_with fail
  first | refine bodyPost_end (v := .tuple #[]) (by simp [results, Tryz.results81]) rfl ?_ | refine bodyPost_ret (v := .tuple #[]) (by simp [results, Tryz.results81]) rfl ?_
  refine ⟨rfl, ?_⟩
  unfold escS
  rw [if_neg (by decide), if_pos rfl]
  exact .mk ((HS.out.setv2 s.sx rfl).setv3 s.sy rfl) ((Upd.refl'.set2 _).set3 _)
 by_cases h68 : n = 68
 ·subst h68
  go_enter Tryz.func81, Tryz.ntmps81
  go_wp2_with fail
  refine (Zy7 lo b s g cc ah dh _ HS.out HOK.out (by first | omega | (have := Upd.refl'.size; omega))).mono ?_
  rintro e x1 ⟨rfl, hr⟩
  have HR : Hid (sR lo b 0 (downS s) g ah w x1) := zz (sR.trans HS.out Upd.refl' (.inl rfl) (fun _ h => .inl h) hr)
  clear hr
  go_wp2_with fail
  first | refine bodyPost_end (v := .tuple #[]) (by simp [results, Tryz.results81]) rfl ?_ | refine bodyPost_ret (v := .tuple #[]) (by simp [results, Tryz.results81]) rfl ?_
  refine ⟨rfl, ?_⟩
  unfold escS
  rw [if_neg (by decide), if_neg (by decide), if_pos rfl]
  exact HR.out
 by_cases h69 : n = 69
 ·subst h69
  go_enter Tryz.func81, Tryz.ntmps81
  have HX : Hid (SA lo b 0 { s with x := 0 } g cc ah dh (w.setCell ⟨b, 2, none⟩ (.int .i64 0)) ∧ Upd b 0 (0 + 12) (fun k => k = g ∨ k ∈ bO ah) w (w.setCell ⟨b, 2, none⟩ (.int .i64 0))) := zz ⟨HS.out.setv2 0 rfl, Upd.refl'.set2 _⟩
  have hz : lo ≤ (w.setCell ⟨b, 2, none⟩ (.int .i64 0)).heap.size := by have := HX.out.2.size; omega
  go_wp2_with fail
  refine (Zy7 lo b { s with x := 0 } g cc ah dh _ HX.out.1 (HOK.out.xy (x := 0) (y := s.y) (Nat.zero_le _) hy) (by first | omega | (have := HX.out.2.size; omega))).mono ?_
  rintro e x1 ⟨rfl, hr⟩
  have HR : Hid (sR lo b 0 (downS { s with x := 0 }) g ah w x1) := zz (sR.trans HX.out.1 HX.out.2 (.inl rfl) (fun _ h => .inl h) hr)
  clear hr
  go_wp2_with fail
  first | refine bodyPost_end (v := .tuple #[]) (by simp [results, Tryz.results81]) rfl ?_ | refine bodyPost_ret (v := .tuple #[]) (by simp [results, Tryz.results81]) rfl ?_
  refine ⟨rfl, ?_⟩
  unfold escS
  rw [if_neg (by decide), if_neg (by decide), if_neg (by decide), if_pos rfl]
  exact HR.out
 by_cases h77 : n = 77
 ·subst h77
  go_enter Tryz.func81, Tryz.ntmps81
  go_wp2_with fail
  refine (up_c lo b s g cc ah dh _ HS.out HOK.out hlo).mono ?_
  rintro e x1 ⟨rfl, hr⟩
  have HR := zz hr
  clear hr
  go_wp2_with fail
  first | refine bodyPost_end (v := .tuple #[]) (by simp [results, Tryz.results81]) rfl ?_ | refine bodyPost_ret (v := .tuple #[]) (by simp [results, Tryz.results81]) rfl ?_
  refine ⟨rfl, ?_⟩
  unfold escS
  rw [if_neg (by decide), if_neg (by decide), if_neg (by decide), if_neg (by decide), if_pos rfl]
  exact HR.out
 by_cases h99 : n = 99
 ·subst h99
  go_enter Tryz.func81, Tryz.ntmps81
  go_upto_region 16 with fail
  have hSc1 := And.intro k_0 k_1
  refine rO (fun w' => w'.cell? ⟨b, 0, none⟩ = some (.int .i64 s.w) ∧ w'.cell? ⟨b, 1, none⟩ = some (.int .i64 s.h)) [14] [0,1,2,3,4,5,6,7,8,9,10,11,12,13,14] ?_
  iterate 11 (first | refine oW (h := ?_) | refine oL (hS := hSc1) (h := ?_))
  refine oO (hS := .inr hSc1) (h := ?_)
  intro K' hK
  go_simp
  refine (Zy3 s.w s.h _ hw2 hh2 (by omega)).mono ?_
  rintro e x1 ⟨ac, c2, a2, d2, rfl, hf, hb⟩
  have HB1 : Hid (Below w.heap.size w x1) := zz (((Below.refl _ _).drew).trans hb)
  have hn0 : 0 < (newS s.w s.h).cells.length := by simp only [newS, bL, List.length_replicate]; exact Nat.mul_pos (by omega) (by omega)
  obtain ⟨g2, rfl⟩ := hf.blk hn0
  have HF : Hid (sF w.heap.size (newS s.w s.h) (some ⟨g2, 0, none⟩) c2 a2 d2 x1) := zz hf
  have HAX := zz (HS.out.below HB1.out)
  have hg2 := Fr.blks hf.row g2 (by simp [bO])
  have hg2' : w.heap.size ≤ g2 := hg2.1
  clear hf hb hn0 hg2
  unfold scrV
  have e_0 := HAX.out.e0
  have e_1 := HAX.out.e1
  have e_2 := HAX.out.e2
  have e_3 := HAX.out.e3
  have e_4 := HAX.out.e4
  have e_5 := HAX.out.e5
  have e_6 := HAX.out.e6
  have e_7 := HAX.out.e7
  have e_8 := HAX.out.e8
  have e_9 := HAX.out.e9
  have e_10 := HAX.out.e10
  have e_11 := HAX.out.e11
  have e_f := HAX.out.fz
  have e_l := HAX.out.lt
  have hSx : x1.cell? ⟨b, 0, none⟩ = some (.int .i64 s.w) ∧ x1.cell? ⟨b, 1, none⟩ = some (.int .i64 s.h) := ⟨e_0, e_1⟩
  refine oN hK (hS := .inr hSx) (h := ?_)
  clear hK K'
  iterate 2 refine oW (h := ?_)
  refine oO (hS := .inl rfl) (h := ?_)
  intro K' hK
  go_simp
  refine oN hK (hS := .inl rfl) (h := ?_)
  clear hK K'
  refine oD ?_
  have hne : g2 ≠ b := by have := HS.out.lt; omega
  have hnh : ∀ j ∈ bO a2, j ≠ b := fun j hj => by have := (HF.out.win.blk j hj).1; have := HS.out.lt; omega
  have HWH := zz (HAX.out.whole (HF.out.low hlo) hne hnh)
  obtain ⟨w9, hw9⟩ : ∃ x, ((((((((((((x1.setCell ⟨b, 0, none⟩ (.int .i64 ((newS s.w s.h).w : Int))).setCell ⟨b, 1, none⟩ (.int .i64 ((newS s.w s.h).h : Int))).setCell ⟨b, 2, none⟩ (.int .i64 ((newS s.w s.h).x : Int))).setCell ⟨b, 3, none⟩ (.int .i64 ((newS s.w s.h).y : Int))).setCell ⟨b, 4, none⟩ (.int .i64 ((newS s.w s.h).look : Int))).setCell ⟨b, 5, none⟩ (.int .i64 ((newS s.w s.h).top : Int))).setCell ⟨b, 6, none⟩ (.int .i64 ((newS s.w s.h).bot : Int))).setCell ⟨b, 7, none⟩ (.int .i64 ((newS s.w s.h).sx : Int))).setCell ⟨b, 8, none⟩ (.int .i64 ((newS s.w s.h).sy : Int))).setCell ⟨b, 9, none⟩ (.string (newS s.w s.h).title)).setCell ⟨b, 10, none⟩ (.slice (some ⟨g2, 0, none⟩) (newS s.w s.h).cells.length c2)).setCell ⟨b, 11, none⟩ (.slice a2 (newS s.w s.h).hist.length d2)) = x := ⟨_, rfl⟩
  rw [hw9] at HWH ⊢
  clear hw9 e_0 e_1 e_2 e_3 e_4 e_5 e_6 e_7 e_8 e_9 e_10 e_11 e_f e_l
  have z_11 := HWH.out.1.c11
  have z_f := HWH.out.1.fz
  have z_l := HWH.out.1.lt
  go_wp2_with fail
  first | refine bodyPost_end (v := .tuple #[]) (by simp [results, Tryz.results81]) rfl ?_ | refine bodyPost_ret (v := .tuple #[]) (by simp [results, Tryz.results81]) rfl ?_
  refine ⟨rfl, ?_⟩
  unfold escS
  rw [if_neg (by decide), if_neg (by decide), if_neg (by decide), if_neg (by decide), if_neg (by decide), if_pos rfl]
  have hwin : Win sE 9 1 lo w9 ah dh s.hist := HAX.out.win.ch HWH.out.2.1 (fun j hj e => (HS.out.hb j hj).1 e)
  have hapart : ∀ j ∈ bO ah, j ≠ b ∧ j ≠ g2 := fun j hj => ⟨(HS.out.hb j hj).1, fun e => by have := (HS.out.win.blk j hj).2; omega⟩
  have h9 := HWH.out.1.hist hwin hapart
  have hup : Upd b 0 (0 + 12) (fun k => k = g ∨ k ∈ bO ah) w w9 := (Upd.refl'.below HB1.out HS.out.lt).transN HWH.out.2.2 (fun _ h => h.elim)
  exact ⟨g2, c2, ah, dh, h9, hup.set1'' (by omega) (by omega) _, .inr hg2', fun _ hj => .inl hj⟩
 have q55 : (n == 55) = false := beq_eq_false_iff_ne.2 h55
 have q56 : (n == 56) = false := beq_eq_false_iff_ne.2 h56
 have q68 : (n == 68) = false := beq_eq_false_iff_ne.2 h68
 have q69 : (n == 69) = false := beq_eq_false_iff_ne.2 h69
 have q77 : (n == 77) = false := beq_eq_false_iff_ne.2 h77
 have q99 : (n == 99) = false := beq_eq_false_iff_ne.2 h99
 go_enter Tryz.func81, Tryz.ntmps81
 go_wp2_with fail
 first | refine bodyPost_end (v := .tuple #[]) (by simp [results, Tryz.results81]) rfl ?_ | refine bodyPost_ret (v := .tuple #[]) (by simp [results, Tryz.results81]) rfl ?_
 refine ⟨rfl, ?_⟩
 unfold escS
 rw [if_neg h55, if_neg h56, if_neg h68, if_neg h69, if_neg h77, if_neg h99]
 exact .mk HS.out Upd.refl'
end
section
theorem bvNat (a : Nat) (ha : a < 4611686018427387904) : (BitVec.ofInt 64 (a : Int)).toNat = a := by
 rw [BitVec.ofInt_natCast, BitVec.toNat_ofNat]; exact Nat.mod_eq_of_lt (by omega)
theorem Zj2 (a b : Nat) (ha : a < 4611686018427387904) (hb : b < 4611686018427387904) : bits .or .i64 (a : Int) (b : Int) = ((a ||| b : Nat) : Int) := by
 have hx : a ||| b < 2 ^ 62 := Nat.or_lt_two_pow (by omega) (by omega)
 show IntKind.i64.wrap ((BitVec.ofInt 64 (a : Int) ||| BitVec.ofInt 64 (b : Int)).toNat : Int) = _
 rw [BitVec.toNat_or, bvNat a ha, bvNat b hb, IntKind.wrap_i64]
 omega
theorem and_i64 (a b : Nat) (ha : a < 4611686018427387904) (hb : b < 4611686018427387904) : bits .and .i64 (a : Int) (b : Int) = ((a &&& b : Nat) : Int) := by
 have hx : a &&& b < 2 ^ 62 := Nat.and_lt_two_pow _ (by omega)
 show IntKind.i64.wrap ((BitVec.ofInt 64 (a : Int) &&& BitVec.ofInt 64 (b : Int)).toNat : Int) = _
 rw [BitVec.toNat_and, bvNat a ha, bvNat b hb, IntKind.wrap_i64]
 omega
theorem look_c (lo b : Nat) (s : Scr) (g cc : Nat) (ah : Option Addr) (dh : Nat) (w : World) (n : Int) (h : SA lo b 0 s g cc ah dh w) (ok : sK s) (hlo : lo ≤ w.heap.size) (hn : 0 ≤ n ∧ n ≤ 9999) :
 Calls Tryz.prog 121 #[.pointer (some ⟨b, 0, none⟩), .int .i64 n] w fun e w' => e = .returned (.tuple #[]) ∧ sR lo b 0 ({ s with look := lookN s.look n }) g ah w w' := by
 have HS := zz h
 have HOK := zz ok
 have hw1 := ok.w1
 have hw2 := ok.w2
 have hh1 := ok.h1
 have hh2 := ok.h2
 have hx := ok.hx
 have hy := ok.hy
 clear h ok
 have k_4 := HS.out.c4
 have k_f := HS.out.fz
 have k_l := HS.out.lt
 obtain ⟨l, hl⟩ := eX (s.look)
 have hl7 : l ≤ 127 := by rw [← hl]; exact HOK.out.lk
 have HL := zz hl
 rw [hl] at k_4
 clear hl
 by_cases h0 : n = 0
 ·subst h0
  go_enter Tryz.func121, Tryz.ntmps121
  go_wp2_with fail
  first | refine bodyPost_end (v := .tuple #[]) (by simp [results, Tryz.results121]) rfl ?_ | refine bodyPost_ret (v := .tuple #[]) (by simp [results, Tryz.results121]) rfl ?_
  refine ⟨rfl, ?_⟩
  rw [HL.out]
  have e1 : lookN l 0 = 0 := rfl
  rw [e1]
  refine sR.mk (cc := cc) (dh := dh) ?_ ?_
  ·repeat (with_reducible refine SA.drew ?_)
   exact HS.out.setv4 _ rfl
  ·repeat (with_reducible refine Upd.drew ?_)
   exact Upd.refl'.set4 _
 by_cases h1 : n = 1
 ·subst h1
  have hb : bits .or .i64 (l : Int) 64 = ((l ||| 64 : Nat) : Int) := Zj2 l 64 (by omega) (by omega)
  obtain ⟨L, hL⟩ := eX (l ||| 64)
  rw [hL] at hb
  have HLL := zz hL
  clear hL
  go_enter Tryz.func121, Tryz.ntmps121
  go_wp2_with fail
  first | refine bodyPost_end (v := .tuple #[]) (by simp [results, Tryz.results121]) rfl ?_ | refine bodyPost_ret (v := .tuple #[]) (by simp [results, Tryz.results121]) rfl ?_
  refine ⟨rfl, ?_⟩
  rw [HL.out]
  have e1 : lookN l 1 = L := by rw [← HLL.out]; rfl
  rw [e1]
  refine sR.mk (cc := cc) (dh := dh) ?_ ?_
  ·repeat (with_reducible refine SA.drew ?_)
   exact HS.out.setv4 _ rfl
  ·repeat (with_reducible refine Upd.drew ?_)
   exact Upd.refl'.set4 _
 by_cases h4 : n = 4
 ·subst h4
  have hb : bits .or .i64 (l : Int) 32 = ((l ||| 32 : Nat) : Int) := Zj2 l 32 (by omega) (by omega)
  obtain ⟨L, hL⟩ := eX (l ||| 32)
  rw [hL] at hb
  have HLL := zz hL
  clear hL
  go_enter Tryz.func121, Tryz.ntmps121
  go_wp2_with fail
  first | refine bodyPost_end (v := .tuple #[]) (by simp [results, Tryz.results121]) rfl ?_ | refine bodyPost_ret (v := .tuple #[]) (by simp [results, Tryz.results121]) rfl ?_
  refine ⟨rfl, ?_⟩
  rw [HL.out]
  have e1 : lookN l 4 = L := by rw [← HLL.out]; rfl
  rw [e1]
  refine sR.mk (cc := cc) (dh := dh) ?_ ?_
  ·repeat (with_reducible refine SA.drew ?_)
   exact HS.out.setv4 _ rfl
  ·repeat (with_reducible refine Upd.drew ?_)
   exact Upd.refl'.set4 _
 by_cases h7 : n = 7
 ·subst h7
  have hb : bits .or .i64 (l : Int) 16 = ((l ||| 16 : Nat) : Int) := Zj2 l 16 (by omega) (by omega)
  obtain ⟨L, hL⟩ := eX (l ||| 16)
  rw [hL] at hb
  have HLL := zz hL
  clear hL
  go_enter Tryz.func121, Tryz.ntmps121
  go_wp2_with fail
  first | refine bodyPost_end (v := .tuple #[]) (by simp [results, Tryz.results121]) rfl ?_ | refine bodyPost_ret (v := .tuple #[]) (by simp [results, Tryz.results121]) rfl ?_
  refine ⟨rfl, ?_⟩
  rw [HL.out]
  have e1 : lookN l 7 = L := by rw [← HLL.out]; rfl
  rw [e1]
  refine sR.mk (cc := cc) (dh := dh) ?_ ?_
  ·repeat (with_reducible refine SA.drew ?_)
   exact HS.out.setv4 _ rfl
  ·repeat (with_reducible refine Upd.drew ?_)
   exact Upd.refl'.set4 _
 have q0 : (n == 0) = false := beq_eq_false_iff_ne.2 h0
 have q1 : (n == 1) = false := beq_eq_false_iff_ne.2 h1
 have q4 : (n == 4) = false := beq_eq_false_iff_ne.2 h4
 have q7 : (n == 7) = false := beq_eq_false_iff_ne.2 h7
 have hand : bits .and .i64 (l : Int) 112 = ((l &&& 112 : Nat) : Int) := and_i64 l 112 (by omega) (by omega)
 obtain ⟨M, hM⟩ := eX (l &&& 112)
 have hM7 : M ≤ 112 := by rw [← hM]; exact Nat.and_le_right
 rw [hM] at hand
 have HM := zz hM
 clear hM
 by_cases hr : 30 ≤ n ∧ n ≤ 37
 ·obtain ⟨hr1, hr2⟩ := hr
  have HI : Hid (inB n 30 37 = true) := zz (by simp [inB]; omega)
  obtain ⟨d, hd⟩ : ∃ d : Nat, n - 29 = (d : Int) := ⟨(n - 29).toNat, by omega⟩
  have hor : bits .or .i64 (M : Int) (d : Int) = ((M ||| d : Nat) : Int) := Zj2 M d (by omega) (by omega)
  obtain ⟨L, hL⟩ := eX (M ||| d)
  rw [hL] at hor
  have HLL := zz hL
  have HD := zz hd
  clear hL
  go_enter Tryz.func121, Tryz.ntmps121
  go_wp2_with (go_at_call 60; refine (lI _ _ _ _).mono ?_; rw [HI.out]; rintro e w' ⟨rfl, rfl⟩)
  first | refine bodyPost_end (v := .tuple #[]) (by simp [results, Tryz.results121]) rfl ?_ | refine bodyPost_ret (v := .tuple #[]) (by simp [results, Tryz.results121]) rfl ?_
  refine ⟨rfl, ?_⟩
  rw [HL.out]
  have e1 : lookN l n = L := by unfold lookN; rw [if_neg (by omega), if_neg h1, if_neg h4, if_neg h7, if_pos (by omega), HM.out, ← HLL.out]; congr 1; have := HD.out; omega
  rw [e1]
  refine sR.mk (cc := cc) (dh := dh) ?_ ?_
  ·repeat (with_reducible refine SA.drew ?_)
   exact HS.out.setv4 _ rfl
  ·repeat (with_reducible refine Upd.drew ?_)
   exact Upd.refl'.set4 _
 ·have HI : Hid (inB n 30 37 = false) := zz (by simp only [inB, Bool.and_eq_false_iff, decide_eq_false_iff_not]; omega)
  by_cases h39 : n = 39
  ·subst h39
   go_enter Tryz.func121, Tryz.ntmps121
   go_wp2_with (go_at_call 60; refine (lI _ _ _ _).mono ?_; rw [HI.out]; rintro e w' ⟨rfl, rfl⟩)
   first | refine bodyPost_end (v := .tuple #[]) (by simp [results, Tryz.results121]) rfl ?_ | refine bodyPost_ret (v := .tuple #[]) (by simp [results, Tryz.results121]) rfl ?_
   refine ⟨rfl, ?_⟩
   rw [HL.out]
   have e1 : lookN l 39 = M := HM.out
   rw [e1]
   refine sR.mk (cc := cc) (dh := dh) ?_ ?_
   ·repeat (with_reducible refine SA.drew ?_)
    exact HS.out.setv4 _ rfl
   ·repeat (with_reducible refine Upd.drew ?_)
    exact Upd.refl'.set4 _
  ·have q39 : (n == 39) = false := beq_eq_false_iff_ne.2 h39
   go_enter Tryz.func121, Tryz.ntmps121
   go_wp2_with (go_at_call 60; refine (lI _ _ _ _).mono ?_; rw [HI.out]; rintro e w' ⟨rfl, rfl⟩)
   first | refine bodyPost_end (v := .tuple #[]) (by simp [results, Tryz.results121]) rfl ?_ | refine bodyPost_ret (v := .tuple #[]) (by simp [results, Tryz.results121]) rfl ?_
   refine ⟨rfl, ?_⟩
   rw [HL.out]
   have e1 : lookN l n = l := by unfold lookN; rw [if_neg (by omega), if_neg h1, if_neg h4, if_neg h7, if_neg hr, if_neg h39]
   rw [e1]
   refine sR.mk (cc := cc) (dh := dh) ?_ ?_
   ·repeat (with_reducible refine SA.drew ?_)
    exact HS.out.setv4 _ rfl
   ·repeat (with_reducible refine Upd.drew ?_)
    exact Upd.refl'.set4 _
end
section
def lookI (l : Nat) (n : Int) : Nat :=
 if n ≤ 0 then 0 else if n = 1 then l ||| 64 else if n = 4 then l ||| 32 else if n = 7 then l ||| 16
 else if 30 ≤ n ∧ n ≤ 37 then ((l &&& 112) ||| n.toNat) - 29 else if n = 39 then l &&& 112 else l
def csiI (s : Scr) (c : Int) (xs : List Int) : Scr := if c = 109 then { s with look := xs.foldl lookI s.look } else csiS s c xs
def actI (s : Scr) (a : AV) : Scr := if a.kind = 4 ∧ a.priv = false then csiI s a.n a.args else actS s a
theorem lookI_ok {l : Nat} (h : l ≤ 127) (n : Int) : lookI l n ≤ 127 := by
 unfold lookI
 split
 ·omega
 split
 ·exact or_le h (by omega)
 split
 ·exact or_le h (by omega)
 split
 ·exact or_le h (by omega)
 split
 ·exact Nat.le_trans (Nat.sub_le _ _) (or_le (Nat.le_trans Nat.and_le_left h) (by omega))
 split
 ·exact Nat.le_trans Nat.and_le_left h
 ·exact h
theorem Zl6 {l : Nat} (h : l ≤ 127) : ∀ xs : List Int, xs.foldl lookI l ≤ 127
 | [] => h
 | x :: xs => by rw [List.foldl_cons]; exact Zl6 (lookI_ok h x) xs
theorem sK.csiI {s : Scr} (h : sK s) (c : Int) (xs : List Int) : sK (csiI s c xs) := by
 unfold Go.Proofs.YtjmpgeffkdjpdaaGreatDoor.csiI
 refine iO (fun _ => ?_) (fun _ => h.csi c xs)
 exact ⟨h.w1, h.w2, h.h1, h.h2, h.hx, h.hy, Zl6 h.lk xs, h.tb, h.bh, h.hsx, h.hsy, h.ti, h.cn, h.cs, h.hn, h.hs⟩
theorem sK.actI {s : Scr} (h : sK s) {a : AV} (ha : AcOK a) : sK (actI s a) := by
 unfold Go.Proofs.YtjmpgeffkdjpdaaGreatDoor.actI
 exact iO (fun _ => h.csiI _ _) (fun _ => h.act ha)
theorem andNot15 : ∀ l : Fin 128, bits .andNot .i64 (l.val : Int) 15 = ((l.val &&& 112 : Nat) : Int) := by decide +kernel
theorem Yb1 (lo b o : Nat) (s : Scr) (g cc : Nat) (ah : Option Addr) (dh : Nat) (w : World) (n : Int) (h : SA lo b o s g cc ah dh w) (ok : sK s) (hlo : lo ≤ w.heap.size) :
 Calls Tryz.prog 74 #[.pointer (some ⟨b, o, none⟩), .int .i64 n] w fun e w' => e = .returned (.tuple #[]) ∧ sR lo b o (ctlS s n) g ah w w' := by
 have HS := zz h
 have HOK := zz ok
 have hw1 := ok.w1
 have hw2 := ok.w2
 have hh1 := ok.h1
 have hh2 := ok.h2
 have hx := ok.hx
 have hy := ok.hy
 clear ok
 obtain ⟨x8, hx8⟩ := eX (s.x / 8)
 have hq8 : (s.x : Int).tdiv 8 = (x8 : Int) := by rw [Int.tdiv_eq_ediv_of_nonneg (by omega)]; omega
 have hq9 : (s.x : Int) / 8 = (x8 : Int) := by omega
 have HX8 := zz hx8
 have hx83 : x8 ≤ 3 := by omega
 obtain ⟨m8, hm8⟩ := eX (min s.x (s.w - 1))
 have hr0 : min (s.x : Int) ((s.w : Int) - 1) = (m8 : Int) := by omega
 have HM8 := zz hm8
 obtain ⟨m9, hm9⟩ := eX (min (s.w - 1) ((x8 + 1) * 8))
 have hr1 : min ((x8 : Int) * 8 + 8) ((s.w : Int) - 1) = (m9 : Int) := by omega
 have HM9 := zz hm9
 have hr2 : max 0 ((m8 : Int) - 1) = ((m8 - 1 : Nat) : Int) := by omega
 have hm24 : m8 ≤ 24 := by omega
 clear hx8 hm8 hm9
 have hw0_ : IntKind.i64.wrap ((s.w : Int) - 1) = (s.w : Int) - 1 := iIq _
 have hw1_ : IntKind.i64.wrap ((m8 : Int) - 1) = (m8 : Int) - 1 := iIq _
 have hw2_ : IntKind.i64.wrap ((x8 : Int)) = (x8 : Int) := iIq _
 have hw3_ : IntKind.i64.wrap ((x8 : Int) * 8) = (x8 : Int) * 8 := iIq _
 have hw4_ : IntKind.i64.wrap ((x8 : Int) * 8 + 8) = (x8 : Int) * 8 + 8 := iIq _
 have k_0 := h.c0
 have k_2 := h.c2
 have k_f := h.fz
 have k_l := h.lt
 clear h
 by_cases h8 : n = 8
 ·subst h8
  go_enter Tryz.func74, Tryz.ntmps74
  go_upto_region 2 with fail
  refine rB [15] [0,1,2,3,4,5,6,7,8,9,10,11,12,13,14,15] ?_
  repeat (first | refine oW (h := ?_) | refine oL (h := ?_))
  refine oO (h := ?_)
  intro K' hK
  go_simp
  refine oN hK (h := ?_)
  clear hK K'
  refine oD ?_
  go_wp2_with fail
  first | refine bodyPost_end (v := .tuple #[]) (by simp [results, Tryz.results74]) rfl ?_ | refine bodyPost_ret (v := .tuple #[]) (by simp [results, Tryz.results74]) rfl ?_
  refine ⟨rfl, ?_⟩
  unfold ctlS
  rw [if_pos rfl]
  rw [HM8.out]
  refine sR.mk (cc := cc) (dh := dh) ?_ ?_
  ·repeat (with_reducible refine SA.drew ?_)
   first | exact HS.out.setv2 _ rfl | exact HS.out.drew.setv2 _ rfl
  ·repeat (with_reducible refine Upd.drew ?_)
   first | exact Upd.refl'.set2 _ | exact Upd.refl'.drew.set2 _
 by_cases h9 : n = 9
 ·subst h9
  go_enter Tryz.func74, Tryz.ntmps74
  go_upto_region 4 with fail
  refine rB [16] [0,1,2,3,4,5,6,7,8,9,10,11,12,13,14,15,16] ?_
  repeat (first | refine oW (h := ?_) | refine oL (h := ?_))
  refine oO (h := ?_)
  intro K' hK
  go_simp
  refine oN hK (h := ?_)
  clear hK K'
  refine oD ?_
  go_wp2_with fail
  first | refine bodyPost_end (v := .tuple #[]) (by simp [results, Tryz.results74]) rfl ?_ | refine bodyPost_ret (v := .tuple #[]) (by simp [results, Tryz.results74]) rfl ?_
  refine ⟨rfl, ?_⟩
  unfold ctlS
  rw [if_neg (by decide), if_pos rfl]
  rw [HX8.out, HM9.out]
  refine sR.mk (cc := cc) (dh := dh) ?_ ?_
  ·repeat (with_reducible refine SA.drew ?_)
   first | exact HS.out.setv2 _ rfl | exact HS.out.drew.setv2 _ rfl
  ·repeat (with_reducible refine Upd.drew ?_)
   first | exact Upd.refl'.set2 _ | exact Upd.refl'.drew.set2 _
 by_cases h10 : n = 10
 ·subst h10
  go_enter Tryz.func74, Tryz.ntmps74
  go_wp2_with fail
  refine (Zo4 lo b o s g cc ah dh _ HS.out HOK.out (by first | omega | (have := Upd.refl'.size; omega))).mono ?_
  rintro e x1 ⟨rfl, hr⟩
  have HR : Hid (sR lo b o (downS s) g ah w x1) := zz (sR.trans HS.out Upd.refl' (.inl rfl) (fun _ h => .inl h) hr)
  clear hr
  go_wp2_with fail
  first | refine bodyPost_end (v := .tuple #[]) (by simp [results, Tryz.results74]) rfl ?_ | refine bodyPost_ret (v := .tuple #[]) (by simp [results, Tryz.results74]) rfl ?_
  refine ⟨rfl, ?_⟩
  unfold ctlS
  rw [if_neg (by decide), if_neg (by decide), if_pos rfl]
  exact HR.out
 by_cases h13 : n = 13
 ·subst h13
  go_enter Tryz.func74, Tryz.ntmps74
  go_wp2_with fail
  first | refine bodyPost_end (v := .tuple #[]) (by simp [results, Tryz.results74]) rfl ?_ | refine bodyPost_ret (v := .tuple #[]) (by simp [results, Tryz.results74]) rfl ?_
  refine ⟨rfl, ?_⟩
  unfold ctlS
  rw [if_neg (by decide), if_neg (by decide), if_neg (by decide), if_pos rfl]
  refine sR.mk (cc := cc) (dh := dh) ?_ ?_
  ·repeat (with_reducible refine SA.drew ?_)
   exact HS.out.setv2 _ rfl
  ·repeat (with_reducible refine Upd.drew ?_)
   exact Upd.refl'.set2 _
 have q8 : (n == 8) = false := beq_eq_false_iff_ne.2 h8
 have q9 : (n == 9) = false := beq_eq_false_iff_ne.2 h9
 have q10 : (n == 10) = false := beq_eq_false_iff_ne.2 h10
 have q13 : (n == 13) = false := beq_eq_false_iff_ne.2 h13
 go_enter Tryz.func74, Tryz.ntmps74
 go_wp2_with fail
 first | refine bodyPost_end (v := .tuple #[]) (by simp [results, Tryz.results74]) rfl ?_ | refine bodyPost_ret (v := .tuple #[]) (by simp [results, Tryz.results74]) rfl ?_
 refine ⟨rfl, ?_⟩
 unfold ctlS
 rw [if_neg h8, if_neg h9, if_neg h10, if_neg h13]
 exact .mk HS.out Upd.refl'
theorem Yd1 (lo b o : Nat) (s : Scr) (g cc : Nat) (ah : Option Addr) (dh : Nat) (w : World) (n : Int) (h : SA lo b o s g cc ah dh w) (ok : sK s) (hlo : lo ≤ w.heap.size) :
 Calls Tryz.prog 75 #[.pointer (some ⟨b, o, none⟩), .int .i64 n] w fun e w' => e = .returned (.tuple #[]) ∧ sR lo b o (escS s n) g ah w w' := by
 have HS := zz h
 have HOK := zz ok
 have hw1 := ok.w1
 have hw2 := ok.w2
 have hh1 := ok.h1
 have hh2 := ok.h2
 have hx := ok.hx
 have hy := ok.hy
 clear ok
 have k_0 := h.c0
 have k_1 := h.c1
 have k_2 := h.c2
 have k_3 := h.c3
 have k_7 := h.c7
 have k_8 := h.c8
 have k_11 := h.c11
 have k_f := h.fz
 have k_l := h.lt
 clear h
 by_cases h55 : n = 55
 ·subst h55
  go_enter Tryz.func75, Tryz.ntmps75
  have hS : w.cell? ⟨b, o + 2, none⟩ = some (.int .i64 s.x) ∧ w.cell? ⟨b, o + 3, none⟩ = some (.int .i64 s.y) := ⟨k_2, k_3⟩
  go_upto_region 2 with fail
  refine rO (fun w' => w'.cell? ⟨b, o + 2, none⟩ = some (.int .i64 s.x) ∧ w'.cell? ⟨b, o + 3, none⟩ = some (.int .i64 s.y)) [15] [0,1,2,3,4,5,6,7,8,9,10,11,12,13,14,15] ?_
  repeat (first | refine oW (h := ?_) | refine oL (hS := hS) (h := ?_))
  refine oO (hS := .inr hS) (h := ?_)
  intro K' hK
  go_simp
  refine oN hK (hS := .inr ⟨sO k_2, sO k_3⟩) (h := ?_)
  clear hK K'
  repeat (first | refine oW (h := ?_) | refine oL (h := ?_))
  refine oO (h := ?_)
  intro K' hK
  go_simp
  refine oN hK (h := ?_)
  clear hK K'
  refine oD ?_
  go_wp2_with fail
  first | refine bodyPost_end (v := .tuple #[]) (by simp [results, Tryz.results75]) rfl ?_ | refine bodyPost_ret (v := .tuple #[]) (by simp [results, Tryz.results75]) rfl ?_
  refine ⟨rfl, ?_⟩
  unfold escS
  rw [if_pos rfl]
  refine sR.mk (cc := cc) (dh := dh) ?_ ?_
  ·repeat (with_reducible refine SA.drew ?_)
   exact (HS.out.setv7 s.x rfl).setv8 s.y rfl
  ·repeat (with_reducible refine Upd.drew ?_)
   exact (Upd.refl'.set7 _).set8 _
 by_cases h56 : n = 56
 ·subst h56
  go_enter Tryz.func75, Tryz.ntmps75
  have hS : w.cell? ⟨b, o + 7, none⟩ = some (.int .i64 s.sx) ∧ w.cell? ⟨b, o + 8, none⟩ = some (.int .i64 s.sy) := ⟨k_7, k_8⟩
  go_upto_region 4 with fail
  refine rO (fun w' => w'.cell? ⟨b, o + 7, none⟩ = some (.int .i64 s.sx) ∧ w'.cell? ⟨b, o + 8, none⟩ = some (.int .i64 s.sy)) [15] [0,1,2,3,4,5,6,7,8,9,10,11,12,13,14,15] ?_
  repeat (first | refine oW (h := ?_) | refine oL (hS := hS) (h := ?_))
  refine oO (hS := .inr hS) (h := ?_)
  intro K' hK
  go_simp
  refine oN hK (hS := .inr ⟨sO k_7, sO k_8⟩) (h := ?_)
  clear hK K'
  repeat (first | refine oW (h := ?_) | refine oL (h := ?_))
  refine oO (h := ?_)
  intro K' hK
  go_simp
  refine oN hK (h := ?_)
  clear hK K'
  refine oD ?_
  go_wp2_with fail
  first | refine bodyPost_end (v := .tuple #[]) (by simp [results, Tryz.results75]) rfl ?_ | refine bodyPost_ret (v := .tuple #[]) (by simp [results, Tryz.results75]) rfl ?_
  refine ⟨rfl, ?_⟩
  unfold escS
  rw [if_neg (by decide), if_pos rfl]
  refine sR.mk (cc := cc) (dh := dh) ?_ ?_
  ·repeat (with_reducible refine SA.drew ?_)
   exact (HS.out.setv2 s.sx rfl).setv3 s.sy rfl
  ·repeat (with_reducible refine Upd.drew ?_)
   exact (Upd.refl'.set2 _).set3 _
 by_cases h68 : n = 68
 ·subst h68
  go_enter Tryz.func75, Tryz.ntmps75
  go_wp2_with fail
  refine (Zo4 lo b o s g cc ah dh _ HS.out HOK.out (by first | omega | (have := Upd.refl'.size; omega))).mono ?_
  rintro e x1 ⟨rfl, hr⟩
  have HR : Hid (sR lo b o (downS s) g ah w x1) := zz (sR.trans HS.out Upd.refl' (.inl rfl) (fun _ h => .inl h) hr)
  clear hr
  go_wp2_with fail
  first | refine bodyPost_end (v := .tuple #[]) (by simp [results, Tryz.results75]) rfl ?_ | refine bodyPost_ret (v := .tuple #[]) (by simp [results, Tryz.results75]) rfl ?_
  refine ⟨rfl, ?_⟩
  unfold escS
  rw [if_neg (by decide), if_neg (by decide), if_pos rfl]
  exact HR.out
 by_cases h69 : n = 69
 ·subst h69
  go_enter Tryz.func75, Tryz.ntmps75
  have HX : Hid (SA lo b o { s with x := 0 } g cc ah dh (w.setCell ⟨b, o + 2, none⟩ (.int .i64 0)) ∧ Upd b o (o + 12) (fun k => k = g ∨ k ∈ bO ah) w (w.setCell ⟨b, o + 2, none⟩ (.int .i64 0))) := zz ⟨HS.out.setv2 0 rfl, Upd.refl'.set2 _⟩
  have hz : lo ≤ (w.setCell ⟨b, o + 2, none⟩ (.int .i64 0)).heap.size := by have := HX.out.2.size; omega
  go_wp2_with fail
  refine (Zo4 lo b o { s with x := 0 } g cc ah dh _ HX.out.1 (HOK.out.xy (x := 0) (y := s.y) (Nat.zero_le _) hy) (by first | omega | (have := HX.out.2.size; omega))).mono ?_
  rintro e x1 ⟨rfl, hr⟩
  have HR : Hid (sR lo b o (downS { s with x := 0 }) g ah w x1) := zz (sR.trans HX.out.1 HX.out.2 (.inl rfl) (fun _ h => .inl h) hr)
  clear hr
  go_wp2_with fail
  first | refine bodyPost_end (v := .tuple #[]) (by simp [results, Tryz.results75]) rfl ?_ | refine bodyPost_ret (v := .tuple #[]) (by simp [results, Tryz.results75]) rfl ?_
  refine ⟨rfl, ?_⟩
  unfold escS
  rw [if_neg (by decide), if_neg (by decide), if_neg (by decide), if_pos rfl]
  exact HR.out
 by_cases h77 : n = 77
 ·subst h77
  go_enter Tryz.func75, Tryz.ntmps75
  go_wp2_with fail
  refine (iUp_c lo b o s g cc ah dh _ HS.out HOK.out (by first | omega | (have := Upd.refl'.size; omega))).mono ?_
  rintro e x1 ⟨rfl, hr⟩
  have HR : Hid (sR lo b o (upS s) g ah w x1) := zz (sR.trans HS.out Upd.refl' (.inl rfl) (fun _ h => .inl h) hr)
  clear hr
  go_wp2_with fail
  first | refine bodyPost_end (v := .tuple #[]) (by simp [results, Tryz.results75]) rfl ?_ | refine bodyPost_ret (v := .tuple #[]) (by simp [results, Tryz.results75]) rfl ?_
  refine ⟨rfl, ?_⟩
  unfold escS
  rw [if_neg (by decide), if_neg (by decide), if_neg (by decide), if_neg (by decide), if_pos rfl]
  exact HR.out
 by_cases h99 : n = 99
 ·subst h99
  go_enter Tryz.func75, Tryz.ntmps75
  go_upto_region 14 with fail
  refine rB [11] [0,1,2,3,4,5,6,7,8,9,10,11] ?_
  repeat (first | refine oW (h := ?_) | refine oL (h := ?_))
  refine oO (h := ?_)
  intro K' hK
  go_simp
  refine (Zx6 s.w s.h _ hw2 hh2 (by omega) (by omega)).mono ?_
  rintro e x1 ⟨ac, c2, a2, d2, rfl, hf, hb⟩
  have hb1 : Below w.heap.size w x1 := ((Below.refl _ _).drew).trans hb
  have HB1 := zz hb1
  have hn0 : 0 < (newS s.w s.h).cells.length := by simp only [newS, bL, List.length_replicate]; exact Nat.mul_pos (by omega) (by omega)
  obtain ⟨g2, rfl⟩ := hf.blk hn0
  have HF : Hid (sF w.heap.size (newS s.w s.h) (some ⟨g2, 0, none⟩) c2 a2 d2 x1) := zz hf
  have HAX := zz (HS.out.below HB1.out)
  have hg2 := Fr.blks hf.row g2 (by simp [bO])
  have hg2' : w.heap.size ≤ g2 := hg2.1
  have e_0 := HAX.out.c0
  have e_1 := HAX.out.c1
  have e_2 := HAX.out.c2
  have e_3 := HAX.out.c3
  have e_4 := HAX.out.c4
  have e_5 := HAX.out.c5
  have e_6 := HAX.out.c6
  have e_7 := HAX.out.c7
  have e_8 := HAX.out.c8
  have e_9 := HAX.out.c9
  have e_10 := HAX.out.c10
  have e_11 := HAX.out.c11
  have e_f := HAX.out.fz
  have e_l := HAX.out.lt
  clear hf hb hn0 hg2
  unfold scrV
  refine oN hK (h := ?_)
  clear hK K'
  repeat (first | refine oW (h := ?_) | refine oL (h := ?_))
  refine oO (h := ?_)
  intro K' hK
  go_simp
  refine oN hK (h := ?_)
  clear hK K'
  refine oD ?_
  have hne : g2 ≠ b := by omega
  have hnh : ∀ j ∈ bO a2, j ≠ b := fun j hj => by have := (HF.out.win.blk j hj).1; omega
  have HWH := zz (HAX.out.whole (HF.out.low hlo) hne hnh)
  obtain ⟨w9, hw9⟩ : ∃ x, ((((((((((((x1.setCell ⟨b, o, none⟩ (.int .i64 ((newS s.w s.h).w : Int))).setCell ⟨b, o + 1, none⟩ (.int .i64 ((newS s.w s.h).h : Int))).setCell ⟨b, o + 2, none⟩ (.int .i64 ((newS s.w s.h).x : Int))).setCell ⟨b, o + 3, none⟩ (.int .i64 ((newS s.w s.h).y : Int))).setCell ⟨b, o + 4, none⟩ (.int .i64 ((newS s.w s.h).look : Int))).setCell ⟨b, o + 5, none⟩ (.int .i64 ((newS s.w s.h).top : Int))).setCell ⟨b, o + 6, none⟩ (.int .i64 ((newS s.w s.h).bot : Int))).setCell ⟨b, o + 7, none⟩ (.int .i64 ((newS s.w s.h).sx : Int))).setCell ⟨b, o + 8, none⟩ (.int .i64 ((newS s.w s.h).sy : Int))).setCell ⟨b, o + 9, none⟩ (.string (newS s.w s.h).title)).setCell ⟨b, o + 10, none⟩ (.slice (some ⟨g2, 0, none⟩) (newS s.w s.h).cells.length c2)).setCell ⟨b, o + 11, none⟩ (.slice a2 (newS s.w s.h).hist.length d2)) = x := ⟨_, rfl⟩
  rw [hw9] at HWH ⊢
  clear hw9 hb1 e_f e_l e_0 e_1 e_2 e_3 e_4 e_5 e_6 e_7 e_8 e_9 e_10 e_11
  have z_11 := HWH.out.1.c11
  have z_f := HWH.out.1.fz
  have z_l := HWH.out.1.lt
  go_wp2_with fail
  first | refine bodyPost_end (v := .tuple #[]) (by simp [results, Tryz.results75]) rfl ?_ | refine bodyPost_ret (v := .tuple #[]) (by simp [results, Tryz.results75]) rfl ?_
  refine ⟨rfl, ?_⟩
  unfold escS
  rw [if_neg (by decide), if_neg (by decide), if_neg (by decide), if_neg (by decide), if_neg (by decide), if_pos rfl]
  have hwin : Win sE 9 1 lo w9 ah dh s.hist := HAX.out.win.ch HWH.out.2.1 (fun j hj e => (HS.out.hb j hj).1 e)
  have hapart : ∀ j ∈ bO ah, j ≠ b ∧ j ≠ g2 := fun j hj => ⟨(HS.out.hb j hj).1, fun e => by have := (HS.out.win.blk j hj).2; omega⟩
  have h9 := HWH.out.1.hist hwin hapart
  have hup : Upd b o (o + 12) (fun k => k = g ∨ k ∈ bO ah) w w9 := (Upd.refl'.below HB1.out HS.out.lt).transN HWH.out.2.2 (fun _ h => h.elim)
  exact ⟨g2, c2, ah, dh, h9, hup.set1'' (by omega) (by omega) _, .inr hg2', fun _ hj => .inl hj⟩
 have q55 : (n == 55) = false := beq_eq_false_iff_ne.2 h55
 have q56 : (n == 56) = false := beq_eq_false_iff_ne.2 h56
 have q68 : (n == 68) = false := beq_eq_false_iff_ne.2 h68
 have q69 : (n == 69) = false := beq_eq_false_iff_ne.2 h69
 have q77 : (n == 77) = false := beq_eq_false_iff_ne.2 h77
 have q99 : (n == 99) = false := beq_eq_false_iff_ne.2 h99
 go_enter Tryz.func75, Tryz.ntmps75
 go_wp2_with fail
 first | refine bodyPost_end (v := .tuple #[]) (by simp [results, Tryz.results75]) rfl ?_ | refine bodyPost_ret (v := .tuple #[]) (by simp [results, Tryz.results75]) rfl ?_
 refine ⟨rfl, ?_⟩
 unfold escS
 rw [if_neg h55, if_neg h56, if_neg h68, if_neg h69, if_neg h77, if_neg h99]
 exact .mk HS.out Upd.refl'
theorem iLook_c (lo b o : Nat) (s : Scr) (g cc : Nat) (ah : Option Addr) (dh : Nat) (w : World) (n : Int) (h : SA lo b o s g cc ah dh w) (ok : sK s) (hlo : lo ≤ w.heap.size) (hn : n ≤ 9999) :
 Calls Tryz.prog 114 #[.pointer (some ⟨b, o, none⟩), .int .i64 n] w fun e w' => e = .returned (.tuple #[]) ∧ sR lo b o ({ s with look := lookI s.look n }) g ah w w' := by
 have HS := zz h
 have HOK := zz ok
 have hw1 := ok.w1
 have hw2 := ok.w2
 have hh1 := ok.h1
 have hh2 := ok.h2
 have hx := ok.hx
 have hy := ok.hy
 clear ok
 obtain ⟨l, hl⟩ := eX (s.look)
 have hl7 : l ≤ 127 := by rw [← hl]; exact HOK.out.lk
 have HL := zz hl
 have k_4 := h.c4
 have k_f := h.fz
 have k_l := h.lt
 rw [hl] at k_4
 clear h hl
 by_cases h0 : n ≤ 0
 ·skip
  go_enter Tryz.func114, Tryz.ntmps114
  go_wp2_with fail
  first | refine bodyPost_end (v := .tuple #[]) (by simp [results, Tryz.results114]) rfl ?_ | refine bodyPost_ret (v := .tuple #[]) (by simp [results, Tryz.results114]) rfl ?_
  refine ⟨rfl, ?_⟩
  rw [HL.out]
  have e1 : lookI l n = 0 := if_pos h0
  rw [e1]
  refine sR.mk (cc := cc) (dh := dh) ?_ ?_
  ·repeat (with_reducible refine SA.drew ?_)
   exact HS.out.setv4 _ rfl
  ·repeat (with_reducible refine Upd.drew ?_)
   exact Upd.refl'.set4 _
 by_cases h1 : n = 1
 ·subst h1
  have hb : bits .or .i64 (l : Int) 64 = ((l ||| 64 : Nat) : Int) := Zj2 l 64 (by omega) (by omega)
  obtain ⟨L, hL⟩ := eX (l ||| 64)
  rw [hL] at hb
  have HLL := zz hL
  clear hL
  go_enter Tryz.func114, Tryz.ntmps114
  go_wp2_with fail
  first | refine bodyPost_end (v := .tuple #[]) (by simp [results, Tryz.results114]) rfl ?_ | refine bodyPost_ret (v := .tuple #[]) (by simp [results, Tryz.results114]) rfl ?_
  refine ⟨rfl, ?_⟩
  rw [HL.out]
  have e1 : lookI l 1 = L := by rw [← HLL.out]; rfl
  rw [e1]
  refine sR.mk (cc := cc) (dh := dh) ?_ ?_
  ·repeat (with_reducible refine SA.drew ?_)
   exact HS.out.setv4 _ rfl
  ·repeat (with_reducible refine Upd.drew ?_)
   exact Upd.refl'.set4 _
 by_cases h4 : n = 4
 ·subst h4
  have hb : bits .or .i64 (l : Int) 32 = ((l ||| 32 : Nat) : Int) := Zj2 l 32 (by omega) (by omega)
  obtain ⟨L, hL⟩ := eX (l ||| 32)
  rw [hL] at hb
  have HLL := zz hL
  clear hL
  go_enter Tryz.func114, Tryz.ntmps114
  go_wp2_with fail
  first | refine bodyPost_end (v := .tuple #[]) (by simp [results, Tryz.results114]) rfl ?_ | refine bodyPost_ret (v := .tuple #[]) (by simp [results, Tryz.results114]) rfl ?_
  refine ⟨rfl, ?_⟩
  rw [HL.out]
  have e1 : lookI l 4 = L := by rw [← HLL.out]; rfl
  rw [e1]
  refine sR.mk (cc := cc) (dh := dh) ?_ ?_
  ·repeat (with_reducible refine SA.drew ?_)
   exact HS.out.setv4 _ rfl
  ·repeat (with_reducible refine Upd.drew ?_)
   exact Upd.refl'.set4 _
 by_cases h7 : n = 7
 ·subst h7
  have hb : bits .or .i64 (l : Int) 16 = ((l ||| 16 : Nat) : Int) := Zj2 l 16 (by omega) (by omega)
  obtain ⟨L, hL⟩ := eX (l ||| 16)
  rw [hL] at hb
  have HLL := zz hL
  clear hL
  go_enter Tryz.func114, Tryz.ntmps114
  go_wp2_with fail
  first | refine bodyPost_end (v := .tuple #[]) (by simp [results, Tryz.results114]) rfl ?_ | refine bodyPost_ret (v := .tuple #[]) (by simp [results, Tryz.results114]) rfl ?_
  refine ⟨rfl, ?_⟩
  rw [HL.out]
  have e1 : lookI l 7 = L := by rw [← HLL.out]; rfl
  rw [e1]
  refine sR.mk (cc := cc) (dh := dh) ?_ ?_
  ·repeat (with_reducible refine SA.drew ?_)
   exact HS.out.setv4 _ rfl
  ·repeat (with_reducible refine Upd.drew ?_)
   exact Upd.refl'.set4 _
 have h0' : ¬ n ≤ 0 := h0
 have q1 : (n == 1) = false := beq_eq_false_iff_ne.2 h1
 have q4 : (n == 4) = false := beq_eq_false_iff_ne.2 h4
 have q7 : (n == 7) = false := beq_eq_false_iff_ne.2 h7
 have hand : bits .andNot .i64 (l : Int) 15 = ((l &&& 112 : Nat) : Int) := andNot15 ⟨l, by omega⟩
 obtain ⟨M, hM⟩ := eX (l &&& 112)
 have hM7 : M ≤ 112 := by rw [← hM]; exact Nat.and_le_right
 rw [hM] at hand
 have HM := zz hM
 clear hM
 by_cases hr : 30 ≤ n ∧ n ≤ 37
 ·obtain ⟨hr1, hr2⟩ := hr
  have HI : Hid (inB n 30 37 = true) := zz (by simp [inB]; omega)
  obtain ⟨d, rfl⟩ : ∃ d : Nat, n = (d : Int) := ⟨n.toNat, by omega⟩
  have hor : bits .or .i64 (M : Int) (d : Int) = ((M ||| d : Nat) : Int) := Zj2 M d (by omega) (by omega)
  obtain ⟨L, hL⟩ := eX (M ||| d)
  have hL1 : d ≤ L := by rw [← hL]; exact Nat.right_le_or
  have hL2 : L ≤ 127 := by rw [← hL]; exact or_le (by omega) (by omega)
  rw [hL] at hor
  have HLL := zz hL
  have hw9 : IntKind.i64.wrap ((L : Int) - 29) = ((L - 29 : Nat) : Int) := by rw [iIq _]; omega
  clear hL
  go_enter Tryz.func114, Tryz.ntmps114
  go_wp2_with (go_at_call 31; refine (wI _ _ _ _).mono ?_; rw [HI.out]; rintro e w' ⟨rfl, rfl⟩)
  first | refine bodyPost_end (v := .tuple #[]) (by simp [results, Tryz.results114]) rfl ?_ | refine bodyPost_ret (v := .tuple #[]) (by simp [results, Tryz.results114]) rfl ?_
  refine ⟨rfl, ?_⟩
  rw [HL.out]
  have e1 : lookI l (d : Int) = L - 29 := by unfold lookI; rw [if_neg (by omega), if_neg h1, if_neg h4, if_neg h7, if_pos (by omega), HM.out, ← HLL.out, Int.toNat_natCast]
  rw [e1]
  refine sR.mk (cc := cc) (dh := dh) ?_ ?_
  ·repeat (with_reducible refine SA.drew ?_)
   exact HS.out.setv4 _ rfl
  ·repeat (with_reducible refine Upd.drew ?_)
   exact Upd.refl'.set4 _
 ·have HI : Hid (inB n 30 37 = false) := zz (by simp only [inB, Bool.and_eq_false_iff, decide_eq_false_iff_not]; omega)
  by_cases h39 : n = 39
  ·subst h39
   go_enter Tryz.func114, Tryz.ntmps114
   go_wp2_with (go_at_call 31; refine (wI _ _ _ _).mono ?_; rw [HI.out]; rintro e w' ⟨rfl, rfl⟩)
   first | refine bodyPost_end (v := .tuple #[]) (by simp [results, Tryz.results114]) rfl ?_ | refine bodyPost_ret (v := .tuple #[]) (by simp [results, Tryz.results114]) rfl ?_
   refine ⟨rfl, ?_⟩
   rw [HL.out]
   have e1 : lookI l 39 = M := HM.out
   rw [e1]
   refine sR.mk (cc := cc) (dh := dh) ?_ ?_
   ·repeat (with_reducible refine SA.drew ?_)
    exact HS.out.setv4 _ rfl
   ·repeat (with_reducible refine Upd.drew ?_)
    exact Upd.refl'.set4 _
  ·have q39 : (n == 39) = false := beq_eq_false_iff_ne.2 h39
   go_enter Tryz.func114, Tryz.ntmps114
   go_wp2_with (go_at_call 31; refine (wI _ _ _ _).mono ?_; rw [HI.out]; rintro e w' ⟨rfl, rfl⟩)
   first | refine bodyPost_end (v := .tuple #[]) (by simp [results, Tryz.results114]) rfl ?_ | refine bodyPost_ret (v := .tuple #[]) (by simp [results, Tryz.results114]) rfl ?_
   refine ⟨rfl, ?_⟩
   rw [HL.out]
   have e1 : lookI l n = l := by unfold lookI; rw [if_neg (by omega), if_neg h1, if_neg h4, if_neg h7, if_neg hr, if_neg h39]
   rw [e1]
   rw [← HL.out]
   exact .mk HS.out Upd.refl'
end
section
theorem lA (kd n : Int) (pv : Bool) (tx : ByteArray) (xs : List Int) (aa : Option Addr) (ca : Nat) (i : Nat) (d : Int) (w : World) (ha : Sl iE 1 w aa xs) (hi : i ≤ 7) (hx : xs.length ≤ 8) :
 Calls Tryz.prog 117 #[.agg #[.int .i64 kd, .int .i64 n, .bool pv, .slice aa xs.length ca, .string tx], .int .i64 i, .int .i64 d] w fun e w' => e = .returned (.int .i64 (argA xs i d)) ∧ Below w.heap.size w w' := by
 obtain ⟨ln, hln⟩ := eX (xs.length)
 have HLN := zz hln
 by_cases hil : i < xs.length
 ·obtain ⟨b1, o1, rfl, hb1, hc1⟩ := (ha.alloc (.cells #[.int .i64 kd, .int .i64 n, .bool pv, .slice aa xs.length ca, .string tx] 38)).at hil
  have c1 := hc1 i hil 0 (by omega)
  obtain ⟨x, hx1⟩ := eX (xs[i])
  simp only [iE, Nat.mul_one, Nat.add_zero, List.getElem?_cons_zero] at c1
  rw [hx1] at c1
  have hv : argA xs i d = if x < 0 then d else x := by unfold argA; rw [dif_pos hil, hx1]
  rw [hv]
  rw [hln] at hb1 c1 hil hx ⊢
  clear hc1 ha hln hv hx1
  have g0 : ¬ ((i : Int) ≥ (ln : Int)) := by omega
  have g1 : (i : Int) < (ln : Int) := by omega
  by_cases h0 : x < 0
  ·rw [if_pos h0]
   go_enter Tryz.func117, Tryz.ntmps117
   go_wp2_with fail
   go_ret
   exact ⟨rfl, bA⟩
  ·rw [if_neg h0]
   go_enter Tryz.func117, Tryz.ntmps117
   go_wp2_with fail
   go_ret
   exact ⟨rfl, bA⟩
 ·have hv : argA xs i d = d := by unfold argA; rw [dif_neg hil]
  rw [hv]
  rw [hln] at hil hx ⊢
  clear ha hln hv
  have g0 : (ln : Int) ≤ (i : Int) := by omega
  go_enter Tryz.func117, Tryz.ntmps117
  go_wp2_with fail
  go_ret
  exact ⟨rfl, bA⟩
theorem Zs9 (a b : Nat) (s : Scr) : ∀ n, ({ scU true a b n s with hist := s.hist } : Scr) = scU false a b n s
 | 0 => rfl
 | n + 1 => by
   have ih := Zs9 a b s n
   show ({ scU1 true a b (scU true a b n s) with hist := s.hist } : Scr) = scU1 false a b (scU false a b n s)
   rw [← ih]
   unfold scU1
   simp
theorem Yh4 (lo b : Nat) (s : Scr) (g cc : Nat) (ah : Option Addr) (dh : Nat) (w : World) (t bt n : Nat) (h : SA lo b 0 s g cc ah dh w) (ok : sK s) (htb : t ≤ bt) (hbt : bt < s.h) (hn : n ≤ 10) (hlo : lo ≤ w.heap.size) :
 Calls Tryz.prog 119 #[.pointer (some ⟨b, 0, none⟩), .int .i64 t, .int .i64 bt, .int .i64 n] w fun e w' => e = .returned (.tuple #[]) ∧ sR lo b 0 (scU false t bt n s) g ah w w' := by
 have HS := zz h
 have HOK := zz ok
 have k_11 := h.c11
 clear h ok
 go_enter Tryz.func119, Tryz.ntmps119
 go_wp2_with fail
 refine (Zk8 lo b s g cc ah dh _ t bt n HS.out HOK.out htb hbt hn hlo).mono ?_
 rintro e x1 ⟨rfl, ⟨g1, cc1, ah1, dh1, ha, hu, hg, hh⟩, hwo⟩
 have HWO := zz hwo
 have HA := zz ha
 have HU := zz hu
 have HG := zz hg
 have HH := zz hh
 have z_11 := ha.c11
 have z_f := ha.fz
 have z_l := ha.lt
 clear ha hu hg hh k_11 hwo
 go_wp2_with fail
 refine bodyPost_end (v := .tuple #[]) (by simp [results, Tryz.results119]) rfl ?_
 have hg1 : ∀ k ∈ bO ah, k ≠ b ∧ k ≠ g1 := fun k hk => ⟨(HS.out.hb k hk).1, fun e => by
  rcases HG.out with h4 | h4
  ·exact (HS.out.hb k hk).2 (e.trans h4)
  ·have := (HS.out.win.blk k hk).2; omega⟩
 have h9 := HA.out.hist HWO.out hg1
 rw [Zs9] at h9
 exact ⟨rfl, g1, cc1, ah, dh, h9, HU.out.set1'' (by omega) (by omega) _, HG.out, fun _ hi => .inl hi⟩
theorem Yg5 (lo b : Nat) (s : Scr) (g cc : Nat) (ah : Option Addr) (dh : Nat) (w : World) (t bt n : Nat) (h : SA lo b 0 s g cc ah dh w) (ok : sK s) (htb : t ≤ bt) (hbt : bt < s.h) (hn : n ≤ 10) (hlo : lo ≤ w.heap.size) :
 Calls Tryz.prog 119 #[.pointer (some ⟨b, 0, none⟩), .int .i64 t, .int .i64 bt, .int .i64 (-(n : Int))] w fun e w' => e = .returned (.tuple #[]) ∧ sR lo b 0 (scD t bt n s) g ah w w' := by
 have HS := zz h
 have HOK := zz ok
 have k_11 := h.c11
 clear h ok
 obtain ⟨V, hV⟩ := eX (-(n : Int))
 have HCALL : ∀ W, SA lo b 0 s g cc ah dh W → Calls Tryz.prog 120 #[.pointer (some ⟨b, 0, none⟩), .int .i64 t, .int .i64 bt, .int .i64 V] W fun e w' => e = .returned (.tuple #[]) ∧ SA lo b 0 (scD t bt n s) g cc ah dh w' ∧ Ch (· = g) W w' := fun W hW => by
  rw [← hV]
  exact Zk2 lo b s g cc ah dh W t bt n hW HOK.out htb hbt hn
 rw [hV]
 clear hV
 go_enter Tryz.func119, Tryz.ntmps119
 go_wp2_with fail
 refine (HCALL _ HS.out).mono ?_
 rintro e x1 ⟨rfl, ha, hc⟩
 have HA := zz ha
 have HC := zz hc
 have z_11 := ha.c11
 have z_f := ha.fz
 have z_l := ha.lt
 clear ha hc k_11
 go_wp2_with fail
 refine bodyPost_end (v := .tuple #[]) (by simp [results, Tryz.results119]) rfl ?_
 have hh : (scD t bt n s).hist = s.hist := (Zc2 t bt s n).2.2.2.2.2.2.2.2.2.2
 have h9 := HA.out.hist HA.out.win HA.out.hb
 rw [hh] at h9
 have e9 : ({ scD t bt n s with hist := s.hist } : Scr) = scD t bt n s := by rw [← hh]
 rw [e9] at h9
 exact ⟨rfl, .mk h9 ((Upd.ofCh (S := fun k => k = g ∨ k ∈ bO ah) HC.out HS.out.lt (fun e => HS.out.gb e.symm) (fun i hi => .inl (.inl hi))).set1'' (by omega) (by omega) _)⟩
end
section
theorem csP (s : Scr) {p pn nn mx cr : Nat} (hp : s.y * s.w = p) (hpn : (s.y + 1) * s.w = pn) (hnn : s.w * s.h = nn) (hmx : min s.x (s.w - 1) = mx) (hcr : curS s = cr) (h1 : 2 ≤ s.w) (h2 : s.w ≤ 24) (h3 : s.h ≤ 10) : ((s.y : Int) * (s.w : Int) = (p : Int)) ∧ (((s.y : Int) + 1) * (s.w : Int) = (pn : Int)) ∧ ((s.w : Int) * (s.h : Int) = (nn : Int)) ∧ (min (s.x : Int) ((s.w : Int) - 1) = (mx : Int)) ∧ ((p : Int) + (mx : Int) = (cr : Int)) ∧ nn ≤ 240 := by
 refine ⟨by rw [← hp]; exact (Int.natCast_mul _ _).symm, by rw [← hpn]; exact (Int.natCast_mul (s.y + 1) s.w).symm, by rw [← hnn]; exact (Int.natCast_mul _ _).symm, by omega, by rw [← hcr, ← hp, ← hmx]; unfold curS; omega, by rw [← hnn]; exact Nat.mul_le_mul h2 h3⟩
theorem csW (s : Scr) (p cr pn nn : Nat) (h : s.w ≤ 1000 ∧ s.y ≤ 1000 ∧ p ≤ 1000 ∧ cr ≤ 1000 ∧ pn ≤ 1000 ∧ nn ≤ 1000 := by omega) : IntKind.i64.wrap ((s.w : Int) - 1) = (s.w : Int) - 1 ∧ IntKind.i64.wrap (p : Int) = (p : Int) ∧ IntKind.i64.wrap (cr : Int) = (cr : Int) ∧ IntKind.i64.wrap (pn : Int) = (pn : Int) ∧ IntKind.i64.wrap (nn : Int) = (nn : Int) ∧ IntKind.i64.wrap ((s.y : Int) + 1) = (s.y : Int) + 1 ∧ IntKind.i64.wrap ((cr : Int) + 1) = (cr : Int) + 1 := by
 refine ⟨?_, ?_, ?_, ?_, ?_, ?_, ?_⟩ <;> exact iIq _
theorem Za1 {xs : List Int} {i : Nat} {d : Int} (h : ∀ x ∈ xs, -1 ≤ x ∧ x ≤ 9999) (h1 : -1 ≤ d) (h2 : d ≤ 9999) : -1 ≤ argA xs i d ∧ argA xs i d ≤ 9999 := by
 unfold argA
 split
 ·rename_i hi
  have := h _ (List.getElem_mem hi)
  split <;> omega
 ·omega
theorem csi65_c (lo b : Nat) (s : Scr) (g cc : Nat) (ah : Option Addr) (dh : Nat) (w : World) (kd : Int) (xs : List Int) (aa : Option Addr) (ca : Nat) (tx : ByteArray) (h : SA lo b 0 s g cc ah dh w) (ok : sK s) (hlo : lo ≤ w.heap.size) (ha : Sl iE 1 w aa xs) (hna : ∀ k ∈ bO aa, k ≠ b ∧ k ≠ g ∧ k ∉ bO ah) (hx8 : xs.length ≤ 8) (hxr : ∀ x ∈ xs, -1 ≤ x ∧ x ≤ 9999) :
 Calls Tryz.prog 82 #[.pointer (some ⟨b, 0, none⟩), .agg #[.int .i64 kd, .int .i64 65, .bool false, .slice aa xs.length ca, .string tx]] w fun e w' => e = .returned (.tuple #[]) ∧ sR lo b 0 (csiS s 65 xs) g ah w w' := by
 have HS := zz h
 have HOK := zz ok
 have HA := zz ha
 have HNA := zz hna
 have HXR := zz hxr
 have HX8 := zz hx8
 have hw1 := ok.w1
 have hw2 := ok.w2
 have hh1 := ok.h1
 have hh2 := ok.h2
 have hx := ok.hx
 have hy := ok.hy
 have hcur := ok.cur
 have hcn := ok.cn
 have hlt := h.lt
 obtain ⟨n, hn⟩ := eX (arg1 xs 0)
 obtain ⟨A0, hA0⟩ := eX (argA xs 0 1)
 have hAb : -1 ≤ A0 ∧ A0 ≤ 9999 := by rw [← hA0]; exact Za1 HXR.out (by omega) (by omega)
 have hm : max 1 A0 = (n : Int) := by rw [← hn, ← hA0]; unfold arg1; omega
 have hn1 : 1 ≤ n := by omega
 have hn2 : n ≤ 9999 := by omega
 have HN := zz hn
 have HA0 := zz hA0
 obtain ⟨p, hp⟩ := eX (s.y * s.w)
 obtain ⟨mx, hmx⟩ := eX (min s.x (s.w - 1))
 obtain ⟨cr, hcr⟩ := eX (curS s)
 obtain ⟨pn, hpn⟩ : ∃ q, (s.y + 1) * s.w = q := ⟨_, rfl⟩
 obtain ⟨nn, hnn⟩ := eX (s.w * s.h)
 obtain ⟨hpi, hpni, hnni, hmi, hcri, hn240⟩ := csP s hp hpn hnn hmx hcr hw1 hw2 hh2
 rw [hcr, hp, hpn, hnn] at hcur
 rw [hnn] at hcn
 obtain ⟨hc1, hc2, hc3⟩ := hcur
 have HCN := zz hcn
 have HP := zz hp
 have HMX := zz hmx
 have HCR := zz hcr
 have HPN := zz hpn
 have HNN := zz hnn
 obtain ⟨hwA, hwB, hwC, hwD, hwE, hwF, hwG⟩ := csW s p cr pn nn
 obtain ⟨ln, hln⟩ := eX (xs.length)
 have HLN := zz hln
 have HCALL : ∀ (i : Nat) (d : Int) (W : World), i ≤ 7 → Sl iE 1 W aa xs → Calls Tryz.prog 117 #[.agg #[.int .i64 kd, .int .i64 65, .bool false, .slice aa ln ca, .string tx], .int .i64 i, .int .i64 d] W fun e w' => e = .returned (.int .i64 (argA xs i d)) ∧ Below W.heap.size W w' := fun i d W hi hW => by
  rw [← hln]
  exact lA kd 65 false tx xs aa ca i d W hW hi hx8
 rw [hln]
 clear h ok ha hna hxr hx8 hn hA0 hp hmx hcr hpn hnn hcn hln
 go_enter Tryz.func82, Tryz.ntmps82
 go_wp2_with fail
 refine (HCALL 0 1 _ (by omega) (HA.out.alloc _)).mono ?_
 rintro e v0 ⟨rfl, hb0⟩
 rw [HA0.out]
 have HB0 : Hid (Below w.heap.size w v0) := zz (((Below.refl w.heap.size w).alloc (Nat.le_refl _) _).trans (hb0.mono (by simp)))
 have hz0 := HB0.out.size
 have q_l : w.heap.size < v0.heap.size := by have := hb0.size; simp at this; omega
 have q_0 : v0.cell? ⟨w.heap.size, 0, none⟩ = some (.int .i64 kd) := kC hb0 (by simp) (by simp [go_sem])
 have q_1 : v0.cell? ⟨w.heap.size, 1, none⟩ = some (.int .i64 65) := kC hb0 (by simp) (by simp [go_sem])
 have q_2 : v0.cell? ⟨w.heap.size, 2, none⟩ = some (.bool false) := kC hb0 (by simp) (by simp [go_sem])
 have q_3 : v0.cell? ⟨w.heap.size, 3, none⟩ = some (.slice aa ln ca) := kC hb0 (by simp) (by simp [go_sem])
 have q_4 : v0.cell? ⟨w.heap.size, 4, none⟩ = some (.string tx) := kC hb0 (by simp) (by simp [go_sem])
 clear hb0
 have q_b : ¬ w.heap.size = b := by omega
 have HA_nb : ∀ k ∈ bO aa, ¬ k = b := fun k hk => (HNA.out k hk).1
 have Hv0 := zz (HS.out.below HB0.out)
 have HA2 := zz (HA.out.keep HB0.out)
 have HUv0 : Hid (Upd b 0 (0 + 12) (fun k => k = g ∨ k ∈ bO ah) w v0) := zz (Upd.refl'.below HB0.out HS.out.lt)
 have HA2_nb := HA_nb
 have k_0 := Hv0.out.e0
 have k_1 := Hv0.out.e1
 have k_2 := Hv0.out.e2
 have k_3 := Hv0.out.e3
 have k_4 := Hv0.out.e4
 have k_5 := Hv0.out.e5
 have k_6 := Hv0.out.e6
 have k_7 := Hv0.out.e7
 have k_8 := Hv0.out.e8
 have k_9 := Hv0.out.e9
 have k_10 := Hv0.out.e10
 have k_11 := Hv0.out.e11
 have k_f := Hv0.out.fz
 have k_l := Hv0.out.lt
 go_upto_region 4 with fail
 have hSc1 := And.intro k_0 (And.intro k_2 k_3)
 refine rO (fun w' => w'.cell? ⟨b, 0, none⟩ = some (.int .i64 s.w) ∧ w'.cell? ⟨b, 2, none⟩ = some (.int .i64 s.x) ∧ w'.cell? ⟨b, 3, none⟩ = some (.int .i64 s.y)) [] [0,1,2,3,4,5,6,7,8,9,10,11,12,13,14,15,16,17,18,19,20] ?_
 iterate 21 (first | refine oW (h := ?_) | refine oL (hS := hSc1) (h := ?_))
 refine oD ?_
 obtain ⟨v1, hv1⟩ := eX (v0.drew)
 have HBv1 : Hid (Below v0.heap.size v0 v1) := zz (by rw [← hv1]; exact (Below.refl _ _).drew)
 rw [hv1]
 have hzv1 := HBv1.out.size
 have Hv1 := zz (Hv0.out.below HBv1.out)
 have HUv1 : Hid (Upd b 0 (0 + 12) (fun k => k = g ∨ k ∈ bO ah) w v1) := zz (HUv0.out.below HBv1.out Hv0.out.lt)
 have qn_0 := kC HBv1.out q_l q_0
 have qn_1 := kC HBv1.out q_l q_1
 have qn_2 := kC HBv1.out q_l q_2
 have qn_3 := kC HBv1.out q_l q_3
 have qn_4 := kC HBv1.out q_l q_4
 have qn_l := Nat.lt_of_lt_of_le q_l HBv1.out.size
 clear q_0 q_1 q_2 q_3 q_4 q_l
 have HA2n := zz (HA2.out.keep HBv1.out)
 clear k_f k_l k_0 k_1 k_2 k_3 k_4 k_5 k_6 k_7 k_8 k_9 k_10 k_11 hv1 hSc1
 have k_0 := Hv1.out.e0
 have k_1 := Hv1.out.e1
 have k_2 := Hv1.out.e2
 have k_3 := Hv1.out.e3
 have k_4 := Hv1.out.e4
 have k_5 := Hv1.out.e5
 have k_6 := Hv1.out.e6
 have k_7 := Hv1.out.e7
 have k_8 := Hv1.out.e8
 have k_9 := Hv1.out.e9
 have k_10 := Hv1.out.e10
 have k_11 := Hv1.out.e11
 have k_f := Hv1.out.fz
 have k_l := Hv1.out.lt
 go_wp2_with fail
 first | refine bodyPost_end (v := .tuple #[]) (by simp [results, Tryz.results82]) rfl ?_ | refine bodyPost_ret (v := .tuple #[]) (by simp [results, Tryz.results82]) rfl ?_
 refine ⟨rfl, ?_⟩
 unfold csiS
 rw [if_pos (by decide)]
 rw [HN.out]
 refine sR.mk (cc := cc) (dh := dh) ?_ ?_
 ·repeat (with_reducible refine SA.drew ?_)
  exact Hv1.out.setv3 _ (by omega)
 ·repeat (with_reducible refine Upd.drew ?_)
  exact HUv1.out.set3 _
theorem csi66_c (lo b : Nat) (s : Scr) (g cc : Nat) (ah : Option Addr) (dh : Nat) (w : World) (kd : Int) (xs : List Int) (aa : Option Addr) (ca : Nat) (tx : ByteArray) (h : SA lo b 0 s g cc ah dh w) (ok : sK s) (hlo : lo ≤ w.heap.size) (ha : Sl iE 1 w aa xs) (hna : ∀ k ∈ bO aa, k ≠ b ∧ k ≠ g ∧ k ∉ bO ah) (hx8 : xs.length ≤ 8) (hxr : ∀ x ∈ xs, -1 ≤ x ∧ x ≤ 9999) :
 Calls Tryz.prog 82 #[.pointer (some ⟨b, 0, none⟩), .agg #[.int .i64 kd, .int .i64 66, .bool false, .slice aa xs.length ca, .string tx]] w fun e w' => e = .returned (.tuple #[]) ∧ sR lo b 0 (csiS s 66 xs) g ah w w' := by
 have HS := zz h
 have HOK := zz ok
 have HA := zz ha
 have HNA := zz hna
 have HXR := zz hxr
 have HX8 := zz hx8
 have hw1 := ok.w1
 have hw2 := ok.w2
 have hh1 := ok.h1
 have hh2 := ok.h2
 have hx := ok.hx
 have hy := ok.hy
 have hcur := ok.cur
 have hcn := ok.cn
 have hlt := h.lt
 obtain ⟨n, hn⟩ := eX (arg1 xs 0)
 obtain ⟨A0, hA0⟩ := eX (argA xs 0 1)
 have hAb : -1 ≤ A0 ∧ A0 ≤ 9999 := by rw [← hA0]; exact Za1 HXR.out (by omega) (by omega)
 have hm : max 1 A0 = (n : Int) := by rw [← hn, ← hA0]; unfold arg1; omega
 have hn1 : 1 ≤ n := by omega
 have hn2 : n ≤ 9999 := by omega
 have HN := zz hn
 have HA0 := zz hA0
 obtain ⟨p, hp⟩ := eX (s.y * s.w)
 obtain ⟨mx, hmx⟩ := eX (min s.x (s.w - 1))
 obtain ⟨cr, hcr⟩ := eX (curS s)
 obtain ⟨pn, hpn⟩ : ∃ q, (s.y + 1) * s.w = q := ⟨_, rfl⟩
 obtain ⟨nn, hnn⟩ := eX (s.w * s.h)
 obtain ⟨hpi, hpni, hnni, hmi, hcri, hn240⟩ := csP s hp hpn hnn hmx hcr hw1 hw2 hh2
 rw [hcr, hp, hpn, hnn] at hcur
 rw [hnn] at hcn
 obtain ⟨hc1, hc2, hc3⟩ := hcur
 have HCN := zz hcn
 have HP := zz hp
 have HMX := zz hmx
 have HCR := zz hcr
 have HPN := zz hpn
 have HNN := zz hnn
 obtain ⟨hwA, hwB, hwC, hwD, hwE, hwF, hwG⟩ := csW s p cr pn nn
 obtain ⟨ln, hln⟩ := eX (xs.length)
 have HLN := zz hln
 have HCALL : ∀ (i : Nat) (d : Int) (W : World), i ≤ 7 → Sl iE 1 W aa xs → Calls Tryz.prog 117 #[.agg #[.int .i64 kd, .int .i64 66, .bool false, .slice aa ln ca, .string tx], .int .i64 i, .int .i64 d] W fun e w' => e = .returned (.int .i64 (argA xs i d)) ∧ Below W.heap.size W w' := fun i d W hi hW => by
  rw [← hln]
  exact lA kd 66 false tx xs aa ca i d W hW hi hx8
 rw [hln]
 clear h ok ha hna hxr hx8 hn hA0 hp hmx hcr hpn hnn hcn hln
 go_enter Tryz.func82, Tryz.ntmps82
 go_wp2_with fail
 refine (HCALL 0 1 _ (by omega) (HA.out.alloc _)).mono ?_
 rintro e v0 ⟨rfl, hb0⟩
 rw [HA0.out]
 have HB0 : Hid (Below w.heap.size w v0) := zz (((Below.refl w.heap.size w).alloc (Nat.le_refl _) _).trans (hb0.mono (by simp)))
 have hz0 := HB0.out.size
 have q_l : w.heap.size < v0.heap.size := by have := hb0.size; simp at this; omega
 have q_0 : v0.cell? ⟨w.heap.size, 0, none⟩ = some (.int .i64 kd) := kC hb0 (by simp) (by simp [go_sem])
 have q_1 : v0.cell? ⟨w.heap.size, 1, none⟩ = some (.int .i64 66) := kC hb0 (by simp) (by simp [go_sem])
 have q_2 : v0.cell? ⟨w.heap.size, 2, none⟩ = some (.bool false) := kC hb0 (by simp) (by simp [go_sem])
 have q_3 : v0.cell? ⟨w.heap.size, 3, none⟩ = some (.slice aa ln ca) := kC hb0 (by simp) (by simp [go_sem])
 have q_4 : v0.cell? ⟨w.heap.size, 4, none⟩ = some (.string tx) := kC hb0 (by simp) (by simp [go_sem])
 clear hb0
 have q_b : ¬ w.heap.size = b := by omega
 have HA_nb : ∀ k ∈ bO aa, ¬ k = b := fun k hk => (HNA.out k hk).1
 have Hv0 := zz (HS.out.below HB0.out)
 have HA2 := zz (HA.out.keep HB0.out)
 have HUv0 : Hid (Upd b 0 (0 + 12) (fun k => k = g ∨ k ∈ bO ah) w v0) := zz (Upd.refl'.below HB0.out HS.out.lt)
 have HA2_nb := HA_nb
 have k_0 := Hv0.out.e0
 have k_1 := Hv0.out.e1
 have k_2 := Hv0.out.e2
 have k_3 := Hv0.out.e3
 have k_4 := Hv0.out.e4
 have k_5 := Hv0.out.e5
 have k_6 := Hv0.out.e6
 have k_7 := Hv0.out.e7
 have k_8 := Hv0.out.e8
 have k_9 := Hv0.out.e9
 have k_10 := Hv0.out.e10
 have k_11 := Hv0.out.e11
 have k_f := Hv0.out.fz
 have k_l := Hv0.out.lt
 go_upto_region 4 with fail
 have hSc1 := And.intro k_0 (And.intro k_2 k_3)
 refine rO (fun w' => w'.cell? ⟨b, 0, none⟩ = some (.int .i64 s.w) ∧ w'.cell? ⟨b, 2, none⟩ = some (.int .i64 s.x) ∧ w'.cell? ⟨b, 3, none⟩ = some (.int .i64 s.y)) [] [0,1,2,3,4,5,6,7,8,9,10,11,12,13,14,15,16,17,18,19,20] ?_
 iterate 21 (first | refine oW (h := ?_) | refine oL (hS := hSc1) (h := ?_))
 refine oD ?_
 obtain ⟨v1, hv1⟩ := eX (v0.drew)
 have HBv1 : Hid (Below v0.heap.size v0 v1) := zz (by rw [← hv1]; exact (Below.refl _ _).drew)
 rw [hv1]
 have hzv1 := HBv1.out.size
 have Hv1 := zz (Hv0.out.below HBv1.out)
 have HUv1 : Hid (Upd b 0 (0 + 12) (fun k => k = g ∨ k ∈ bO ah) w v1) := zz (HUv0.out.below HBv1.out Hv0.out.lt)
 have qn_0 := kC HBv1.out q_l q_0
 have qn_1 := kC HBv1.out q_l q_1
 have qn_2 := kC HBv1.out q_l q_2
 have qn_3 := kC HBv1.out q_l q_3
 have qn_4 := kC HBv1.out q_l q_4
 have qn_l := Nat.lt_of_lt_of_le q_l HBv1.out.size
 clear q_0 q_1 q_2 q_3 q_4 q_l
 have HA2n := zz (HA2.out.keep HBv1.out)
 clear k_f k_l k_0 k_1 k_2 k_3 k_4 k_5 k_6 k_7 k_8 k_9 k_10 k_11 hv1 hSc1
 have k_0 := Hv1.out.e0
 have k_1 := Hv1.out.e1
 have k_2 := Hv1.out.e2
 have k_3 := Hv1.out.e3
 have k_4 := Hv1.out.e4
 have k_5 := Hv1.out.e5
 have k_6 := Hv1.out.e6
 have k_7 := Hv1.out.e7
 have k_8 := Hv1.out.e8
 have k_9 := Hv1.out.e9
 have k_10 := Hv1.out.e10
 have k_11 := Hv1.out.e11
 have k_f := Hv1.out.fz
 have k_l := Hv1.out.lt
 have hwI : IntKind.i64.wrap ((s.h : Int) - 1) = (s.h : Int) - 1 := iIq _
 have hwJ : IntKind.i64.wrap ((s.y : Int) + (n : Int)) = (s.y : Int) + (n : Int) := iIq _
 go_upto_region 9 with fail
 have hSc2 := And.intro k_1 k_3
 refine rO (fun w' => w'.cell? ⟨b, 1, none⟩ = some (.int .i64 s.h) ∧ w'.cell? ⟨b, 3, none⟩ = some (.int .i64 s.y)) [15] [0,1,2,3,4,5,6,7,8,9,10,11,12,13,14,15] ?_
 iterate 15 (first | refine oW (h := ?_) | refine oL (hS := hSc2) (h := ?_))
 refine oO (hS := .inl rfl) (h := ?_)
 intro K' hK
 go_simp
 refine oN hK (hS := .inl rfl) (h := ?_)
 clear hK K'
 refine oD ?_
 go_wp2_with fail
 first | refine bodyPost_end (v := .tuple #[]) (by simp [results, Tryz.results82]) rfl ?_ | refine bodyPost_ret (v := .tuple #[]) (by simp [results, Tryz.results82]) rfl ?_
 refine ⟨rfl, ?_⟩
 unfold csiS
 rw [if_neg (by decide), if_pos (by decide)]
 rw [HN.out]
 refine sR.mk (cc := cc) (dh := dh) ?_ ?_
 ·repeat (with_reducible refine SA.drew ?_)
  exact Hv1.out.setv3 _ (by omega)
 ·repeat (with_reducible refine Upd.drew ?_)
  exact HUv1.out.set3 _
theorem csi67_c (lo b : Nat) (s : Scr) (g cc : Nat) (ah : Option Addr) (dh : Nat) (w : World) (kd : Int) (xs : List Int) (aa : Option Addr) (ca : Nat) (tx : ByteArray) (h : SA lo b 0 s g cc ah dh w) (ok : sK s) (hlo : lo ≤ w.heap.size) (ha : Sl iE 1 w aa xs) (hna : ∀ k ∈ bO aa, k ≠ b ∧ k ≠ g ∧ k ∉ bO ah) (hx8 : xs.length ≤ 8) (hxr : ∀ x ∈ xs, -1 ≤ x ∧ x ≤ 9999) :
 Calls Tryz.prog 82 #[.pointer (some ⟨b, 0, none⟩), .agg #[.int .i64 kd, .int .i64 67, .bool false, .slice aa xs.length ca, .string tx]] w fun e w' => e = .returned (.tuple #[]) ∧ sR lo b 0 (csiS s 67 xs) g ah w w' := by
 have HS := zz h
 have HOK := zz ok
 have HA := zz ha
 have HNA := zz hna
 have HXR := zz hxr
 have HX8 := zz hx8
 have hw1 := ok.w1
 have hw2 := ok.w2
 have hh1 := ok.h1
 have hh2 := ok.h2
 have hx := ok.hx
 have hy := ok.hy
 have hcur := ok.cur
 have hcn := ok.cn
 have hlt := h.lt
 obtain ⟨n, hn⟩ := eX (arg1 xs 0)
 obtain ⟨A0, hA0⟩ := eX (argA xs 0 1)
 have hAb : -1 ≤ A0 ∧ A0 ≤ 9999 := by rw [← hA0]; exact Za1 HXR.out (by omega) (by omega)
 have hm : max 1 A0 = (n : Int) := by rw [← hn, ← hA0]; unfold arg1; omega
 have hn1 : 1 ≤ n := by omega
 have hn2 : n ≤ 9999 := by omega
 have HN := zz hn
 have HA0 := zz hA0
 obtain ⟨p, hp⟩ := eX (s.y * s.w)
 obtain ⟨mx, hmx⟩ := eX (min s.x (s.w - 1))
 obtain ⟨cr, hcr⟩ := eX (curS s)
 obtain ⟨pn, hpn⟩ : ∃ q, (s.y + 1) * s.w = q := ⟨_, rfl⟩
 obtain ⟨nn, hnn⟩ := eX (s.w * s.h)
 obtain ⟨hpi, hpni, hnni, hmi, hcri, hn240⟩ := csP s hp hpn hnn hmx hcr hw1 hw2 hh2
 rw [hcr, hp, hpn, hnn] at hcur
 rw [hnn] at hcn
 obtain ⟨hc1, hc2, hc3⟩ := hcur
 have HCN := zz hcn
 have HP := zz hp
 have HMX := zz hmx
 have HCR := zz hcr
 have HPN := zz hpn
 have HNN := zz hnn
 obtain ⟨hwA, hwB, hwC, hwD, hwE, hwF, hwG⟩ := csW s p cr pn nn
 obtain ⟨ln, hln⟩ := eX (xs.length)
 have HLN := zz hln
 have HCALL : ∀ (i : Nat) (d : Int) (W : World), i ≤ 7 → Sl iE 1 W aa xs → Calls Tryz.prog 117 #[.agg #[.int .i64 kd, .int .i64 67, .bool false, .slice aa ln ca, .string tx], .int .i64 i, .int .i64 d] W fun e w' => e = .returned (.int .i64 (argA xs i d)) ∧ Below W.heap.size W w' := fun i d W hi hW => by
  rw [← hln]
  exact lA kd 67 false tx xs aa ca i d W hW hi hx8
 rw [hln]
 clear h ok ha hna hxr hx8 hn hA0 hp hmx hcr hpn hnn hcn hln
 go_enter Tryz.func82, Tryz.ntmps82
 go_wp2_with fail
 refine (HCALL 0 1 _ (by omega) (HA.out.alloc _)).mono ?_
 rintro e v0 ⟨rfl, hb0⟩
 rw [HA0.out]
 have HB0 : Hid (Below w.heap.size w v0) := zz (((Below.refl w.heap.size w).alloc (Nat.le_refl _) _).trans (hb0.mono (by simp)))
 have hz0 := HB0.out.size
 have q_l : w.heap.size < v0.heap.size := by have := hb0.size; simp at this; omega
 have q_0 : v0.cell? ⟨w.heap.size, 0, none⟩ = some (.int .i64 kd) := kC hb0 (by simp) (by simp [go_sem])
 have q_1 : v0.cell? ⟨w.heap.size, 1, none⟩ = some (.int .i64 67) := kC hb0 (by simp) (by simp [go_sem])
 have q_2 : v0.cell? ⟨w.heap.size, 2, none⟩ = some (.bool false) := kC hb0 (by simp) (by simp [go_sem])
 have q_3 : v0.cell? ⟨w.heap.size, 3, none⟩ = some (.slice aa ln ca) := kC hb0 (by simp) (by simp [go_sem])
 have q_4 : v0.cell? ⟨w.heap.size, 4, none⟩ = some (.string tx) := kC hb0 (by simp) (by simp [go_sem])
 clear hb0
 have q_b : ¬ w.heap.size = b := by omega
 have HA_nb : ∀ k ∈ bO aa, ¬ k = b := fun k hk => (HNA.out k hk).1
 have Hv0 := zz (HS.out.below HB0.out)
 have HA2 := zz (HA.out.keep HB0.out)
 have HUv0 : Hid (Upd b 0 (0 + 12) (fun k => k = g ∨ k ∈ bO ah) w v0) := zz (Upd.refl'.below HB0.out HS.out.lt)
 have HA2_nb := HA_nb
 have k_0 := Hv0.out.e0
 have k_1 := Hv0.out.e1
 have k_2 := Hv0.out.e2
 have k_3 := Hv0.out.e3
 have k_4 := Hv0.out.e4
 have k_5 := Hv0.out.e5
 have k_6 := Hv0.out.e6
 have k_7 := Hv0.out.e7
 have k_8 := Hv0.out.e8
 have k_9 := Hv0.out.e9
 have k_10 := Hv0.out.e10
 have k_11 := Hv0.out.e11
 have k_f := Hv0.out.fz
 have k_l := Hv0.out.lt
 go_upto_region 4 with fail
 have hSc1 := And.intro k_0 (And.intro k_2 k_3)
 refine rO (fun w' => w'.cell? ⟨b, 0, none⟩ = some (.int .i64 s.w) ∧ w'.cell? ⟨b, 2, none⟩ = some (.int .i64 s.x) ∧ w'.cell? ⟨b, 3, none⟩ = some (.int .i64 s.y)) [] [0,1,2,3,4,5,6,7,8,9,10,11,12,13,14,15,16,17,18,19,20] ?_
 iterate 21 (first | refine oW (h := ?_) | refine oL (hS := hSc1) (h := ?_))
 refine oD ?_
 obtain ⟨v1, hv1⟩ := eX (v0.drew)
 have HBv1 : Hid (Below v0.heap.size v0 v1) := zz (by rw [← hv1]; exact (Below.refl _ _).drew)
 rw [hv1]
 have hzv1 := HBv1.out.size
 have Hv1 := zz (Hv0.out.below HBv1.out)
 have HUv1 : Hid (Upd b 0 (0 + 12) (fun k => k = g ∨ k ∈ bO ah) w v1) := zz (HUv0.out.below HBv1.out Hv0.out.lt)
 have qn_0 := kC HBv1.out q_l q_0
 have qn_1 := kC HBv1.out q_l q_1
 have qn_2 := kC HBv1.out q_l q_2
 have qn_3 := kC HBv1.out q_l q_3
 have qn_4 := kC HBv1.out q_l q_4
 have qn_l := Nat.lt_of_lt_of_le q_l HBv1.out.size
 clear q_0 q_1 q_2 q_3 q_4 q_l
 have HA2n := zz (HA2.out.keep HBv1.out)
 clear k_f k_l k_0 k_1 k_2 k_3 k_4 k_5 k_6 k_7 k_8 k_9 k_10 k_11 hv1 hSc1
 have k_0 := Hv1.out.e0
 have k_1 := Hv1.out.e1
 have k_2 := Hv1.out.e2
 have k_3 := Hv1.out.e3
 have k_4 := Hv1.out.e4
 have k_5 := Hv1.out.e5
 have k_6 := Hv1.out.e6
 have k_7 := Hv1.out.e7
 have k_8 := Hv1.out.e8
 have k_9 := Hv1.out.e9
 have k_10 := Hv1.out.e10
 have k_11 := Hv1.out.e11
 have k_f := Hv1.out.fz
 have k_l := Hv1.out.lt
 have hwJ : IntKind.i64.wrap ((s.x : Int) + (n : Int)) = (s.x : Int) + (n : Int) := iIq _
 go_upto_region 11 with fail
 have hSc2 := And.intro k_0 k_2
 refine rO (fun w' => w'.cell? ⟨b, 0, none⟩ = some (.int .i64 s.w) ∧ w'.cell? ⟨b, 2, none⟩ = some (.int .i64 s.x)) [15] [0,1,2,3,4,5,6,7,8,9,10,11,12,13,14,15] ?_
 iterate 15 (first | refine oW (h := ?_) | refine oL (hS := hSc2) (h := ?_))
 refine oO (hS := .inl rfl) (h := ?_)
 intro K' hK
 go_simp
 refine oN hK (hS := .inl rfl) (h := ?_)
 clear hK K'
 refine oD ?_
 go_wp2_with fail
 first | refine bodyPost_end (v := .tuple #[]) (by simp [results, Tryz.results82]) rfl ?_ | refine bodyPost_ret (v := .tuple #[]) (by simp [results, Tryz.results82]) rfl ?_
 refine ⟨rfl, ?_⟩
 unfold csiS
 rw [if_neg (by decide), if_neg (by decide), if_pos (by decide)]
 rw [HN.out]
 refine sR.mk (cc := cc) (dh := dh) ?_ ?_
 ·repeat (with_reducible refine SA.drew ?_)
  exact Hv1.out.setv2 _ (by omega)
 ·repeat (with_reducible refine Upd.drew ?_)
  exact HUv1.out.set2 _
theorem csi68_c (lo b : Nat) (s : Scr) (g cc : Nat) (ah : Option Addr) (dh : Nat) (w : World) (kd : Int) (xs : List Int) (aa : Option Addr) (ca : Nat) (tx : ByteArray) (h : SA lo b 0 s g cc ah dh w) (ok : sK s) (hlo : lo ≤ w.heap.size) (ha : Sl iE 1 w aa xs) (hna : ∀ k ∈ bO aa, k ≠ b ∧ k ≠ g ∧ k ∉ bO ah) (hx8 : xs.length ≤ 8) (hxr : ∀ x ∈ xs, -1 ≤ x ∧ x ≤ 9999) :
 Calls Tryz.prog 82 #[.pointer (some ⟨b, 0, none⟩), .agg #[.int .i64 kd, .int .i64 68, .bool false, .slice aa xs.length ca, .string tx]] w fun e w' => e = .returned (.tuple #[]) ∧ sR lo b 0 (csiS s 68 xs) g ah w w' := by
 have HS := zz h
 have HOK := zz ok
 have HA := zz ha
 have HNA := zz hna
 have HXR := zz hxr
 have HX8 := zz hx8
 have hw1 := ok.w1
 have hw2 := ok.w2
 have hh1 := ok.h1
 have hh2 := ok.h2
 have hx := ok.hx
 have hy := ok.hy
 have hcur := ok.cur
 have hcn := ok.cn
 have hlt := h.lt
 obtain ⟨n, hn⟩ := eX (arg1 xs 0)
 obtain ⟨A0, hA0⟩ := eX (argA xs 0 1)
 have hAb : -1 ≤ A0 ∧ A0 ≤ 9999 := by rw [← hA0]; exact Za1 HXR.out (by omega) (by omega)
 have hm : max 1 A0 = (n : Int) := by rw [← hn, ← hA0]; unfold arg1; omega
 have hn1 : 1 ≤ n := by omega
 have hn2 : n ≤ 9999 := by omega
 have HN := zz hn
 have HA0 := zz hA0
 obtain ⟨p, hp⟩ := eX (s.y * s.w)
 obtain ⟨mx, hmx⟩ := eX (min s.x (s.w - 1))
 obtain ⟨cr, hcr⟩ := eX (curS s)
 obtain ⟨pn, hpn⟩ : ∃ q, (s.y + 1) * s.w = q := ⟨_, rfl⟩
 obtain ⟨nn, hnn⟩ := eX (s.w * s.h)
 obtain ⟨hpi, hpni, hnni, hmi, hcri, hn240⟩ := csP s hp hpn hnn hmx hcr hw1 hw2 hh2
 rw [hcr, hp, hpn, hnn] at hcur
 rw [hnn] at hcn
 obtain ⟨hc1, hc2, hc3⟩ := hcur
 have HCN := zz hcn
 have HP := zz hp
 have HMX := zz hmx
 have HCR := zz hcr
 have HPN := zz hpn
 have HNN := zz hnn
 obtain ⟨hwA, hwB, hwC, hwD, hwE, hwF, hwG⟩ := csW s p cr pn nn
 obtain ⟨ln, hln⟩ := eX (xs.length)
 have HLN := zz hln
 have HCALL : ∀ (i : Nat) (d : Int) (W : World), i ≤ 7 → Sl iE 1 W aa xs → Calls Tryz.prog 117 #[.agg #[.int .i64 kd, .int .i64 68, .bool false, .slice aa ln ca, .string tx], .int .i64 i, .int .i64 d] W fun e w' => e = .returned (.int .i64 (argA xs i d)) ∧ Below W.heap.size W w' := fun i d W hi hW => by
  rw [← hln]
  exact lA kd 68 false tx xs aa ca i d W hW hi hx8
 rw [hln]
 clear h ok ha hna hxr hx8 hn hA0 hp hmx hcr hpn hnn hcn hln
 go_enter Tryz.func82, Tryz.ntmps82
 go_wp2_with fail
 refine (HCALL 0 1 _ (by omega) (HA.out.alloc _)).mono ?_
 rintro e v0 ⟨rfl, hb0⟩
 rw [HA0.out]
 have HB0 : Hid (Below w.heap.size w v0) := zz (((Below.refl w.heap.size w).alloc (Nat.le_refl _) _).trans (hb0.mono (by simp)))
 have hz0 := HB0.out.size
 have q_l : w.heap.size < v0.heap.size := by have := hb0.size; simp at this; omega
 have q_0 : v0.cell? ⟨w.heap.size, 0, none⟩ = some (.int .i64 kd) := kC hb0 (by simp) (by simp [go_sem])
 have q_1 : v0.cell? ⟨w.heap.size, 1, none⟩ = some (.int .i64 68) := kC hb0 (by simp) (by simp [go_sem])
 have q_2 : v0.cell? ⟨w.heap.size, 2, none⟩ = some (.bool false) := kC hb0 (by simp) (by simp [go_sem])
 have q_3 : v0.cell? ⟨w.heap.size, 3, none⟩ = some (.slice aa ln ca) := kC hb0 (by simp) (by simp [go_sem])
 have q_4 : v0.cell? ⟨w.heap.size, 4, none⟩ = some (.string tx) := kC hb0 (by simp) (by simp [go_sem])
 clear hb0
 have q_b : ¬ w.heap.size = b := by omega
 have HA_nb : ∀ k ∈ bO aa, ¬ k = b := fun k hk => (HNA.out k hk).1
 have Hv0 := zz (HS.out.below HB0.out)
 have HA2 := zz (HA.out.keep HB0.out)
 have HUv0 : Hid (Upd b 0 (0 + 12) (fun k => k = g ∨ k ∈ bO ah) w v0) := zz (Upd.refl'.below HB0.out HS.out.lt)
 have HA2_nb := HA_nb
 have k_0 := Hv0.out.e0
 have k_1 := Hv0.out.e1
 have k_2 := Hv0.out.e2
 have k_3 := Hv0.out.e3
 have k_4 := Hv0.out.e4
 have k_5 := Hv0.out.e5
 have k_6 := Hv0.out.e6
 have k_7 := Hv0.out.e7
 have k_8 := Hv0.out.e8
 have k_9 := Hv0.out.e9
 have k_10 := Hv0.out.e10
 have k_11 := Hv0.out.e11
 have k_f := Hv0.out.fz
 have k_l := Hv0.out.lt
 go_upto_region 4 with fail
 have hSc1 := And.intro k_0 (And.intro k_2 k_3)
 refine rO (fun w' => w'.cell? ⟨b, 0, none⟩ = some (.int .i64 s.w) ∧ w'.cell? ⟨b, 2, none⟩ = some (.int .i64 s.x) ∧ w'.cell? ⟨b, 3, none⟩ = some (.int .i64 s.y)) [] [0,1,2,3,4,5,6,7,8,9,10,11,12,13,14,15,16,17,18,19,20] ?_
 iterate 21 (first | refine oW (h := ?_) | refine oL (hS := hSc1) (h := ?_))
 refine oD ?_
 obtain ⟨v1, hv1⟩ := eX (v0.drew)
 have HBv1 : Hid (Below v0.heap.size v0 v1) := zz (by rw [← hv1]; exact (Below.refl _ _).drew)
 rw [hv1]
 have hzv1 := HBv1.out.size
 have Hv1 := zz (Hv0.out.below HBv1.out)
 have HUv1 : Hid (Upd b 0 (0 + 12) (fun k => k = g ∨ k ∈ bO ah) w v1) := zz (HUv0.out.below HBv1.out Hv0.out.lt)
 have qn_0 := kC HBv1.out q_l q_0
 have qn_1 := kC HBv1.out q_l q_1
 have qn_2 := kC HBv1.out q_l q_2
 have qn_3 := kC HBv1.out q_l q_3
 have qn_4 := kC HBv1.out q_l q_4
 have qn_l := Nat.lt_of_lt_of_le q_l HBv1.out.size
 clear q_0 q_1 q_2 q_3 q_4 q_l
 have HA2n := zz (HA2.out.keep HBv1.out)
 clear k_f k_l k_0 k_1 k_2 k_3 k_4 k_5 k_6 k_7 k_8 k_9 k_10 k_11 hv1 hSc1
 have k_0 := Hv1.out.e0
 have k_1 := Hv1.out.e1
 have k_2 := Hv1.out.e2
 have k_3 := Hv1.out.e3
 have k_4 := Hv1.out.e4
 have k_5 := Hv1.out.e5
 have k_6 := Hv1.out.e6
 have k_7 := Hv1.out.e7
 have k_8 := Hv1.out.e8
 have k_9 := Hv1.out.e9
 have k_10 := Hv1.out.e10
 have k_11 := Hv1.out.e11
 have k_f := Hv1.out.fz
 have k_l := Hv1.out.lt
 have hwJ : IntKind.i64.wrap ((mx : Int) - (n : Int)) = (mx : Int) - (n : Int) := iIq _
 go_upto_region 13 with fail
 have hSc2 := And.intro k_0 k_2
 refine rO (fun w' => w'.cell? ⟨b, 0, none⟩ = some (.int .i64 s.w) ∧ w'.cell? ⟨b, 2, none⟩ = some (.int .i64 s.x)) [16] [0,1,2,3,4,5,6,7,8,9,10,11,12,13,14,15,16] ?_
 iterate 16 (first | refine oW (h := ?_) | refine oL (hS := hSc2) (h := ?_))
 refine oO (hS := .inl rfl) (h := ?_)
 intro K' hK
 go_simp
 refine oN hK (hS := .inl rfl) (h := ?_)
 clear hK K'
 refine oD ?_
 go_wp2_with fail
 first | refine bodyPost_end (v := .tuple #[]) (by simp [results, Tryz.results82]) rfl ?_ | refine bodyPost_ret (v := .tuple #[]) (by simp [results, Tryz.results82]) rfl ?_
 refine ⟨rfl, ?_⟩
 unfold csiS
 rw [if_neg (by decide), if_neg (by decide), if_neg (by decide), if_pos (by decide)]
 rw [HN.out, HMX.out]
 refine sR.mk (cc := cc) (dh := dh) ?_ ?_
 ·repeat (with_reducible refine SA.drew ?_)
  exact Hv1.out.setv2 _ (by omega)
 ·repeat (with_reducible refine Upd.drew ?_)
  exact HUv1.out.set2 _
end
section
theorem Yh0 (l : Nat) (x : Int) : lookN l (max 0 x) = lookN l x := by
 by_cases h : x ≤ 0
 ·rw [show max 0 x = 0 by omega]
  unfold lookN
  rw [if_pos (by omega), if_pos h]
 ·rw [show max 0 x = x by omega]
theorem looksOK {s : Scr} (h : sK s) (xs : List Int) : sK { s with look := xs.foldl lookN s.look } :=
 ⟨h.w1, h.w2, h.h1, h.h2, h.hx, h.hy, Zq0 h.lk xs, h.tb, h.bh, h.hsx, h.hsy, h.ti, h.cn, h.cs, h.hn, h.hs⟩
theorem csi109_c (lo b : Nat) (s : Scr) (g cc : Nat) (ah : Option Addr) (dh : Nat) (w : World) (kd : Int) (xs : List Int) (aa : Option Addr) (ca : Nat) (tx : ByteArray) (h : SA lo b 0 s g cc ah dh w) (ok : sK s) (hlo : lo ≤ w.heap.size) (ha : Sl iE 1 w aa xs) (hna : ∀ k ∈ bO aa, k ≠ b ∧ k ≠ g ∧ k ∉ bO ah) (hx8 : xs.length ≤ 8) (hxr : ∀ x ∈ xs, -1 ≤ x ∧ x ≤ 9999) :
 Calls Tryz.prog 82 #[.pointer (some ⟨b, 0, none⟩), .agg #[.int .i64 kd, .int .i64 109, .bool false, .slice aa xs.length ca, .string tx]] w fun e w' => e = .returned (.tuple #[]) ∧ sR lo b 0 (csiS s 109 xs) g ah w w' := by
 have HS := zz h
 have HOK := zz ok
 have HA := zz ha
 have HNA := zz hna
 have HXR := zz hxr
 have HX8 := zz hx8
 have hw1 := ok.w1
 have hw2 := ok.w2
 have hh1 := ok.h1
 have hh2 := ok.h2
 have hx := ok.hx
 have hy := ok.hy
 have hcur := ok.cur
 have hcn := ok.cn
 have hlt := h.lt
 obtain ⟨n, hn⟩ := eX (arg1 xs 0)
 obtain ⟨A0, hA0⟩ := eX (argA xs 0 1)
 have hAb : -1 ≤ A0 ∧ A0 ≤ 9999 := by rw [← hA0]; exact Za1 HXR.out (by omega) (by omega)
 have hm : max 1 A0 = (n : Int) := by rw [← hn, ← hA0]; unfold arg1; omega
 have hn1 : 1 ≤ n := by omega
 have hn2 : n ≤ 9999 := by omega
 have HN := zz hn
 have HA0 := zz hA0
 obtain ⟨p, hp⟩ := eX (s.y * s.w)
 obtain ⟨mx, hmx⟩ := eX (min s.x (s.w - 1))
 obtain ⟨cr, hcr⟩ := eX (curS s)
 obtain ⟨pn, hpn⟩ : ∃ q, (s.y + 1) * s.w = q := ⟨_, rfl⟩
 obtain ⟨nn, hnn⟩ := eX (s.w * s.h)
 obtain ⟨hpi, hpni, hnni, hmi, hcri, hn240⟩ := csP s hp hpn hnn hmx hcr hw1 hw2 hh2
 rw [hcr, hp, hpn, hnn] at hcur
 rw [hnn] at hcn
 obtain ⟨hc1, hc2, hc3⟩ := hcur
 have HCN := zz hcn
 have HP := zz hp
 have HMX := zz hmx
 have HCR := zz hcr
 have HPN := zz hpn
 have HNN := zz hnn
 obtain ⟨hwA, hwB, hwC, hwD, hwE, hwF, hwG⟩ := csW s p cr pn nn
 obtain ⟨ln, hln⟩ := eX (xs.length)
 have HLN := zz hln
 have HCALL : ∀ (i : Nat) (d : Int) (W : World), i ≤ 7 → Sl iE 1 W aa xs → Calls Tryz.prog 117 #[.agg #[.int .i64 kd, .int .i64 109, .bool false, .slice aa ln ca, .string tx], .int .i64 i, .int .i64 d] W fun e w' => e = .returned (.int .i64 (argA xs i d)) ∧ Below W.heap.size W w' := fun i d W hi hW => by
  rw [← hln]
  exact lA kd 109 false tx xs aa ca i d W hW hi hx8
 rw [hln]
 clear h ok ha hna hxr hx8 hn hA0 hp hmx hcr hpn hnn hcn hln
 go_enter Tryz.func82, Tryz.ntmps82
 go_wp2_with fail
 refine (HCALL 0 1 _ (by omega) (HA.out.alloc _)).mono ?_
 rintro e v0 ⟨rfl, hb0⟩
 rw [HA0.out]
 have HB0 : Hid (Below w.heap.size w v0) := zz (((Below.refl w.heap.size w).alloc (Nat.le_refl _) _).trans (hb0.mono (by simp)))
 have hz0 := HB0.out.size
 have q_l : w.heap.size < v0.heap.size := by have := hb0.size; simp at this; omega
 have q_0 : v0.cell? ⟨w.heap.size, 0, none⟩ = some (.int .i64 kd) := kC hb0 (by simp) (by simp [go_sem])
 have q_1 : v0.cell? ⟨w.heap.size, 1, none⟩ = some (.int .i64 109) := kC hb0 (by simp) (by simp [go_sem])
 have q_2 : v0.cell? ⟨w.heap.size, 2, none⟩ = some (.bool false) := kC hb0 (by simp) (by simp [go_sem])
 have q_3 : v0.cell? ⟨w.heap.size, 3, none⟩ = some (.slice aa ln ca) := kC hb0 (by simp) (by simp [go_sem])
 have q_4 : v0.cell? ⟨w.heap.size, 4, none⟩ = some (.string tx) := kC hb0 (by simp) (by simp [go_sem])
 clear hb0
 have q_b : ¬ w.heap.size = b := by omega
 have HA_nb : ∀ k ∈ bO aa, ¬ k = b := fun k hk => (HNA.out k hk).1
 have Hv0 := zz (HS.out.below HB0.out)
 have HA2 := zz (HA.out.keep HB0.out)
 have HUv0 : Hid (Upd b 0 (0 + 12) (fun k => k = g ∨ k ∈ bO ah) w v0) := zz (Upd.refl'.below HB0.out HS.out.lt)
 have HA2_nb := HA_nb
 have k_0 := Hv0.out.e0
 have k_1 := Hv0.out.e1
 have k_2 := Hv0.out.e2
 have k_3 := Hv0.out.e3
 have k_4 := Hv0.out.e4
 have k_5 := Hv0.out.e5
 have k_6 := Hv0.out.e6
 have k_7 := Hv0.out.e7
 have k_8 := Hv0.out.e8
 have k_9 := Hv0.out.e9
 have k_10 := Hv0.out.e10
 have k_11 := Hv0.out.e11
 have k_f := Hv0.out.fz
 have k_l := Hv0.out.lt
 go_upto_region 4 with fail
 have hSc1 := And.intro k_0 (And.intro k_2 k_3)
 refine rO (fun w' => w'.cell? ⟨b, 0, none⟩ = some (.int .i64 s.w) ∧ w'.cell? ⟨b, 2, none⟩ = some (.int .i64 s.x) ∧ w'.cell? ⟨b, 3, none⟩ = some (.int .i64 s.y)) [] [0,1,2,3,4,5,6,7,8,9,10,11,12,13,14,15,16,17,18,19,20] ?_
 iterate 21 (first | refine oW (h := ?_) | refine oL (hS := hSc1) (h := ?_))
 refine oD ?_
 obtain ⟨v1, hv1⟩ := eX (v0.drew)
 have HBv1 : Hid (Below v0.heap.size v0 v1) := zz (by rw [← hv1]; exact (Below.refl _ _).drew)
 rw [hv1]
 have hzv1 := HBv1.out.size
 have Hv1 := zz (Hv0.out.below HBv1.out)
 have HUv1 : Hid (Upd b 0 (0 + 12) (fun k => k = g ∨ k ∈ bO ah) w v1) := zz (HUv0.out.below HBv1.out Hv0.out.lt)
 have qn_0 := kC HBv1.out q_l q_0
 have qn_1 := kC HBv1.out q_l q_1
 have qn_2 := kC HBv1.out q_l q_2
 have qn_3 := kC HBv1.out q_l q_3
 have qn_4 := kC HBv1.out q_l q_4
 have qn_l := Nat.lt_of_lt_of_le q_l HBv1.out.size
 clear q_0 q_1 q_2 q_3 q_4 q_l
 have HA2n := zz (HA2.out.keep HBv1.out)
 clear k_f k_l k_0 k_1 k_2 k_3 k_4 k_5 k_6 k_7 k_8 k_9 k_10 k_11 hv1 hSc1
 have k_0 := Hv1.out.e0
 have k_1 := Hv1.out.e1
 have k_2 := Hv1.out.e2
 have k_3 := Hv1.out.e3
 have k_4 := Hv1.out.e4
 have k_5 := Hv1.out.e5
 have k_6 := Hv1.out.e6
 have k_7 := Hv1.out.e7
 have k_8 := Hv1.out.e8
 have k_9 := Hv1.out.e9
 have k_10 := Hv1.out.e10
 have k_11 := Hv1.out.e11
 have k_f := Hv1.out.fz
 have k_l := Hv1.out.lt
 go_wp2_with fail
 go_loopw [7] (fun iv wi => ∃ i : Nat, i ≤ ln ∧ iv = .int .i64 i ∧ Hid (sR lo b 0 { s with look := (xs.take i).foldl lookN s.look } g ah v1 wi)) (fun iv _ => ln - (intOf iv).toNat)
 case atStart => exact ⟨0, Nat.zero_le _, rfl, zz (.mk Hv1.out Upd.refl)⟩
 case round =>
  obtain ⟨i, hi, rfl, HI⟩ := hrel
  have hln8 : ln ≤ 8 := by rw [← HLN.out]; exact HX8.out
  obtain ⟨g1, cc1, ah1, dh1, ha, hu, hg, hh⟩ := HI.out
  have HC := zz hu.ch
  have HX := zz ha
  have HU := zz hu
  have HG := zz hg
  have HH := zz hh
  have hzr := hu.size
  have hwq : ¬ (w.heap.size = b ∨ w.heap.size = g ∨ w.heap.size ∈ bO ah) := by
   rintro (h | h | h)
   ·exact q_b h
   ·have := HS.out.glt.2; omega
   ·have := (HS.out.win.blk _ h).2; omega
  have y_3 : wr.cell? ⟨w.heap.size, 3, none⟩ = some (.slice aa ln ca) := (HC.out.cell (p := ⟨w.heap.size, 3, none⟩) qn_l hwq).trans qn_3
  have HAr : Hid (Sl iE 1 wr aa xs) := zz (Sl.ch HA2n.out HC.out (fun k hk => by
   have h := HNA.out k hk
   rintro (h1 | h1 | h1)
   ·exact h.1 h1
   ·exact h.2.1 h1
   ·exact h.2.2 h1))
  clear ha hu hg hh
  by_cases hlt : i < ln
  ·have hlt' : (i : Int) < (ln : Int) := by omega
   have hix : i < xs.length := by rw [HLN.out]; exact hlt
   obtain ⟨b1, o1, hae, hb1, hc1⟩ := HAr.out.at hix
   subst hae
   obtain ⟨x, hxx⟩ := eX (xs[i])
   have c1 := hc1 i hix 0 (by omega)
   rw [hxx] at c1
   simp only [iE, Nat.mul_one, Nat.add_zero, List.getElem?_cons_zero] at c1
   have hxb := HXR.out x (by rw [← hxx]; exact List.getElem_mem hix)
   have HTK : Hid ((xs.take (i + 1)).foldl lookN s.look = lookN ((xs.take i).foldl lookN s.look) (max 0 x)) := zz (by
    rw [List.take_succ_eq_append_getElem hix, List.foldl_append, hxx]
    exact (Yh0 _ _).symm)
   obtain ⟨m, hm⟩ := eX (max 0 x)
   have hm2 : 0 ≤ m ∧ m ≤ 9999 := by omega
   rw [hm] at HTK
   clear hc1 hxx hix
   go_wp2_with fail
   refine (look_c lo b _ g1 cc1 ah1 dh1 _ m HX.out (looksOK HOK.out _) (by omega) hm2).mono ?_
   rintro e x1 ⟨rfl, hr⟩
   have HR := zz hr
   clear hr
   go_wp2_with fail
   go_roundw
   case rel =>
    refine ⟨i + 1, by omega, by go_num, zz ?_⟩
    rw [HTK.out]
    exact sR.trans HX.out HU.out HG.out HH.out HR.out
   case measure => simp [intOf]; omega
  ·obtain rfl : i = ln := by omega
   have htk : xs.take i = xs := List.take_of_length_le (by rw [HLN.out]; exact Nat.le_refl _)
   have HTK := zz htk
   clear htk
   go_wp2_with fail
   first | refine bodyPost_end (v := .tuple #[]) (by simp [results, Tryz.results82]) rfl ?_ | refine bodyPost_ret (v := .tuple #[]) (by simp [results, Tryz.results82]) rfl ?_
   refine ⟨rfl, ?_⟩
   unfold csiS
   rw [if_neg (by decide), if_neg (by decide), if_neg (by decide), if_neg (by decide), if_neg (by decide), if_neg (by decide), if_neg (by decide), if_neg (by decide), if_neg (by decide), if_neg (by decide), if_neg (by decide), if_pos (by decide)]
   have h9 := HI.out
   rw [HTK.out] at h9
   exact sR.trans Hv1.out HUv1.out (.inl rfl) (fun _ h => .inl h) h9
theorem csi114_c (lo b : Nat) (s : Scr) (g cc : Nat) (ah : Option Addr) (dh : Nat) (w : World) (kd : Int) (xs : List Int) (aa : Option Addr) (ca : Nat) (tx : ByteArray) (h : SA lo b 0 s g cc ah dh w) (ok : sK s) (hlo : lo ≤ w.heap.size) (ha : Sl iE 1 w aa xs) (hna : ∀ k ∈ bO aa, k ≠ b ∧ k ≠ g ∧ k ∉ bO ah) (hx8 : xs.length ≤ 8) (hxr : ∀ x ∈ xs, -1 ≤ x ∧ x ≤ 9999) :
 Calls Tryz.prog 82 #[.pointer (some ⟨b, 0, none⟩), .agg #[.int .i64 kd, .int .i64 114, .bool false, .slice aa xs.length ca, .string tx]] w fun e w' => e = .returned (.tuple #[]) ∧ sR lo b 0 (csiS s 114 xs) g ah w w' := by
 have HS := zz h
 have HOK := zz ok
 have HA := zz ha
 have HNA := zz hna
 have HXR := zz hxr
 have HX8 := zz hx8
 have hw1 := ok.w1
 have hw2 := ok.w2
 have hh1 := ok.h1
 have hh2 := ok.h2
 have hx := ok.hx
 have hy := ok.hy
 have hcur := ok.cur
 have hcn := ok.cn
 have hlt := h.lt
 obtain ⟨n, hn⟩ := eX (arg1 xs 0)
 obtain ⟨A0, hA0⟩ := eX (argA xs 0 1)
 have hAb : -1 ≤ A0 ∧ A0 ≤ 9999 := by rw [← hA0]; exact Za1 HXR.out (by omega) (by omega)
 have hm : max 1 A0 = (n : Int) := by rw [← hn, ← hA0]; unfold arg1; omega
 have hn1 : 1 ≤ n := by omega
 have hn2 : n ≤ 9999 := by omega
 have HN := zz hn
 have HA0 := zz hA0
 obtain ⟨p, hp⟩ := eX (s.y * s.w)
 obtain ⟨mx, hmx⟩ := eX (min s.x (s.w - 1))
 obtain ⟨cr, hcr⟩ := eX (curS s)
 obtain ⟨pn, hpn⟩ : ∃ q, (s.y + 1) * s.w = q := ⟨_, rfl⟩
 obtain ⟨nn, hnn⟩ := eX (s.w * s.h)
 obtain ⟨hpi, hpni, hnni, hmi, hcri, hn240⟩ := csP s hp hpn hnn hmx hcr hw1 hw2 hh2
 rw [hcr, hp, hpn, hnn] at hcur
 rw [hnn] at hcn
 obtain ⟨hc1, hc2, hc3⟩ := hcur
 have HCN := zz hcn
 have HP := zz hp
 have HMX := zz hmx
 have HCR := zz hcr
 have HPN := zz hpn
 have HNN := zz hnn
 obtain ⟨hwA, hwB, hwC, hwD, hwE, hwF, hwG⟩ := csW s p cr pn nn
 obtain ⟨ln, hln⟩ := eX (xs.length)
 have HLN := zz hln
 have HCALL : ∀ (i : Nat) (d : Int) (W : World), i ≤ 7 → Sl iE 1 W aa xs → Calls Tryz.prog 117 #[.agg #[.int .i64 kd, .int .i64 114, .bool false, .slice aa ln ca, .string tx], .int .i64 i, .int .i64 d] W fun e w' => e = .returned (.int .i64 (argA xs i d)) ∧ Below W.heap.size W w' := fun i d W hi hW => by
  rw [← hln]
  exact lA kd 114 false tx xs aa ca i d W hW hi hx8
 rw [hln]
 clear h ok ha hna hxr hx8 hn hA0 hp hmx hcr hpn hnn hcn hln
 go_enter Tryz.func82, Tryz.ntmps82
 go_wp2_with fail
 refine (HCALL 0 1 _ (by omega) (HA.out.alloc _)).mono ?_
 rintro e v0 ⟨rfl, hb0⟩
 rw [HA0.out]
 have HB0 : Hid (Below w.heap.size w v0) := zz (((Below.refl w.heap.size w).alloc (Nat.le_refl _) _).trans (hb0.mono (by simp)))
 have hz0 := HB0.out.size
 have q_l : w.heap.size < v0.heap.size := by have := hb0.size; simp at this; omega
 have q_0 : v0.cell? ⟨w.heap.size, 0, none⟩ = some (.int .i64 kd) := kC hb0 (by simp) (by simp [go_sem])
 have q_1 : v0.cell? ⟨w.heap.size, 1, none⟩ = some (.int .i64 114) := kC hb0 (by simp) (by simp [go_sem])
 have q_2 : v0.cell? ⟨w.heap.size, 2, none⟩ = some (.bool false) := kC hb0 (by simp) (by simp [go_sem])
 have q_3 : v0.cell? ⟨w.heap.size, 3, none⟩ = some (.slice aa ln ca) := kC hb0 (by simp) (by simp [go_sem])
 have q_4 : v0.cell? ⟨w.heap.size, 4, none⟩ = some (.string tx) := kC hb0 (by simp) (by simp [go_sem])
 clear hb0
 have q_b : ¬ w.heap.size = b := by omega
 have HA_nb : ∀ k ∈ bO aa, ¬ k = b := fun k hk => (HNA.out k hk).1
 have Hv0 := zz (HS.out.below HB0.out)
 have HA2 := zz (HA.out.keep HB0.out)
 have HUv0 : Hid (Upd b 0 (0 + 12) (fun k => k = g ∨ k ∈ bO ah) w v0) := zz (Upd.refl'.below HB0.out HS.out.lt)
 have HA2_nb := HA_nb
 have k_0 := Hv0.out.e0
 have k_1 := Hv0.out.e1
 have k_2 := Hv0.out.e2
 have k_3 := Hv0.out.e3
 have k_4 := Hv0.out.e4
 have k_5 := Hv0.out.e5
 have k_6 := Hv0.out.e6
 have k_7 := Hv0.out.e7
 have k_8 := Hv0.out.e8
 have k_9 := Hv0.out.e9
 have k_10 := Hv0.out.e10
 have k_11 := Hv0.out.e11
 have k_f := Hv0.out.fz
 have k_l := Hv0.out.lt
 go_upto_region 4 with fail
 have hSc1 := And.intro k_0 (And.intro k_2 k_3)
 refine rO (fun w' => w'.cell? ⟨b, 0, none⟩ = some (.int .i64 s.w) ∧ w'.cell? ⟨b, 2, none⟩ = some (.int .i64 s.x) ∧ w'.cell? ⟨b, 3, none⟩ = some (.int .i64 s.y)) [] [0,1,2,3,4,5,6,7,8,9,10,11,12,13,14,15,16,17,18,19,20] ?_
 iterate 21 (first | refine oW (h := ?_) | refine oL (hS := hSc1) (h := ?_))
 refine oD ?_
 obtain ⟨v1, hv1⟩ := eX (v0.drew)
 have HBv1 : Hid (Below v0.heap.size v0 v1) := zz (by rw [← hv1]; exact (Below.refl _ _).drew)
 rw [hv1]
 have hzv1 := HBv1.out.size
 have Hv1 := zz (Hv0.out.below HBv1.out)
 have HUv1 : Hid (Upd b 0 (0 + 12) (fun k => k = g ∨ k ∈ bO ah) w v1) := zz (HUv0.out.below HBv1.out Hv0.out.lt)
 have qn_0 := kC HBv1.out q_l q_0
 have qn_1 := kC HBv1.out q_l q_1
 have qn_2 := kC HBv1.out q_l q_2
 have qn_3 := kC HBv1.out q_l q_3
 have qn_4 := kC HBv1.out q_l q_4
 have qn_l := Nat.lt_of_lt_of_le q_l HBv1.out.size
 clear q_0 q_1 q_2 q_3 q_4 q_l
 have HA2n := zz (HA2.out.keep HBv1.out)
 clear k_f k_l k_0 k_1 k_2 k_3 k_4 k_5 k_6 k_7 k_8 k_9 k_10 k_11 hv1 hSc1
 have k_0 := Hv1.out.e0
 have k_1 := Hv1.out.e1
 have k_2 := Hv1.out.e2
 have k_3 := Hv1.out.e3
 have k_4 := Hv1.out.e4
 have k_5 := Hv1.out.e5
 have k_6 := Hv1.out.e6
 have k_7 := Hv1.out.e7
 have k_8 := Hv1.out.e8
 have k_9 := Hv1.out.e9
 have k_10 := Hv1.out.e10
 have k_11 := Hv1.out.e11
 have k_f := Hv1.out.fz
 have k_l := Hv1.out.lt
 go_wp2_with fail
 refine (HCALL 0 1 _ (by omega) HA2n.out).mono ?_
 rw [HA0.out]
 rintro e v2 ⟨rfl, hbv2⟩
 have HBv2 := zz hbv2
 have hzv2 := HBv2.out.size
 have Hv2 := zz (Hv1.out.below HBv2.out)
 have HUv2 : Hid (Upd b 0 (0 + 12) (fun k => k = g ∨ k ∈ bO ah) w v2) := zz (HUv1.out.below HBv2.out Hv1.out.lt)
 have qnn_0 := kC HBv2.out qn_l qn_0
 have qnn_1 := kC HBv2.out qn_l qn_1
 have qnn_2 := kC HBv2.out qn_l qn_2
 have qnn_3 := kC HBv2.out qn_l qn_3
 have qnn_4 := kC HBv2.out qn_l qn_4
 have qnn_l := Nat.lt_of_lt_of_le qn_l HBv2.out.size
 clear qn_0 qn_1 qn_2 qn_3 qn_4 qn_l
 have HA2nn := zz (HA2n.out.keep HBv2.out)
 clear k_f k_l k_0 k_1 k_2 k_3 k_4 k_5 k_6 k_7 k_8 k_9 k_10 k_11 hbv2
 have k_0 := Hv2.out.e0
 have k_1 := Hv2.out.e1
 have k_2 := Hv2.out.e2
 have k_3 := Hv2.out.e3
 have k_4 := Hv2.out.e4
 have k_5 := Hv2.out.e5
 have k_6 := Hv2.out.e6
 have k_7 := Hv2.out.e7
 have k_8 := Hv2.out.e8
 have k_9 := Hv2.out.e9
 have k_10 := Hv2.out.e10
 have k_11 := Hv2.out.e11
 have k_f := Hv2.out.fz
 have k_l := Hv2.out.lt
 have hwK : IntKind.i64.wrap ((n : Int) - 1) = (n : Int) - 1 := iIq _
 obtain ⟨A1, hA1⟩ := eX (argA xs 1 (s.h : Int))
 have hA1b : -1 ≤ A1 ∧ A1 ≤ 9999 := by rw [← hA1]; exact Za1 HXR.out (by omega) (by omega)
 have hA1c : 0 ≤ A1 := by rw [← hA1]; unfold argA; split <;> (try split) <;> omega
 obtain ⟨l1, hl1⟩ := eX (min s.h A1.toNat)
 have hm1 : min (s.h : Int) A1 = (l1 : Int) := by omega
 have hl10 : l1 ≤ 10 := by omega
 have hwL : IntKind.i64.wrap ((l1 : Int) - 1) = (l1 : Int) - 1 := iIq _
 have HA1 := zz hA1
 have HL1 := zz hl1
 clear hA1 hl1
 go_upto_region 53 with fail
 have hSc2 := And.intro k_1 (And.intro qnn_0 (And.intro qnn_1 (And.intro qnn_2 (And.intro qnn_3 qnn_4))))
 refine rO (fun w' => w'.cell? ⟨b, 1, none⟩ = some (.int .i64 s.h) ∧ w'.cell? ⟨w.heap.size, 0, none⟩ = some (.int .i64 kd) ∧ w'.cell? ⟨w.heap.size, 1, none⟩ = some (.int .i64 114) ∧ w'.cell? ⟨w.heap.size, 2, none⟩ = some (.bool false) ∧ w'.cell? ⟨w.heap.size, 3, none⟩ = some (.slice aa ln ca) ∧ w'.cell? ⟨w.heap.size, 4, none⟩ = some (.string tx)) [] [0,1,2,3,4,5,6,7,8,9,10,11,12] ?_
 iterate 9 (first | refine oW (h := ?_) | refine oL (hS := hSc2) (h := ?_))
 refine oO (hS := .inr hSc2) (h := ?_)
 intro K' hK
 go_simp
 refine (HCALL 1 s.h _ (by omega) (HA2nn.out.keep ((Below.refl _ _).drew))).mono ?_
 rintro e x1 ⟨rfl, hb1⟩
 rw [HA1.out]
 have HB1 : Hid (Below v2.heap.size v2 x1) := zz (((Below.refl _ _).drew).trans hb1)
 have HX1 := zz (Hv2.out.below HB1.out)
 have HU1 : Hid (Upd b 0 (0 + 12) (fun k => k = g ∨ k ∈ bO ah) w x1) := zz (HUv2.out.below HB1.out Hv2.out.lt)
 have hSx : x1.cell? ⟨b, 1, none⟩ = some (.int .i64 s.h) ∧ x1.cell? ⟨w.heap.size, 0, none⟩ = some (.int .i64 kd) ∧ x1.cell? ⟨w.heap.size, 1, none⟩ = some (.int .i64 114) ∧ x1.cell? ⟨w.heap.size, 2, none⟩ = some (.bool false) ∧ x1.cell? ⟨w.heap.size, 3, none⟩ = some (.slice aa ln ca) ∧ x1.cell? ⟨w.heap.size, 4, none⟩ = some (.string tx) := ⟨HX1.out.c1, (HB1.out.cell (p := ⟨w.heap.size, 0, none⟩) qnn_l).trans qnn_0, (HB1.out.cell (p := ⟨w.heap.size, 1, none⟩) qnn_l).trans qnn_1, (HB1.out.cell (p := ⟨w.heap.size, 2, none⟩) qnn_l).trans qnn_2, (HB1.out.cell (p := ⟨w.heap.size, 3, none⟩) qnn_l).trans qnn_3, (HB1.out.cell (p := ⟨w.heap.size, 4, none⟩) qnn_l).trans qnn_4⟩
 clear hb1
 have e_2 := HX1.out.c2
 have e_3 := HX1.out.c3
 have e_5 := HX1.out.c5
 have e_6 := HX1.out.c6
 have e_f := HX1.out.fz
 have e_l := HX1.out.lt
 refine oN hK (hS := .inr hSx) (h := ?_)
 clear hK K'
 iterate 3 refine oW (h := ?_)
 refine oD ?_
 by_cases hnl : n < l1
 ·have hnl' : (n : Int) - 1 < (l1 : Int) - 1 := by omega
  go_wp2_with fail
  first | refine bodyPost_end (v := .tuple #[]) (by simp [results, Tryz.results82]) rfl ?_ | refine bodyPost_ret (v := .tuple #[]) (by simp [results, Tryz.results82]) rfl ?_
  refine ⟨rfl, ?_⟩
  unfold csiS
  rw [if_neg (by decide), if_neg (by decide), if_neg (by decide), if_neg (by decide), if_neg (by decide), if_neg (by decide), if_neg (by decide), if_neg (by decide), if_neg (by decide), if_neg (by decide), if_neg (by decide), if_neg (by decide), if_pos (by decide)]
  rw [HN.out, HA1.out, HL1.out, if_pos hnl]
  refine sR.mk (cc := cc) (dh := dh) ?_ ?_
  ·repeat (with_reducible refine SA.drew ?_)
   exact (((HX1.out.setv5 (n - 1) (by omega)).setv6 (l1 - 1) (by omega)).setv2 0 rfl).setv3 0 rfl
  ·repeat (with_reducible refine Upd.drew ?_)
   exact (((HU1.out.set5 _).set6 _).set2 _).set3 _
 ·have hnl' : ¬ (n : Int) - 1 < (l1 : Int) - 1 := by omega
  go_wp2_with fail
  first | refine bodyPost_end (v := .tuple #[]) (by simp [results, Tryz.results82]) rfl ?_ | refine bodyPost_ret (v := .tuple #[]) (by simp [results, Tryz.results82]) rfl ?_
  refine ⟨rfl, ?_⟩
  unfold csiS
  rw [if_neg (by decide), if_neg (by decide), if_neg (by decide), if_neg (by decide), if_neg (by decide), if_neg (by decide), if_neg (by decide), if_neg (by decide), if_neg (by decide), if_neg (by decide), if_neg (by decide), if_neg (by decide), if_pos (by decide)]
  rw [HN.out, HA1.out, HL1.out, if_neg hnl]
  exact .mk HX1.out HU1.out
theorem csix_c (lo b : Nat) (s : Scr) (g cc : Nat) (ah : Option Addr) (dh : Nat) (w : World) (kd : Int) (xs : List Int) (aa : Option Addr) (ca : Nat) (tx : ByteArray) (c : Int) (hc : ∀ v ∈ [65, 66, 67, 68, 72, 102, 74, 75, 76, 77, 83, 84, 109, 114], c ≠ (v : Int)) (h : SA lo b 0 s g cc ah dh w) (ok : sK s) (hlo : lo ≤ w.heap.size) (ha : Sl iE 1 w aa xs) (hna : ∀ k ∈ bO aa, k ≠ b ∧ k ≠ g ∧ k ∉ bO ah) (hx8 : xs.length ≤ 8) (hxr : ∀ x ∈ xs, -1 ≤ x ∧ x ≤ 9999) :
 Calls Tryz.prog 82 #[.pointer (some ⟨b, 0, none⟩), .agg #[.int .i64 kd, .int .i64 c, .bool false, .slice aa xs.length ca, .string tx]] w fun e w' => e = .returned (.tuple #[]) ∧ sR lo b 0 (csiS s c xs) g ah w w' := by
 have HS := zz h
 have HOK := zz ok
 have HA := zz ha
 have HNA := zz hna
 have HXR := zz hxr
 have HX8 := zz hx8
 have hw1 := ok.w1
 have hw2 := ok.w2
 have hh1 := ok.h1
 have hh2 := ok.h2
 have hx := ok.hx
 have hy := ok.hy
 have hcur := ok.cur
 have hcn := ok.cn
 have hlt := h.lt
 obtain ⟨n, hn⟩ := eX (arg1 xs 0)
 obtain ⟨A0, hA0⟩ := eX (argA xs 0 1)
 have hAb : -1 ≤ A0 ∧ A0 ≤ 9999 := by rw [← hA0]; exact Za1 HXR.out (by omega) (by omega)
 have hm : max 1 A0 = (n : Int) := by rw [← hn, ← hA0]; unfold arg1; omega
 have hn1 : 1 ≤ n := by omega
 have hn2 : n ≤ 9999 := by omega
 have HN := zz hn
 have HA0 := zz hA0
 obtain ⟨p, hp⟩ := eX (s.y * s.w)
 obtain ⟨mx, hmx⟩ := eX (min s.x (s.w - 1))
 obtain ⟨cr, hcr⟩ := eX (curS s)
 obtain ⟨pn, hpn⟩ : ∃ q, (s.y + 1) * s.w = q := ⟨_, rfl⟩
 obtain ⟨nn, hnn⟩ := eX (s.w * s.h)
 obtain ⟨hpi, hpni, hnni, hmi, hcri, hn240⟩ := csP s hp hpn hnn hmx hcr hw1 hw2 hh2
 rw [hcr, hp, hpn, hnn] at hcur
 rw [hnn] at hcn
 obtain ⟨hc1, hc2, hc3⟩ := hcur
 have HCN := zz hcn
 have HP := zz hp
 have HMX := zz hmx
 have HCR := zz hcr
 have HPN := zz hpn
 have HNN := zz hnn
 obtain ⟨hwA, hwB, hwC, hwD, hwE, hwF, hwG⟩ := csW s p cr pn nn
 obtain ⟨ln, hln⟩ := eX (xs.length)
 have HLN := zz hln
 have HCALL : ∀ (i : Nat) (d : Int) (W : World), i ≤ 7 → Sl iE 1 W aa xs → Calls Tryz.prog 117 #[.agg #[.int .i64 kd, .int .i64 c, .bool false, .slice aa ln ca, .string tx], .int .i64 i, .int .i64 d] W fun e w' => e = .returned (.int .i64 (argA xs i d)) ∧ Below W.heap.size W w' := fun i d W hi hW => by
  rw [← hln]
  exact lA kd c false tx xs aa ca i d W hW hi hx8
 rw [hln]
 clear h ok ha hna hxr hx8 hn hA0 hp hmx hcr hpn hnn hcn hln
 go_enter Tryz.func82, Tryz.ntmps82
 go_wp2_with fail
 refine (HCALL 0 1 _ (by omega) (HA.out.alloc _)).mono ?_
 rintro e v0 ⟨rfl, hb0⟩
 rw [HA0.out]
 have HB0 : Hid (Below w.heap.size w v0) := zz (((Below.refl w.heap.size w).alloc (Nat.le_refl _) _).trans (hb0.mono (by simp)))
 have hz0 := HB0.out.size
 have q_l : w.heap.size < v0.heap.size := by have := hb0.size; simp at this; omega
 have q_0 : v0.cell? ⟨w.heap.size, 0, none⟩ = some (.int .i64 kd) := kC hb0 (by simp) (by simp [go_sem])
 have q_1 : v0.cell? ⟨w.heap.size, 1, none⟩ = some (.int .i64 c) := kC hb0 (by simp) (by simp [go_sem])
 have q_2 : v0.cell? ⟨w.heap.size, 2, none⟩ = some (.bool false) := kC hb0 (by simp) (by simp [go_sem])
 have q_3 : v0.cell? ⟨w.heap.size, 3, none⟩ = some (.slice aa ln ca) := kC hb0 (by simp) (by simp [go_sem])
 have q_4 : v0.cell? ⟨w.heap.size, 4, none⟩ = some (.string tx) := kC hb0 (by simp) (by simp [go_sem])
 clear hb0
 have q_b : ¬ w.heap.size = b := by omega
 have HA_nb : ∀ k ∈ bO aa, ¬ k = b := fun k hk => (HNA.out k hk).1
 have Hv0 := zz (HS.out.below HB0.out)
 have HA2 := zz (HA.out.keep HB0.out)
 have HUv0 : Hid (Upd b 0 (0 + 12) (fun k => k = g ∨ k ∈ bO ah) w v0) := zz (Upd.refl'.below HB0.out HS.out.lt)
 have HA2_nb := HA_nb
 have k_0 := Hv0.out.e0
 have k_1 := Hv0.out.e1
 have k_2 := Hv0.out.e2
 have k_3 := Hv0.out.e3
 have k_4 := Hv0.out.e4
 have k_5 := Hv0.out.e5
 have k_6 := Hv0.out.e6
 have k_7 := Hv0.out.e7
 have k_8 := Hv0.out.e8
 have k_9 := Hv0.out.e9
 have k_10 := Hv0.out.e10
 have k_11 := Hv0.out.e11
 have k_f := Hv0.out.fz
 have k_l := Hv0.out.lt
 go_upto_region 4 with fail
 have hSc1 := And.intro k_0 (And.intro k_2 k_3)
 refine rO (fun w' => w'.cell? ⟨b, 0, none⟩ = some (.int .i64 s.w) ∧ w'.cell? ⟨b, 2, none⟩ = some (.int .i64 s.x) ∧ w'.cell? ⟨b, 3, none⟩ = some (.int .i64 s.y)) [] [0,1,2,3,4,5,6,7,8,9,10,11,12,13,14,15,16,17,18,19,20] ?_
 iterate 21 (first | refine oW (h := ?_) | refine oL (hS := hSc1) (h := ?_))
 refine oD ?_
 obtain ⟨v1, hv1⟩ := eX (v0.drew)
 have HBv1 : Hid (Below v0.heap.size v0 v1) := zz (by rw [← hv1]; exact (Below.refl _ _).drew)
 rw [hv1]
 have hzv1 := HBv1.out.size
 have Hv1 := zz (Hv0.out.below HBv1.out)
 have HUv1 : Hid (Upd b 0 (0 + 12) (fun k => k = g ∨ k ∈ bO ah) w v1) := zz (HUv0.out.below HBv1.out Hv0.out.lt)
 have qn_0 := kC HBv1.out q_l q_0
 have qn_1 := kC HBv1.out q_l q_1
 have qn_2 := kC HBv1.out q_l q_2
 have qn_3 := kC HBv1.out q_l q_3
 have qn_4 := kC HBv1.out q_l q_4
 have qn_l := Nat.lt_of_lt_of_le q_l HBv1.out.size
 clear q_0 q_1 q_2 q_3 q_4 q_l
 have HA2n := zz (HA2.out.keep HBv1.out)
 clear k_f k_l k_0 k_1 k_2 k_3 k_4 k_5 k_6 k_7 k_8 k_9 k_10 k_11 hv1 hSc1
 have k_0 := Hv1.out.e0
 have k_1 := Hv1.out.e1
 have k_2 := Hv1.out.e2
 have k_3 := Hv1.out.e3
 have k_4 := Hv1.out.e4
 have k_5 := Hv1.out.e5
 have k_6 := Hv1.out.e6
 have k_7 := Hv1.out.e7
 have k_8 := Hv1.out.e8
 have k_9 := Hv1.out.e9
 have k_10 := Hv1.out.e10
 have k_11 := Hv1.out.e11
 have k_f := Hv1.out.fz
 have k_l := Hv1.out.lt
 have r65 : (c == 65) = false := beq_eq_false_iff_ne.2 (hc 65 (by decide))
 have r66 : (c == 66) = false := beq_eq_false_iff_ne.2 (hc 66 (by decide))
 have r67 : (c == 67) = false := beq_eq_false_iff_ne.2 (hc 67 (by decide))
 have r68 : (c == 68) = false := beq_eq_false_iff_ne.2 (hc 68 (by decide))
 have r72 : (c == 72) = false := beq_eq_false_iff_ne.2 (hc 72 (by decide))
 have r102 : (c == 102) = false := beq_eq_false_iff_ne.2 (hc 102 (by decide))
 have r74 : (c == 74) = false := beq_eq_false_iff_ne.2 (hc 74 (by decide))
 have r75 : (c == 75) = false := beq_eq_false_iff_ne.2 (hc 75 (by decide))
 have r76 : (c == 76) = false := beq_eq_false_iff_ne.2 (hc 76 (by decide))
 have r77 : (c == 77) = false := beq_eq_false_iff_ne.2 (hc 77 (by decide))
 have r83 : (c == 83) = false := beq_eq_false_iff_ne.2 (hc 83 (by decide))
 have r84 : (c == 84) = false := beq_eq_false_iff_ne.2 (hc 84 (by decide))
 have r109 : (c == 109) = false := beq_eq_false_iff_ne.2 (hc 109 (by decide))
 have r114 : (c == 114) = false := beq_eq_false_iff_ne.2 (hc 114 (by decide))
 go_wp2_with fail
 first | refine bodyPost_end (v := .tuple #[]) (by simp [results, Tryz.results82]) rfl ?_ | refine bodyPost_ret (v := .tuple #[]) (by simp [results, Tryz.results82]) rfl ?_
 refine ⟨rfl, ?_⟩
 unfold csiS
 rw [if_neg (hc 65 (by decide)), if_neg (hc 66 (by decide)), if_neg (hc 67 (by decide)), if_neg (hc 68 (by decide)), if_neg (fun h => h.elim (hc 72 (by decide)) (hc 102 (by decide))), if_neg (hc 74 (by decide)), if_neg (hc 75 (by decide)), if_neg (hc 76 (by decide)), if_neg (hc 77 (by decide)), if_neg (hc 83 (by decide)), if_neg (hc 84 (by decide)), if_neg (hc 109 (by decide)), if_neg (hc 114 (by decide))]
 exact .mk Hv1.out HUv1.out
end
section
theorem iArg_c (kd n : Int) (pv : Bool) (tx : ByteArray) (xs : List Int) (aa : Option Addr) (ca : Nat) (i : Nat) (d : Int) (w : World) (ha : Sl iE 1 w aa xs) (hi : i ≤ 7) (hx : xs.length ≤ 8) :
 Calls Tryz.prog 111 #[.agg #[.int .i64 kd, .int .i64 n, .bool pv, .slice aa xs.length ca, .string tx], .int .i64 i, .int .i64 d] w fun e w' => e = .returned (.int .i64 (argA xs i d)) ∧ Below w.heap.size w w' := by
 obtain ⟨ln, hln⟩ := eX (xs.length)
 by_cases hil : i < xs.length
 ·obtain ⟨b1, o1, rfl, hb1, hc1⟩ := (ha.alloc (.cells #[.int .i64 kd, .int .i64 n, .bool pv, .slice aa xs.length ca, .string tx] 38)).at hil
  have c1 := hc1 i hil 0 (by omega)
  obtain ⟨x, hx1⟩ := eX (xs[i])
  simp only [iE, Nat.mul_one, Nat.add_zero, List.getElem?_cons_zero] at c1
  rw [hx1] at c1
  have hv : argA xs i d = if x < 0 then d else x := by unfold argA; rw [dif_pos hil, hx1]
  rw [hv]
  rw [hln] at hb1 c1 hil hx ⊢
  clear hc1 ha hln hv hx1
  have g0 : ¬ ((i : Int) ≥ (ln : Int)) := by omega
  have g1 : (i : Int) < (ln : Int) := by omega
  have g2 : ¬ ((ln : Int) ≤ (i : Int)) := by omega
  by_cases h0 : x < 0
  ·rw [if_pos h0]
   go_enter Tryz.func111, Tryz.ntmps111
   go_wp2_with fail
   go_ret
   exact ⟨rfl, bA⟩
  ·rw [if_neg h0]
   go_enter Tryz.func111, Tryz.ntmps111
   go_wp2_with fail
   go_ret
   exact ⟨rfl, bA⟩
 ·have hv : argA xs i d = d := by unfold argA; rw [dif_neg hil]
  rw [hv]
  rw [hln] at hil hx ⊢
  clear ha hln hv
  have g0 : (ln : Int) ≤ (i : Int) := by omega
  go_enter Tryz.func111, Tryz.ntmps111
  go_wp2_with fail
  go_ret
  exact ⟨rfl, bA⟩
theorem Zy9 (lo b o : Nat) (s : Scr) (g cc : Nat) (ah : Option Addr) (dh : Nat) (w : World) (n : Int) (f t : Nat) (h : SA lo b o s g cc ah dh w) (ok : sK s) (hlo : lo ≤ w.heap.size) (hf : f ≤ curS s) (ht : curS s + 1 ≤ t) (ht2 : t ≤ s.w * s.h) :
 Calls Tryz.prog 112 #[.pointer (some ⟨b, o, none⟩), .int .i64 n, .int .i64 f, .int .i64 t] w fun e w' => e = .returned (.tuple #[]) ∧ sR lo b o (eraS s n f t) g ah w w' := by
 have HS := zz h
 have HOK := zz ok
 have hw1 := ok.w1
 have hw2 := ok.w2
 have hh1 := ok.h1
 have hh2 := ok.h2
 have hx := ok.hx
 have hy := ok.hy
 clear ok
 obtain ⟨p, hp⟩ := eX (s.y * s.w)
 obtain ⟨mx, hmx⟩ := eX (min s.x (s.w - 1))
 obtain ⟨cr, hcr⟩ := eX (curS s)
 obtain ⟨nn, hnn⟩ := eX (s.cells.length)
 have hpi : (s.y : Int) * (s.w : Int) = (p : Int) := by rw [← hp]; exact (Int.natCast_mul _ _).symm
 have hmi : min (s.x : Int) ((s.w : Int) - 1) = (mx : Int) := by omega
 have hcri : (p : Int) + (mx : Int) = (cr : Int) := by rw [← hcr, ← hp, ← hmx]; unfold curS; omega
 have hn240 : nn ≤ 240 := by rw [← hnn, HOK.out.cn]; exact Nat.mul_le_mul hw2 hh2
 rw [← HOK.out.cn, hnn] at ht2
 have hcc : nn ≤ cc := by rw [← hnn]; exact h.capC
 rw [hcr] at hf ht
 have HCR := zz hcr
 have HNN := zz hnn
 have k_0 := h.c0
 have k_2 := h.c2
 have k_3 := h.c3
 have k_10 := h.c10
 have k_l := h.lt
 rw [hnn] at k_10
 have HRW : Hid (Fr Za0 87 2 lo w.heap.size (.slice (some ⟨g, 0, none⟩) nn cc) s.cells w) := zz (by rw [← hnn]; exact h.row)
 clear h hp hmx hcr hnn
 have hw0_ : IntKind.i64.wrap ((s.w : Int) - 1) = (s.w : Int) - 1 := iIq _
 have hw1_ : IntKind.i64.wrap ((p : Int)) = (p : Int) := iIq _
 have hw2_ : IntKind.i64.wrap ((cr : Int)) = (cr : Int) := iIq _
 have hw3_ : IntKind.i64.wrap ((cr : Int) + 1) = (cr : Int) + 1 := iIq _
 by_cases h0 : n = 0
 ·subst h0
  have hFT : cr < t := by omega
  have hTn : t ≤ nn := by omega
  obtain ⟨D, hD⟩ := eX (t - cr)
  have hDi : (t : Int) - (cr : Int) = (D : Int) := by omega
  have hwD : IntKind.i64.wrap (D : Int) = (D : Int) := iIq _
  have z1 : ¬ cc = cr := by omega
  have z2 : t ≤ cc := by omega
  have z3 : cr ≤ t := by omega
  have hD1 : 1 ≤ D := by omega
  have HE : Hid (({ s with cells := splice s.cells cr (bL D) } : Scr) = eraS s 0 f t) := zz (by
   unfold eraS
   rw [if_pos rfl]
   (try rw [HCR.out])
   unfold clr clrL splice
   have h1 : (bL D).length = D := by simp [bL]
   rw [h1, show cr + D = t by omega, ← hD])
  clear hD
  go_enter Tryz.func112, Tryz.ntmps112
  go_upto_region 0 with fail
  refine rB [] [0,1,2,3,4,5,6,7,8,9,10,11,12,13,14,15,16,17,18,19,20] ?_
  repeat (first | refine oW (h := ?_) | refine oL (h := ?_))
  refine oD ?_
  go_upto_region 7 with fail
  refine rB [11] [0,1,2,3,4,5,6,7,8,9,10,11] ?_
  repeat (first | refine oW (h := ?_) | refine oL (h := ?_))
  refine oO (h := ?_)
  intro K' hK
  go_simp
  refine (Zg1 D (by omega) (by omega) _).mono ?_
  rintro e x1 ⟨v, rfl, hf1, hb⟩
  obtain ⟨ab, cb, rfl, hcb, ho⟩ := id hf1
  have hbx : Below w.drew.heap.size w.drew x1 := ((Below.refl _ _).drew).trans hb
  have HBX : Hid (Below w.heap.size w x1) := zz (((Below.refl _ _).drew).trans hbx)
  have HYB : Hid (Sl Za0 2 x1 ab (bL D)) := zz (Sl.of_own (fun _ => rfl) ho)
  have HAX := zz (HS.out.below HBX.out)
  have HRX : Hid (Fr Za0 87 2 lo x1.heap.size (.slice (some ⟨g, 0, none⟩) nn cc) s.cells x1) := zz (by rw [← HNN.out]; exact HAX.out.row)
  clear hf1 hcb ho hb
  refine oN hK (h := ?_)
  clear hK K'
  refine oO (h := ?_)
  intro K' hK
  rw [if_pos (by rfl)]
  refine sCf (enc := Za0) (sz := 2) (.tmp 45) (.tmp 49) 23 23 87 Tryz.underlying23 (by kernel_rfl) (fun _ => rfl) Ze2 HRX.out (off := cr) (bL D) ?c1 ?c2 ?c3 rfl rfl rfl ?_
  case c1 =>
   have h1 : (bL D).length = D := by simp [bL]
   rw [h1, show t - cr = D by omega]
   exact (Nat.min_self _).symm
  case c2 =>
   intro h
   exact ⟨rfl, HYB.out⟩
  case c3 =>
   have h1 : (bL D).length = D := by simp [bL]
   rw [h1, HNN.out]
   omega
  intro w11 hf11 hc11
  have HC11 : Hid (Ch (· = g) w w11) := zz ((Ch.of_below HBX.out).trans hc11 (fun _ h => .inl h))
  have HA11 : Hid (SA lo b o (eraS s 0 f t) g cc ah dh w11) := zz (by
   rw [← HE.out]
   have h1 : (bL D).length = D := by simp [bL]
   exact HAX.out.recell hc11 HNN.out (hf11.mono (Nat.le_refl _) hc11.size) (by rw [length_splice _ _ _ (by rw [h1, HNN.out]; omega), HNN.out]))
  clear hf11 hc11 hbx
  refine oN hK (h := ?_)
  clear hK K'
  refine oD ?_
  go_wp2_with fail
  first | refine bodyPost_end (v := .tuple #[]) (by simp [results, Tryz.results112]) rfl ?_ | refine bodyPost_ret (v := .tuple #[]) (by simp [results, Tryz.results112]) rfl ?_
  exact ⟨rfl, .mk HA11.out (Upd.ofCh (S := fun i => i = g ∨ i ∈ bO ah) HC11.out HS.out.lt (fun e => HS.out.gb e.symm) (fun i hi => .inl (.inl hi)))⟩
 by_cases h1 : n = 1
 ·subst h1
  obtain ⟨e1, he1⟩ := eX (cr + 1)
  have hei : (cr : Int) + 1 = (e1 : Int) := by omega
  have HE1 := zz he1
  have he2 : IntKind.i64.wrap (e1 : Int) = (e1 : Int) := iIq _
  have he3 : f < e1 ∧ e1 ≤ nn ∧ e1 ≤ cc := by omega
  clear he1
  have hFT : f < e1 := by omega
  have hTn : e1 ≤ nn := by omega
  obtain ⟨D, hD⟩ := eX (e1 - f)
  have hDi : (e1 : Int) - (f : Int) = (D : Int) := by omega
  have hwD : IntKind.i64.wrap (D : Int) = (D : Int) := iIq _
  have z1 : ¬ cc = f := by omega
  have z2 : e1 ≤ cc := by omega
  have z3 : f ≤ e1 := by omega
  have hD1 : 1 ≤ D := by omega
  have HE : Hid (({ s with cells := splice s.cells f (bL D) } : Scr) = eraS s 1 f t) := zz (by
   unfold eraS
   rw [if_neg (by decide), if_pos rfl]
   (try rw [HCR.out])
   unfold clr clrL splice
   have h1 : (bL D).length = D := by simp [bL]
   rw [h1, show f + D = e1 by omega, ← hD]
   rw [HE1.out])
  clear hD
  go_enter Tryz.func112, Tryz.ntmps112
  go_upto_region 0 with fail
  refine rB [] [0,1,2,3,4,5,6,7,8,9,10,11,12,13,14,15,16,17,18,19,20] ?_
  repeat (first | refine oW (h := ?_) | refine oL (h := ?_))
  refine oD ?_
  go_upto_region 7 with fail
  refine rB [11] [0,1,2,3,4,5,6,7,8,9,10,11] ?_
  repeat (first | refine oW (h := ?_) | refine oL (h := ?_))
  refine oO (h := ?_)
  intro K' hK
  go_simp
  refine (Zg1 D (by omega) (by omega) _).mono ?_
  rintro e x1 ⟨v, rfl, hf1, hb⟩
  obtain ⟨ab, cb, rfl, hcb, ho⟩ := id hf1
  have hbx : Below w.drew.heap.size w.drew x1 := ((Below.refl _ _).drew).trans hb
  have HBX : Hid (Below w.heap.size w x1) := zz (((Below.refl _ _).drew).trans hbx)
  have HYB : Hid (Sl Za0 2 x1 ab (bL D)) := zz (Sl.of_own (fun _ => rfl) ho)
  have HAX := zz (HS.out.below HBX.out)
  have HRX : Hid (Fr Za0 87 2 lo x1.heap.size (.slice (some ⟨g, 0, none⟩) nn cc) s.cells x1) := zz (by rw [← HNN.out]; exact HAX.out.row)
  clear hf1 hcb ho hb
  refine oN hK (h := ?_)
  clear hK K'
  refine oO (h := ?_)
  intro K' hK
  rw [if_pos (by rfl)]
  refine sCf (enc := Za0) (sz := 2) (.tmp 45) (.tmp 49) 23 23 87 Tryz.underlying23 (by kernel_rfl) (fun _ => rfl) Ze2 HRX.out (off := f) (bL D) ?c1 ?c2 ?c3 rfl rfl rfl ?_
  case c1 =>
   have h1 : (bL D).length = D := by simp [bL]
   rw [h1, show e1 - f = D by omega]
   exact (Nat.min_self _).symm
  case c2 =>
   intro h
   exact ⟨rfl, HYB.out⟩
  case c3 =>
   have h1 : (bL D).length = D := by simp [bL]
   rw [h1, HNN.out]
   omega
  intro w11 hf11 hc11
  have HC11 : Hid (Ch (· = g) w w11) := zz ((Ch.of_below HBX.out).trans hc11 (fun _ h => .inl h))
  have HA11 : Hid (SA lo b o (eraS s 1 f t) g cc ah dh w11) := zz (by
   rw [← HE.out]
   have h1 : (bL D).length = D := by simp [bL]
   exact HAX.out.recell hc11 HNN.out (hf11.mono (Nat.le_refl _) hc11.size) (by rw [length_splice _ _ _ (by rw [h1, HNN.out]; omega), HNN.out]))
  clear hf11 hc11 hbx
  refine oN hK (h := ?_)
  clear hK K'
  refine oD ?_
  go_wp2_with fail
  first | refine bodyPost_end (v := .tuple #[]) (by simp [results, Tryz.results112]) rfl ?_ | refine bodyPost_ret (v := .tuple #[]) (by simp [results, Tryz.results112]) rfl ?_
  exact ⟨rfl, .mk HA11.out (Upd.ofCh (S := fun i => i = g ∨ i ∈ bO ah) HC11.out HS.out.lt (fun e => HS.out.gb e.symm) (fun i hi => .inl (.inl hi)))⟩
 by_cases h2 : n = 2
 ·subst h2
  have hFT : f < t := by omega
  have hTn : t ≤ nn := by omega
  obtain ⟨D, hD⟩ := eX (t - f)
  have hDi : (t : Int) - (f : Int) = (D : Int) := by omega
  have hwD : IntKind.i64.wrap (D : Int) = (D : Int) := iIq _
  have z1 : ¬ cc = f := by omega
  have z2 : t ≤ cc := by omega
  have z3 : f ≤ t := by omega
  have hD1 : 1 ≤ D := by omega
  have HE : Hid (({ s with cells := splice s.cells f (bL D) } : Scr) = eraS s 2 f t) := zz (by
   unfold eraS
   rw [if_neg (by decide), if_neg (by decide), if_pos rfl]
   (try rw [HCR.out])
   unfold clr clrL splice
   have h1 : (bL D).length = D := by simp [bL]
   rw [h1, show f + D = t by omega, ← hD])
  clear hD
  go_enter Tryz.func112, Tryz.ntmps112
  go_upto_region 0 with fail
  refine rB [] [0,1,2,3,4,5,6,7,8,9,10,11,12,13,14,15,16,17,18,19,20] ?_
  repeat (first | refine oW (h := ?_) | refine oL (h := ?_))
  refine oD ?_
  go_upto_region 7 with fail
  refine rB [11] [0,1,2,3,4,5,6,7,8,9,10,11] ?_
  repeat (first | refine oW (h := ?_) | refine oL (h := ?_))
  refine oO (h := ?_)
  intro K' hK
  go_simp
  refine (Zg1 D (by omega) (by omega) _).mono ?_
  rintro e x1 ⟨v, rfl, hf1, hb⟩
  obtain ⟨ab, cb, rfl, hcb, ho⟩ := id hf1
  have hbx : Below w.drew.heap.size w.drew x1 := ((Below.refl _ _).drew).trans hb
  have HBX : Hid (Below w.heap.size w x1) := zz (((Below.refl _ _).drew).trans hbx)
  have HYB : Hid (Sl Za0 2 x1 ab (bL D)) := zz (Sl.of_own (fun _ => rfl) ho)
  have HAX := zz (HS.out.below HBX.out)
  have HRX : Hid (Fr Za0 87 2 lo x1.heap.size (.slice (some ⟨g, 0, none⟩) nn cc) s.cells x1) := zz (by rw [← HNN.out]; exact HAX.out.row)
  clear hf1 hcb ho hb
  refine oN hK (h := ?_)
  clear hK K'
  refine oO (h := ?_)
  intro K' hK
  rw [if_pos (by rfl)]
  refine sCf (enc := Za0) (sz := 2) (.tmp 45) (.tmp 49) 23 23 87 Tryz.underlying23 (by kernel_rfl) (fun _ => rfl) Ze2 HRX.out (off := f) (bL D) ?c1 ?c2 ?c3 rfl rfl rfl ?_
  case c1 =>
   have h1 : (bL D).length = D := by simp [bL]
   rw [h1, show t - f = D by omega]
   exact (Nat.min_self _).symm
  case c2 =>
   intro h
   exact ⟨rfl, HYB.out⟩
  case c3 =>
   have h1 : (bL D).length = D := by simp [bL]
   rw [h1, HNN.out]
   omega
  intro w11 hf11 hc11
  have HC11 : Hid (Ch (· = g) w w11) := zz ((Ch.of_below HBX.out).trans hc11 (fun _ h => .inl h))
  have HA11 : Hid (SA lo b o (eraS s 2 f t) g cc ah dh w11) := zz (by
   rw [← HE.out]
   have h1 : (bL D).length = D := by simp [bL]
   exact HAX.out.recell hc11 HNN.out (hf11.mono (Nat.le_refl _) hc11.size) (by rw [length_splice _ _ _ (by rw [h1, HNN.out]; omega), HNN.out]))
  clear hf11 hc11 hbx
  refine oN hK (h := ?_)
  clear hK K'
  refine oD ?_
  go_wp2_with fail
  first | refine bodyPost_end (v := .tuple #[]) (by simp [results, Tryz.results112]) rfl ?_ | refine bodyPost_ret (v := .tuple #[]) (by simp [results, Tryz.results112]) rfl ?_
  exact ⟨rfl, .mk HA11.out (Upd.ofCh (S := fun i => i = g ∨ i ∈ bO ah) HC11.out HS.out.lt (fun e => HS.out.gb e.symm) (fun i hi => .inl (.inl hi)))⟩
 have q0 : (n == 0) = false := beq_eq_false_iff_ne.2 h0
 have q1 : (n == 1) = false := beq_eq_false_iff_ne.2 h1
 have q2 : (n == 2) = false := beq_eq_false_iff_ne.2 h2
 go_enter Tryz.func112, Tryz.ntmps112
 go_upto_region 0 with fail
 refine rB [] [0,1,2,3,4,5,6,7,8,9,10,11,12,13,14,15,16,17,18,19,20] ?_
 repeat (first | refine oW (h := ?_) | refine oL (h := ?_))
 refine oD ?_
 go_wp2_with fail
 first | refine bodyPost_end (v := .tuple #[]) (by simp [results, Tryz.results112]) rfl ?_ | refine bodyPost_ret (v := .tuple #[]) (by simp [results, Tryz.results112]) rfl ?_
 refine ⟨rfl, ?_⟩
 unfold eraS
 rw [if_neg h0, if_neg h1, if_neg h2]
 exact .mk HS.out.drew Upd.refl'.drew
end
section
theorem looksIOK {s : Scr} (h : sK s) (xs : List Int) : sK { s with look := xs.foldl lookI s.look } :=
 ⟨h.w1, h.w2, h.h1, h.h2, h.hx, h.hy, Zl6 h.lk xs, h.tb, h.bh, h.hsx, h.hsy, h.ti, h.cn, h.cs, h.hn, h.hs⟩
theorem sR.from {lo b o : Nat} {s s2 : Scr} {g cc : Nat} {ah : Option Addr} {dh : Nat} {w v w2 : World} (h : SA lo b o s g cc ah dh v) (u : Upd b o (o + 12) (fun k => k = g ∨ k ∈ bO ah) w v) (k : sR lo b o s2 g ah v.drew w2) : sR lo b o s2 g ah w w2 :=
 sR.trans h.drew u.drew (.inl rfl) (fun _ h => .inl h) k
theorem icsi_c (lo b o : Nat) (s : Scr) (g cc : Nat) (ah : Option Addr) (dh : Nat) (w : World) (kd : Int) (xs : List Int) (aa : Option Addr) (ca : Nat) (tx : ByteArray) (c : Int) (h : SA lo b o s g cc ah dh w) (ok : sK s) (hlo : lo ≤ w.heap.size) (ha : Sl iE 1 w aa xs) (hna : ∀ k ∈ bO aa, k ≠ b ∧ k ≠ g ∧ k ∉ bO ah) (hx8 : xs.length ≤ 8) (hxr : ∀ x ∈ xs, -1 ≤ x ∧ x ≤ 9999) :
 Calls Tryz.prog 76 #[.pointer (some ⟨b, o, none⟩), .agg #[.int .i64 kd, .int .i64 c, .bool false, .slice aa xs.length ca, .string tx]] w fun e w' => e = .returned (.tuple #[]) ∧ sR lo b o (csiI s c xs) g ah w w' := by
 have HS := zz h
 have HOK := zz ok
 have HA := zz ha
 have HNA := zz hna
 have HXR := zz hxr
 have HX8 := zz hx8
 have hw1 := ok.w1
 have hw2 := ok.w2
 have hh1 := ok.h1
 have hh2 := ok.h2
 have hx := ok.hx
 have hy := ok.hy
 have htb := ok.tb
 have hbh := ok.bh
 have hlt := h.lt
 obtain ⟨n, hn⟩ := eX (arg1 xs 0)
 obtain ⟨A0, hA0⟩ := eX (argA xs 0 1)
 have hAb : -1 ≤ A0 ∧ A0 ≤ 9999 := by rw [← hA0]; exact Za1 HXR.out (by omega) (by omega)
 have hm : max 1 A0 = (n : Int) := by rw [← hn, ← hA0]; unfold arg1; omega
 have hn1 : 1 ≤ n := by omega
 have hn2 : n ≤ 9999 := by omega
 have HN := zz hn
 have HA0 := zz hA0
 obtain ⟨ln, hln⟩ := eX (xs.length)
 have HLN := zz hln
 have HCALL : ∀ (i : Nat) (d : Int) (W : World), i ≤ 7 → Sl iE 1 W aa xs → Calls Tryz.prog 111 #[.agg #[.int .i64 kd, .int .i64 c, .bool false, .slice aa ln ca, .string tx], .int .i64 i, .int .i64 d] W fun e w' => e = .returned (.int .i64 (argA xs i d)) ∧ Below W.heap.size W w' := fun i d W hi hW => by
  rw [← hln]
  exact iArg_c kd c false tx xs aa ca i d W hW hi hx8
 have HCL := zz HCALL
 obtain ⟨ins, hins⟩ := eX (inB (s.y : Int) (s.top : Int) (s.bot : Int))
 have HINS := zz hins
 rw [hln]
 clear h ok ha hna hxr hx8 hn hA0 hln HCALL hins
 go_enter Tryz.func76, Tryz.ntmps76
 go_upto_region 1 with fail
 obtain ⟨x0, hx0⟩ := eX (w.alloc (.cells #[.int .i64 kd, .int .i64 c, .bool false, .slice aa ln ca, .string tx] 38))
 have HB00 : Hid (Below w.heap.size w x0) := zz (by rw [← hx0]; exact bA)
 have q_0 : x0.cell? ⟨w.heap.size, 0, none⟩ = some (.int .i64 kd) := by rw [← hx0]; simp [go_sem]
 have q_1 : x0.cell? ⟨w.heap.size, 1, none⟩ = some (.int .i64 c) := by rw [← hx0]; simp [go_sem]
 have q_2 : x0.cell? ⟨w.heap.size, 2, none⟩ = some (.bool false) := by rw [← hx0]; simp [go_sem]
 have q_3 : x0.cell? ⟨w.heap.size, 3, none⟩ = some (.slice aa ln ca) := by rw [← hx0]; simp [go_sem]
 have q_4 : x0.cell? ⟨w.heap.size, 4, none⟩ = some (.string tx) := by rw [← hx0]; simp [go_sem]
 have q_l : w.heap.size < x0.heap.size := by rw [← hx0]; simp
 rw [hx0]
 clear hx0
 go_wp2_with fail
 refine (HCL.out 0 1 _ (by omega) (HA.out.keep HB00.out)).mono ?_
 rintro e v0 ⟨rfl, hb0⟩
 rw [HA0.out]
 have HBA := zz hb0
 have HB0 : Hid (Below w.heap.size w v0) := zz (HB00.out.trans (hb0.mono HB00.out.size))
 have p_0 := (hb0.cell (p := ⟨w.heap.size, 0, none⟩) q_l).trans q_0
 have p_1 := (hb0.cell (p := ⟨w.heap.size, 1, none⟩) q_l).trans q_1
 have p_2 := (hb0.cell (p := ⟨w.heap.size, 2, none⟩) q_l).trans q_2
 have p_3 := (hb0.cell (p := ⟨w.heap.size, 3, none⟩) q_l).trans q_3
 have p_4 := (hb0.cell (p := ⟨w.heap.size, 4, none⟩) q_l).trans q_4
 have p_l := Nat.lt_of_lt_of_le q_l hb0.size
 have hz0 := HB0.out.size
 clear hb0 q_0 q_1 q_2 q_3 q_4
 have HV := zz (HS.out.below HB0.out)
 have HU : Hid (Upd b o (o + 12) (fun k => k = g ∨ k ∈ bO ah) w v0) := zz (Upd.refl'.below HB0.out HS.out.lt)
 have HAV := zz (HA.out.keep HB0.out)
 have k_0 := HV.out.c0
 have k_1 := HV.out.c1
 have k_2 := HV.out.c2
 have k_3 := HV.out.c3
 have k_4 := HV.out.c4
 have k_5 := HV.out.c5
 have k_6 := HV.out.c6
 have k_7 := HV.out.c7
 have k_8 := HV.out.c8
 have k_f := HV.out.fz
 have k_l := HV.out.lt
 go_upto_region 2 with fail
 refine rB [] [0,1,2,3,4,5,6,7,8,9,10,11,12,13] ?_
 repeat (first | refine oW (h := ?_) | refine oL (h := ?_))
 refine oO (h := ?_)
 intro K' hK
 go_simp
 refine (wI _ _ _ _).mono ?_
 rw [HINS.out]
 rintro e w' ⟨rfl, rfl⟩
 refine oN hK (h := ?_)
 clear hK K'
 repeat (first | refine oW (h := ?_) | refine oL (h := ?_))
 refine oD ?_
 by_cases h65 : c = 65
 ·subst h65
  have hwa : IntKind.i64.wrap ((s.y : Int) - (n : Int)) = (s.y : Int) - (n : Int) := iIq _
  have hr : max 0 ((s.y : Int) - (n : Int)) = ((s.y - n : Nat) : Int) := by omega
  go_wp2_with fail
  first | refine bodyPost_end (v := .tuple #[]) (by simp [results, Tryz.results76]) rfl ?_ | refine bodyPost_ret (v := .tuple #[]) (by simp [results, Tryz.results76]) rfl ?_
  refine ⟨rfl, ?_⟩
  unfold csiI
  rw [if_neg (by decide)]
  unfold csiS
  rw [if_pos (by decide)]
  rw [HN.out]
  refine sR.mk (cc := cc) (dh := dh) ?_ ?_
  ·repeat (with_reducible refine SA.drew ?_)
   first | exact HV.out.setv3 _ rfl | exact HV.out.drew.setv3 _ rfl
  ·repeat (with_reducible refine Upd.drew ?_)
   first | exact Upd.set3 (HU.out) _ | exact Upd.set3 (HU.out.drew) _
 by_cases h66 : c = 66
 ·subst h66
  have hwa : IntKind.i64.wrap ((s.y : Int) + (n : Int)) = (s.y : Int) + (n : Int) := iIq _
  have hwb : IntKind.i64.wrap ((s.h : Int) - 1) = (s.h : Int) - 1 := iIq _
  have hr : min ((s.h : Int) - 1) ((s.y : Int) + (n : Int)) = ((min (s.h - 1) (s.y + n) : Nat) : Int) := by omega
  go_upto_region 7 with fail
  refine rB [15] [0,1,2,3,4,5,6,7,8,9,10,11,12,13,14,15] ?_
  repeat (first | refine oW (h := ?_) | refine oL (h := ?_))
  refine oO (h := ?_)
  intro K' hK
  go_simp
  refine oN hK (h := ?_)
  clear hK K'
  refine oD ?_
  go_wp2_with fail
  first | refine bodyPost_end (v := .tuple #[]) (by simp [results, Tryz.results76]) rfl ?_ | refine bodyPost_ret (v := .tuple #[]) (by simp [results, Tryz.results76]) rfl ?_
  refine ⟨rfl, ?_⟩
  unfold csiI
  rw [if_neg (by decide)]
  unfold csiS
  rw [if_neg (by decide), if_pos (by decide)]
  rw [HN.out]
  refine sR.mk (cc := cc) (dh := dh) ?_ ?_
  ·repeat (with_reducible refine SA.drew ?_)
   first | exact HV.out.setv3 _ rfl | exact HV.out.drew.drew.setv3 _ rfl
  ·repeat (with_reducible refine Upd.drew ?_)
   first | exact Upd.set3 (HU.out) _ | exact Upd.set3 (HU.out.drew.drew) _
 by_cases h67 : c = 67
 ·subst h67
  have hwa : IntKind.i64.wrap ((s.x : Int) + (n : Int)) = (s.x : Int) + (n : Int) := iIq _
  have hwb : IntKind.i64.wrap ((s.w : Int) - 1) = (s.w : Int) - 1 := iIq _
  have hr : min ((s.w : Int) - 1) ((s.x : Int) + (n : Int)) = ((min (s.w - 1) (s.x + n) : Nat) : Int) := by omega
  go_upto_region 9 with fail
  refine rB [15] [0,1,2,3,4,5,6,7,8,9,10,11,12,13,14,15] ?_
  repeat (first | refine oW (h := ?_) | refine oL (h := ?_))
  refine oO (h := ?_)
  intro K' hK
  go_simp
  refine oN hK (h := ?_)
  clear hK K'
  refine oD ?_
  go_wp2_with fail
  first | refine bodyPost_end (v := .tuple #[]) (by simp [results, Tryz.results76]) rfl ?_ | refine bodyPost_ret (v := .tuple #[]) (by simp [results, Tryz.results76]) rfl ?_
  refine ⟨rfl, ?_⟩
  unfold csiI
  rw [if_neg (by decide)]
  unfold csiS
  rw [if_neg (by decide), if_neg (by decide), if_pos (by decide)]
  rw [HN.out]
  refine sR.mk (cc := cc) (dh := dh) ?_ ?_
  ·repeat (with_reducible refine SA.drew ?_)
   first | exact HV.out.setv2 _ rfl | exact HV.out.drew.drew.setv2 _ rfl
  ·repeat (with_reducible refine Upd.drew ?_)
   first | exact Upd.set2 (HU.out) _ | exact Upd.set2 (HU.out.drew.drew) _
 by_cases h68 : c = 68
 ·subst h68
  obtain ⟨mx, hmx⟩ := eX (min s.x (s.w - 1))
  have hmi : min (s.x : Int) ((s.w : Int) - 1) = (mx : Int) := by omega
  have HMX := zz hmx
  have hmx2 : mx ≤ 24 := by omega
  clear hmx
  have hwa : IntKind.i64.wrap ((mx : Int) - (n : Int)) = (mx : Int) - (n : Int) := iIq _
  have hwb : IntKind.i64.wrap ((s.w : Int) - 1) = (s.w : Int) - 1 := iIq _
  have hr : max 0 ((mx : Int) - (n : Int)) = ((mx - n : Nat) : Int) := by omega
  go_upto_region 11 with fail
  refine rB [16] [0,1,2,3,4,5,6,7,8,9,10,11,12,13,14,15,16] ?_
  repeat (first | refine oW (h := ?_) | refine oL (h := ?_))
  refine oO (h := ?_)
  intro K' hK
  go_simp
  refine oN hK (h := ?_)
  clear hK K'
  refine oD ?_
  go_wp2_with fail
  first | refine bodyPost_end (v := .tuple #[]) (by simp [results, Tryz.results76]) rfl ?_ | refine bodyPost_ret (v := .tuple #[]) (by simp [results, Tryz.results76]) rfl ?_
  refine ⟨rfl, ?_⟩
  unfold csiI
  rw [if_neg (by decide)]
  unfold csiS
  rw [if_neg (by decide), if_neg (by decide), if_neg (by decide), if_pos (by decide)]
  rw [HN.out, HMX.out]
  refine sR.mk (cc := cc) (dh := dh) ?_ ?_
  ·repeat (with_reducible refine SA.drew ?_)
   first | exact HV.out.setv2 _ rfl | exact HV.out.drew.drew.setv2 _ rfl
  ·repeat (with_reducible refine Upd.drew ?_)
   first | exact Upd.set2 (HU.out) _ | exact Upd.set2 (HU.out.drew.drew) _
 by_cases h72 : c = 72
 ·subst h72
  obtain ⟨m1, hm1⟩ := eX (min s.h n)
  have hmi : min (s.h : Int) (n : Int) = (m1 : Int) := by omega
  have HM1 := zz hm1
  have hm12 : 1 ≤ m1 ∧ m1 ≤ 10 := by omega
  have hwa : IntKind.i64.wrap ((m1 : Int) - 1) = ((m1 - 1 : Nat) : Int) := by rw [iIq _]; omega
  obtain ⟨A1, hA1⟩ := eX (argA xs 1 1)
  have hA1b : -1 ≤ A1 ∧ A1 ≤ 9999 := by rw [← hA1]; exact Za1 HXR.out (by omega) (by omega)
  obtain ⟨n1, hn1'⟩ := eX (arg1 xs 1)
  have hmA : max 1 A1 = (n1 : Int) := by rw [← hn1', ← hA1]; unfold arg1; omega
  have HN1 := zz hn1'
  have HA1 := zz hA1
  obtain ⟨m2, hm2⟩ := eX (min s.w n1)
  have hmi2 : min (s.w : Int) (n1 : Int) = (m2 : Int) := by omega
  have HM2 := zz hm2
  have hm22 : 1 ≤ m2 ∧ m2 ≤ 24 := by omega
  have hwb : IntKind.i64.wrap ((m2 : Int) - 1) = ((m2 - 1 : Nat) : Int) := by rw [iIq _]; omega
  clear hm1 hm2 hA1 hn1'
  go_upto_region 15 with fail
  obtain ⟨v1, hv1⟩ : ∃ x, (v0.setCell ⟨b, o + 3, none⟩ (.int .i64 ((m1 - 1 : Nat) : Int))).drew = x := ⟨_, rfl⟩
  have HV1 : Hid (SA lo b o { s with y := m1 - 1 } g cc ah dh v1) := zz (by rw [← hv1]; exact (HV.out.setv3 _ rfl).drew)
  have HU1 : Hid (Upd b o (o + 12) (fun k => k = g ∨ k ∈ bO ah) w v1) := zz (by rw [← hv1]; exact (Upd.set3 HU.out _).drew)
  have hne : ¬ w.heap.size = b := by omega
  have HC1 : Hid (Ch (· = b) v0 v1) := zz (by rw [← hv1]; exact (Ch.set1' _ b (o + 3) _).drew)
  have HAV1 : Hid (Sl iE 1 v1 aa xs) := zz (HAV.out.ch HC1.out (fun k hk e => (HNA.out k hk).1 e))
  have k_0 := HV1.out.c0
  have k_2 := HV1.out.c2
  have k_f := HV1.out.fz
  have k_l := HV1.out.lt
  have p_0 := (HC1.out.cell (p := ⟨w.heap.size, 0, none⟩) p_l hne).trans p_0
  have p_1 := (HC1.out.cell (p := ⟨w.heap.size, 1, none⟩) p_l hne).trans p_1
  have p_2 := (HC1.out.cell (p := ⟨w.heap.size, 2, none⟩) p_l hne).trans p_2
  have p_3 := (HC1.out.cell (p := ⟨w.heap.size, 3, none⟩) p_l hne).trans p_3
  have p_4 := (HC1.out.cell (p := ⟨w.heap.size, 4, none⟩) p_l hne).trans p_4
  have p_l := Nat.lt_of_lt_of_le p_l HC1.out.size
  rw [hv1]
  clear hv1
  refine rB [12] [0,1,2,3,4,5,6,7,8,9,10,11,12] ?_
  repeat (first | refine oW (h := ?_) | refine oL (h := ?_))
  refine oO (h := ?_)
  intro K' hK
  go_simp
  refine (HCL.out 1 1 _ (by omega) HAV1.out.drew).mono ?_
  rintro e x1 ⟨rfl, hb1⟩
  rw [HA1.out]
  have hbx : Below v1.heap.size v1 x1 := ((Below.refl _ _).drew).trans hb1
  have HX1 := zz (HV1.out.below hbx)
  have HUX : Hid (Upd b o (o + 12) (fun k => k = g ∨ k ∈ bO ah) w x1) := zz (HU1.out.below hbx HV1.out.lt)
  have x_2 := HX1.out.c2
  have x_f := HX1.out.fz
  have x_l := HX1.out.lt
  clear hb1
  refine oN hK (h := ?_)
  clear hK K'
  repeat (first | refine oW (h := ?_) | refine oL (h := ?_))
  refine oO (h := ?_)
  intro K' hK
  go_simp
  refine oN hK (h := ?_)
  clear hK K'
  refine oD ?_
  go_wp2_with fail
  first | refine bodyPost_end (v := .tuple #[]) (by simp [results, Tryz.results76]) rfl ?_ | refine bodyPost_ret (v := .tuple #[]) (by simp [results, Tryz.results76]) rfl ?_
  refine ⟨rfl, ?_⟩
  unfold csiI
  rw [if_neg (by decide)]
  unfold csiS
  rw [if_neg (by decide), if_neg (by decide), if_neg (by decide), if_neg (by decide), if_pos (by decide)]
  rw [HN.out, HN1.out, HM1.out, HM2.out]
  refine sR.mk (cc := cc) (dh := dh) ?_ ?_
  ·repeat (with_reducible refine SA.drew ?_)
   exact HX1.out.setv2 _ rfl
  ·repeat (with_reducible refine Upd.drew ?_)
   exact Upd.set2 HUX.out _
 by_cases h102 : c = 102
 ·subst h102
  obtain ⟨m1, hm1⟩ := eX (min s.h n)
  have hmi : min (s.h : Int) (n : Int) = (m1 : Int) := by omega
  have HM1 := zz hm1
  have hm12 : 1 ≤ m1 ∧ m1 ≤ 10 := by omega
  have hwa : IntKind.i64.wrap ((m1 : Int) - 1) = ((m1 - 1 : Nat) : Int) := by rw [iIq _]; omega
  obtain ⟨A1, hA1⟩ := eX (argA xs 1 1)
  have hA1b : -1 ≤ A1 ∧ A1 ≤ 9999 := by rw [← hA1]; exact Za1 HXR.out (by omega) (by omega)
  obtain ⟨n1, hn1'⟩ := eX (arg1 xs 1)
  have hmA : max 1 A1 = (n1 : Int) := by rw [← hn1', ← hA1]; unfold arg1; omega
  have HN1 := zz hn1'
  have HA1 := zz hA1
  obtain ⟨m2, hm2⟩ := eX (min s.w n1)
  have hmi2 : min (s.w : Int) (n1 : Int) = (m2 : Int) := by omega
  have HM2 := zz hm2
  have hm22 : 1 ≤ m2 ∧ m2 ≤ 24 := by omega
  have hwb : IntKind.i64.wrap ((m2 : Int) - 1) = ((m2 - 1 : Nat) : Int) := by rw [iIq _]; omega
  clear hm1 hm2 hA1 hn1'
  go_upto_region 15 with fail
  obtain ⟨v1, hv1⟩ : ∃ x, (v0.setCell ⟨b, o + 3, none⟩ (.int .i64 ((m1 - 1 : Nat) : Int))).drew = x := ⟨_, rfl⟩
  have HV1 : Hid (SA lo b o { s with y := m1 - 1 } g cc ah dh v1) := zz (by rw [← hv1]; exact (HV.out.setv3 _ rfl).drew)
  have HU1 : Hid (Upd b o (o + 12) (fun k => k = g ∨ k ∈ bO ah) w v1) := zz (by rw [← hv1]; exact (Upd.set3 HU.out _).drew)
  have hne : ¬ w.heap.size = b := by omega
  have HC1 : Hid (Ch (· = b) v0 v1) := zz (by rw [← hv1]; exact (Ch.set1' _ b (o + 3) _).drew)
  have HAV1 : Hid (Sl iE 1 v1 aa xs) := zz (HAV.out.ch HC1.out (fun k hk e => (HNA.out k hk).1 e))
  have k_0 := HV1.out.c0
  have k_2 := HV1.out.c2
  have k_f := HV1.out.fz
  have k_l := HV1.out.lt
  have p_0 := (HC1.out.cell (p := ⟨w.heap.size, 0, none⟩) p_l hne).trans p_0
  have p_1 := (HC1.out.cell (p := ⟨w.heap.size, 1, none⟩) p_l hne).trans p_1
  have p_2 := (HC1.out.cell (p := ⟨w.heap.size, 2, none⟩) p_l hne).trans p_2
  have p_3 := (HC1.out.cell (p := ⟨w.heap.size, 3, none⟩) p_l hne).trans p_3
  have p_4 := (HC1.out.cell (p := ⟨w.heap.size, 4, none⟩) p_l hne).trans p_4
  have p_l := Nat.lt_of_lt_of_le p_l HC1.out.size
  rw [hv1]
  clear hv1
  refine rB [12] [0,1,2,3,4,5,6,7,8,9,10,11,12] ?_
  repeat (first | refine oW (h := ?_) | refine oL (h := ?_))
  refine oO (h := ?_)
  intro K' hK
  go_simp
  refine (HCL.out 1 1 _ (by omega) HAV1.out.drew).mono ?_
  rintro e x1 ⟨rfl, hb1⟩
  rw [HA1.out]
  have hbx : Below v1.heap.size v1 x1 := ((Below.refl _ _).drew).trans hb1
  have HX1 := zz (HV1.out.below hbx)
  have HUX : Hid (Upd b o (o + 12) (fun k => k = g ∨ k ∈ bO ah) w x1) := zz (HU1.out.below hbx HV1.out.lt)
  have x_2 := HX1.out.c2
  have x_f := HX1.out.fz
  have x_l := HX1.out.lt
  clear hb1
  refine oN hK (h := ?_)
  clear hK K'
  repeat (first | refine oW (h := ?_) | refine oL (h := ?_))
  refine oO (h := ?_)
  intro K' hK
  go_simp
  refine oN hK (h := ?_)
  clear hK K'
  refine oD ?_
  go_wp2_with fail
  first | refine bodyPost_end (v := .tuple #[]) (by simp [results, Tryz.results76]) rfl ?_ | refine bodyPost_ret (v := .tuple #[]) (by simp [results, Tryz.results76]) rfl ?_
  refine ⟨rfl, ?_⟩
  unfold csiI
  rw [if_neg (by decide)]
  unfold csiS
  rw [if_neg (by decide), if_neg (by decide), if_neg (by decide), if_neg (by decide), if_pos (by decide)]
  rw [HN.out, HN1.out, HM1.out, HM2.out]
  refine sR.mk (cc := cc) (dh := dh) ?_ ?_
  ·repeat (with_reducible refine SA.drew ?_)
   exact HX1.out.setv2 _ rfl
  ·repeat (with_reducible refine Upd.drew ?_)
   exact Upd.set2 HUX.out _
 by_cases h74 : c = 74
 ·subst h74
  obtain ⟨Z, hZ⟩ := eX (argA xs 0 0)
  have HZ := zz hZ
  clear hZ
  obtain ⟨nn, hnn⟩ := eX (s.w * s.h)
  have hnni : (s.w : Int) * (s.h : Int) = (nn : Int) := by rw [← hnn]; exact (Int.natCast_mul _ _).symm
  have hn240 : nn ≤ 240 := by rw [← hnn]; exact Nat.mul_le_mul hw2 hh2
  have hwE : IntKind.i64.wrap (nn : Int) = (nn : Int) := iIq _
  have HNN := zz hnn
  clear hnn
  go_upto_region 17 with fail
  refine rB [12] [0,1,3,4,5,6,7,8,9,10,11,2,12] ?_
  repeat (first | refine oW (h := ?_) | refine oL (h := ?_))
  refine oO (h := ?_)
  intro K' hK
  go_simp
  refine (HCL.out 0 0 _ (by omega) HAV.out.drew.drew).mono ?_
  rintro e x1 ⟨rfl, hb1⟩
  rw [HZ.out]
  have hbx : Below v0.drew.heap.size v0.drew x1 := ((Below.refl _ _).drew).trans hb1
  have HX1 := zz (HV.out.drew.below hbx)
  have HUX : Hid (Upd b o (o + 12) (fun k => k = g ∨ k ∈ bO ah) w x1) := zz (HU.out.drew.below hbx HV.out.lt)
  have hzx := hbx.size
  have hlx : lo ≤ x1.heap.size := by have : v0.drew.heap.size = v0.heap.size := rfl; omega
  clear hb1
  refine oN hK (h := ?_)
  clear hK K'
  refine oO (h := ?_)
  intro K' hK
  go_simp
  refine (Zy9 lo b o s g cc ah dh _ Z 0 nn HX1.out HOK.out hlx (by have := HOK.out.cur; omega) (by have := HOK.out.cur; omega) (by have := HOK.out.cur; omega)).mono ?_
  rintro e x2 ⟨rfl, hr⟩
  have HR : Hid (sR lo b o (eraS s Z (0) (nn)) g ah w x2) := zz (sR.trans HX1.out HUX.out (.inl rfl) (fun _ h => .inl h) hr)
  clear hr hbx hzx
  refine oN hK (h := ?_)
  clear hK K'
  refine oD ?_
  go_wp2_with fail
  first | refine bodyPost_end (v := .tuple #[]) (by simp [results, Tryz.results76]) rfl ?_ | refine bodyPost_ret (v := .tuple #[]) (by simp [results, Tryz.results76]) rfl ?_
  refine ⟨rfl, ?_⟩
  unfold csiI
  rw [if_neg (by decide)]
  unfold csiS
  rw [if_neg (by decide), if_neg (by decide), if_neg (by decide), if_neg (by decide), if_neg (by decide), if_pos (by decide)]
  rw [HZ.out, HNN.out]
  exact HR.out
 by_cases h75 : c = 75
 ·subst h75
  obtain ⟨Z, hZ⟩ := eX (argA xs 0 0)
  have HZ := zz hZ
  clear hZ
  obtain ⟨p, hp⟩ := eX (s.y * s.w)
  obtain ⟨pn, hpn⟩ : ∃ q, (s.y + 1) * s.w = q := ⟨_, rfl⟩
  have hpi : (s.y : Int) * (s.w : Int) = (p : Int) := by rw [← hp]; exact (Int.natCast_mul _ _).symm
  have hpni : ((s.y : Int) + 1) * (s.w : Int) = (pn : Int) := by rw [← hpn]; exact (Int.natCast_mul (s.y + 1) s.w).symm
  have hp240 : p ≤ 240 ∧ pn ≤ 240 := by
   have h1 : (s.y + 1) * s.w ≤ 10 * 24 := Nat.mul_le_mul (by omega) hw2
   have h2 : s.y * s.w ≤ (s.y + 1) * s.w := Nat.mul_le_mul_right _ (by omega)
   omega
  have hwB : IntKind.i64.wrap (p : Int) = (p : Int) := iIq _
  have hwD : IntKind.i64.wrap (pn : Int) = (pn : Int) := iIq _
  have hwF : IntKind.i64.wrap ((s.y : Int) + 1) = (s.y : Int) + 1 := iIq _
  have HP := zz hp
  have HPN := zz hpn
  clear hp hpn
  go_upto_region 19 with fail
  refine rB [22] [0,1,3,4,5,6,7,8,9,10,11,12,13,14,15,16,17,18,19,20,21,2,22] ?_
  repeat (first | refine oW (h := ?_) | refine oL (h := ?_))
  refine oO (h := ?_)
  intro K' hK
  go_simp
  refine (HCL.out 0 0 _ (by omega) HAV.out.drew.drew).mono ?_
  rintro e x1 ⟨rfl, hb1⟩
  rw [HZ.out]
  have hbx : Below v0.drew.heap.size v0.drew x1 := ((Below.refl _ _).drew).trans hb1
  have HX1 := zz (HV.out.drew.below hbx)
  have HUX : Hid (Upd b o (o + 12) (fun k => k = g ∨ k ∈ bO ah) w x1) := zz (HU.out.drew.below hbx HV.out.lt)
  have hzx := hbx.size
  have hlx : lo ≤ x1.heap.size := by have : v0.drew.heap.size = v0.heap.size := rfl; omega
  clear hb1
  refine oN hK (h := ?_)
  clear hK K'
  refine oO (h := ?_)
  intro K' hK
  go_simp
  refine (Zy9 lo b o s g cc ah dh _ Z p pn HX1.out HOK.out hlx (by have := HOK.out.cur; rw [← HP.out]; omega) (by have := HOK.out.cur; rw [← HPN.out]; omega) (by have := HOK.out.cur; rw [← HPN.out]; omega)).mono ?_
  rintro e x2 ⟨rfl, hr⟩
  have HR : Hid (sR lo b o (eraS s Z (p) (pn)) g ah w x2) := zz (sR.trans HX1.out HUX.out (.inl rfl) (fun _ h => .inl h) hr)
  clear hr hbx hzx
  refine oN hK (h := ?_)
  clear hK K'
  refine oD ?_
  go_wp2_with fail
  first | refine bodyPost_end (v := .tuple #[]) (by simp [results, Tryz.results76]) rfl ?_ | refine bodyPost_ret (v := .tuple #[]) (by simp [results, Tryz.results76]) rfl ?_
  refine ⟨rfl, ?_⟩
  unfold csiI
  rw [if_neg (by decide)]
  unfold csiS
  rw [if_neg (by decide), if_neg (by decide), if_neg (by decide), if_neg (by decide), if_neg (by decide), if_neg (by decide), if_pos (by decide)]
  rw [HZ.out, HP.out, HPN.out]
  exact HR.out
 by_cases h76 : c = 76
 ·subst h76
  by_cases hin : s.top ≤ s.y ∧ s.y ≤ s.bot
  ·have hi' : ins = true := by rw [← HINS.out]; simp [inB]; omega
   subst hi'
   go_upto_region 22 with fail
   refine rB [10] [0,1,2,3,4,5,6,7,8,9,10] ?_
   repeat (first | refine oW (h := ?_) | refine oL (h := ?_))
   refine oO (h := ?_)
   intro K' hK
   go_simp
   refine (Zi1 lo b o s g cc ah dh _ s.y s.bot n HV.out.drew.drew HOK.out hin.2 hbh (by show lo ≤ v0.heap.size; omega)).mono ?_
   rintro e x1 ⟨rfl, hr⟩
   obtain ⟨g1, c1, a1, d1, ha1, hu1, hg1, hh1'⟩ := sR.from HV.out.drew HU.out.drew hr
   have x_2 := ha1.c2
   have x_f := ha1.fz
   have x_l := ha1.lt
   have HX1 := zz ha1
   have HU1 := zz hu1
   have HG1 := zz hg1
   have HH1 := zz hh1'
   clear hr ha1 hu1 hg1 hh1'
   refine oN hK (h := ?_)
   clear hK K'
   refine oD ?_
   go_wp2_with fail
   first | refine bodyPost_end (v := .tuple #[]) (by simp [results, Tryz.results76]) rfl ?_ | refine bodyPost_ret (v := .tuple #[]) (by simp [results, Tryz.results76]) rfl ?_
   refine ⟨rfl, ?_⟩
   unfold csiI
   rw [if_neg (by decide)]
   unfold csiS
   rw [if_neg (by decide), if_neg (by decide), if_neg (by decide), if_neg (by decide), if_neg (by decide), if_neg (by decide), if_neg (by decide), if_pos (by decide)]
   rw [if_pos hin, HN.out]
   exact ⟨g1, c1, a1, d1, HX1.out.setv2 0 rfl, HU1.out.set1'' (by omega) (by omega) _, HG1.out, HH1.out⟩
  ·have hi' : ins = false := by rw [← HINS.out]; simp only [inB, Bool.and_eq_false_iff, decide_eq_false_iff_not]; omega
   subst hi'
   go_wp2_with fail
   first | refine bodyPost_end (v := .tuple #[]) (by simp [results, Tryz.results76]) rfl ?_ | refine bodyPost_ret (v := .tuple #[]) (by simp [results, Tryz.results76]) rfl ?_
   refine ⟨rfl, ?_⟩
   unfold csiI
   rw [if_neg (by decide)]
   unfold csiS
   rw [if_neg (by decide), if_neg (by decide), if_neg (by decide), if_neg (by decide), if_neg (by decide), if_neg (by decide), if_neg (by decide), if_pos (by decide)]
   rw [if_neg hin]
   exact .mk HV.out.drew HU.out.drew
 by_cases h77 : c = 77
 ·subst h77
  by_cases hin : s.top ≤ s.y ∧ s.y ≤ s.bot
  ·have hi' : ins = true := by rw [← HINS.out]; simp [inB]; omega
   subst hi'
   go_upto_region 26 with fail
   refine rB [10] [0,1,2,3,4,5,6,7,8,9,10] ?_
   repeat (first | refine oW (h := ?_) | refine oL (h := ?_))
   refine oO (h := ?_)
   intro K' hK
   go_simp
   refine (Zi5 lo b o s g cc ah dh _ s.y s.bot n false HV.out.drew.drew HOK.out hin.2 hbh (by show lo ≤ v0.heap.size; omega)).mono ?_
   rintro e x1 ⟨rfl, hr⟩
   obtain ⟨g1, c1, a1, d1, ha1, hu1, hg1, hh1'⟩ := sR.from HV.out.drew HU.out.drew hr
   have x_2 := ha1.c2
   have x_f := ha1.fz
   have x_l := ha1.lt
   have HX1 := zz ha1
   have HU1 := zz hu1
   have HG1 := zz hg1
   have HH1 := zz hh1'
   clear hr ha1 hu1 hg1 hh1'
   refine oN hK (h := ?_)
   clear hK K'
   refine oD ?_
   go_wp2_with fail
   first | refine bodyPost_end (v := .tuple #[]) (by simp [results, Tryz.results76]) rfl ?_ | refine bodyPost_ret (v := .tuple #[]) (by simp [results, Tryz.results76]) rfl ?_
   refine ⟨rfl, ?_⟩
   unfold csiI
   rw [if_neg (by decide)]
   unfold csiS
   rw [if_neg (by decide), if_neg (by decide), if_neg (by decide), if_neg (by decide), if_neg (by decide), if_neg (by decide), if_neg (by decide), if_neg (by decide), if_pos (by decide)]
   rw [if_pos hin, HN.out]
   exact ⟨g1, c1, a1, d1, HX1.out.setv2 0 rfl, HU1.out.set1'' (by omega) (by omega) _, HG1.out, HH1.out⟩
  ·have hi' : ins = false := by rw [← HINS.out]; simp only [inB, Bool.and_eq_false_iff, decide_eq_false_iff_not]; omega
   subst hi'
   go_wp2_with fail
   first | refine bodyPost_end (v := .tuple #[]) (by simp [results, Tryz.results76]) rfl ?_ | refine bodyPost_ret (v := .tuple #[]) (by simp [results, Tryz.results76]) rfl ?_
   refine ⟨rfl, ?_⟩
   unfold csiI
   rw [if_neg (by decide)]
   unfold csiS
   rw [if_neg (by decide), if_neg (by decide), if_neg (by decide), if_neg (by decide), if_neg (by decide), if_neg (by decide), if_neg (by decide), if_neg (by decide), if_pos (by decide)]
   rw [if_neg hin]
   exact .mk HV.out.drew HU.out.drew
 by_cases h83 : c = 83
 ·subst h83
  go_upto_region 29 with fail
  refine rB [10] [0,1,2,3,4,5,6,7,8,9,10] ?_
  repeat (first | refine oW (h := ?_) | refine oL (h := ?_))
  refine oO (h := ?_)
  intro K' hK
  go_simp
  refine (Zi5 lo b o s g cc ah dh _ s.top s.bot n true HV.out.drew.drew HOK.out (Nat.le_of_lt htb) hbh (by show lo ≤ v0.heap.size; omega)).mono ?_
  rintro e x1 ⟨rfl, hr⟩
  have HR := zz (sR.from HV.out.drew HU.out.drew hr)
  clear hr
  refine oN hK (h := ?_)
  clear hK K'
  refine oD ?_
  go_wp2_with fail
  first | refine bodyPost_end (v := .tuple #[]) (by simp [results, Tryz.results76]) rfl ?_ | refine bodyPost_ret (v := .tuple #[]) (by simp [results, Tryz.results76]) rfl ?_
  refine ⟨rfl, ?_⟩
  unfold csiI
  rw [if_neg (by decide)]
  unfold csiS
  rw [if_neg (by decide), if_neg (by decide), if_neg (by decide), if_neg (by decide), if_neg (by decide), if_neg (by decide), if_neg (by decide), if_neg (by decide), if_neg (by decide), if_pos (by decide)]
  rw [HN.out]
  exact HR.out
 by_cases h84 : c = 84
 ·subst h84
  go_upto_region 31 with fail
  refine rB [10] [0,1,2,3,4,5,6,7,8,9,10] ?_
  repeat (first | refine oW (h := ?_) | refine oL (h := ?_))
  refine oO (h := ?_)
  intro K' hK
  go_simp
  refine (Zi1 lo b o s g cc ah dh _ s.top s.bot n HV.out.drew.drew HOK.out (Nat.le_of_lt htb) hbh (by show lo ≤ v0.heap.size; omega)).mono ?_
  rintro e x1 ⟨rfl, hr⟩
  have HR := zz (sR.from HV.out.drew HU.out.drew hr)
  clear hr
  refine oN hK (h := ?_)
  clear hK K'
  refine oD ?_
  go_wp2_with fail
  first | refine bodyPost_end (v := .tuple #[]) (by simp [results, Tryz.results76]) rfl ?_ | refine bodyPost_ret (v := .tuple #[]) (by simp [results, Tryz.results76]) rfl ?_
  refine ⟨rfl, ?_⟩
  unfold csiI
  rw [if_neg (by decide)]
  unfold csiS
  rw [if_neg (by decide), if_neg (by decide), if_neg (by decide), if_neg (by decide), if_neg (by decide), if_neg (by decide), if_neg (by decide), if_neg (by decide), if_neg (by decide), if_neg (by decide), if_pos (by decide)]
  rw [HN.out]
  exact HR.out
 by_cases h109 : c = 109
 ·subst h109
  go_wp2_with fail
  go_loopw [221] (fun iv wi => ∃ i : Nat, i ≤ ln ∧ iv = .int .i64 i ∧ Hid (sR lo b o { s with look := (xs.take i).foldl lookI s.look } g ah v0 wi)) (fun iv _ => ln - (intOf iv).toNat)
  case atStart => exact ⟨0, Nat.zero_le _, rfl, zz (.mk HV.out.drew Upd.refl.drew)⟩
  case round =>
   obtain ⟨i, hi, rfl, HI⟩ := hrel
   have hln8 : ln ≤ 8 := by rw [← HLN.out]; exact HX8.out
   obtain ⟨g1, cc1, ah1, dh1, ha, hu, hg, hh⟩ := HI.out
   have HC := zz hu.ch
   have HX := zz ha
   have HUX := zz hu
   have HG := zz hg
   have HH := zz hh
   have hzr := hu.size
   have HAr : Hid (Sl iE 1 wr aa xs) := zz (HAV.out.ch HC.out (fun k hk => by
    have h := HNA.out k hk
    rintro (h1 | h1 | h1)
    ·exact h.1 h1
    ·exact h.2.1 h1
    ·exact h.2.2 h1))
   clear ha hu hg hh p_0 p_1 p_2 p_3 p_4
   by_cases hlt : i < ln
   ·have hlt' : (i : Int) < (ln : Int) := by omega
    have hix : i < xs.length := by rw [HLN.out]; exact hlt
    obtain ⟨b1, o1, hae, hb1, hc1⟩ := HAr.out.at hix
    subst hae
    obtain ⟨x, hxx⟩ := eX (xs[i])
    have c1 := hc1 i hix 0 (by omega)
    rw [hxx] at c1
    simp only [iE, Nat.mul_one, Nat.add_zero, List.getElem?_cons_zero] at c1
    have hxb := HXR.out x (by rw [← hxx]; exact List.getElem_mem hix)
    have HTK : Hid ((xs.take (i + 1)).foldl lookI s.look = lookI ((xs.take i).foldl lookI s.look) x) := zz (by
     rw [List.take_succ_eq_append_getElem hix, List.foldl_append, hxx]
     rfl)
    clear hc1 hxx hix
    go_wp2_with fail
    refine (iLook_c lo b o _ g1 cc1 ah1 dh1 _ x HX.out (looksIOK HOK.out _) (by omega) hxb.2).mono ?_
    rintro e x1 ⟨rfl, hr⟩
    have HR := zz hr
    clear hr
    go_wp2_with fail
    go_roundw
    case rel =>
     refine ⟨i + 1, by omega, by go_num, zz ?_⟩
     rw [HTK.out]
     exact sR.trans HX.out HUX.out HG.out HH.out HR.out
    case measure => simp [intOf]; omega
   ·obtain rfl : i = ln := by omega
    have htk : xs.take i = xs := List.take_of_length_le (by rw [HLN.out]; exact Nat.le_refl _)
    have HTK := zz htk
    clear htk
    go_wp2_with fail
    first | refine bodyPost_end (v := .tuple #[]) (by simp [results, Tryz.results76]) rfl ?_ | refine bodyPost_ret (v := .tuple #[]) (by simp [results, Tryz.results76]) rfl ?_
    refine ⟨rfl, ?_⟩
    unfold csiI
    rw [if_pos rfl]
    have h9 := HI.out
    rw [HTK.out] at h9
    exact sR.trans HV.out HU.out (.inl rfl) (fun _ h => .inl h) h9
 by_cases h114 : c = 114
 ·subst h114
  have hwK : IntKind.i64.wrap ((n : Int) - 1) = ((n - 1 : Nat) : Int) := by rw [iIq _]; omega
  obtain ⟨A1, hA1⟩ := eX (argA xs 1 (s.h : Int))
  have hA1b : -1 ≤ A1 ∧ A1 ≤ 9999 := by rw [← hA1]; exact Za1 HXR.out (by omega) (by omega)
  have hA1c : 0 ≤ A1 := by rw [← hA1]; unfold argA; split <;> (try split) <;> omega
  obtain ⟨l1, hl1⟩ := eX (min s.h A1.toNat)
  have hm1 : min (s.h : Int) A1 = (l1 : Int) := by omega
  have hl10 : l1 ≤ 10 := by omega
  have hlh : l1 ≤ s.h := by omega
  have HA1 := zz hA1
  have HL1 := zz hl1
  clear hA1 hl1
  go_upto_region 39 with fail
  refine rB [] [0,1,2,3,4,5,6,7,8,9,10,11] ?_
  repeat (first | refine oW (h := ?_) | refine oL (h := ?_))
  refine oO (h := ?_)
  intro K' hK
  go_simp
  refine (HCL.out 1 s.h _ (by omega) HAV.out.drew.drew).mono ?_
  rintro e x1 ⟨rfl, hb1⟩
  rw [HA1.out]
  have hbx : Below v0.drew.heap.size v0.drew x1 := ((Below.refl _ _).drew).trans hb1
  have HX1 := zz (HV.out.drew.below hbx)
  have HUX : Hid (Upd b o (o + 12) (fun k => k = g ∨ k ∈ bO ah) w x1) := zz (HU.out.drew.below hbx HV.out.lt)
  have x_2 := HX1.out.c2
  have x_3 := HX1.out.c3
  have x_5 := HX1.out.c5
  have x_6 := HX1.out.c6
  have x_f := HX1.out.fz
  have x_l := HX1.out.lt
  clear hb1
  refine oN hK (h := ?_)
  clear hK K'
  repeat (first | refine oW (h := ?_) | refine oL (h := ?_))
  refine oD ?_
  by_cases hnl : n < l1
  ·have hnl' : (n : Int) < (l1 : Int) := by omega
   have hwL : IntKind.i64.wrap ((l1 : Int) - 1) = ((l1 - 1 : Nat) : Int) := by rw [iIq _]; omega
   go_wp2_with fail
   first | refine bodyPost_end (v := .tuple #[]) (by simp [results, Tryz.results76]) rfl ?_ | refine bodyPost_ret (v := .tuple #[]) (by simp [results, Tryz.results76]) rfl ?_
   refine ⟨rfl, ?_⟩
   unfold csiI
   rw [if_neg (by decide)]
   unfold csiS
   rw [if_neg (by decide), if_neg (by decide), if_neg (by decide), if_neg (by decide), if_neg (by decide), if_neg (by decide), if_neg (by decide), if_neg (by decide), if_neg (by decide), if_neg (by decide), if_neg (by decide), if_neg (by decide), if_pos (by decide)]
   rw [HN.out, HA1.out, HL1.out, if_pos hnl]
   refine sR.mk (cc := cc) (dh := dh) ?_ ?_
   ·repeat (with_reducible refine SA.drew ?_)
    exact (((HX1.out.setv5 _ rfl).setv6 _ rfl).setv2 0 rfl).setv3 0 rfl
   ·repeat (with_reducible refine Upd.drew ?_)
    exact Upd.set3 (Upd.set2 (Upd.set6 (Upd.set5 HUX.out _) _) _) _
  ·have hnl' : ¬ (n : Int) < (l1 : Int) := by omega
   have hnl2 : (l1 : Int) ≤ (n : Int) := by omega
   go_wp2_with fail
   first | refine bodyPost_end (v := .tuple #[]) (by simp [results, Tryz.results76]) rfl ?_ | refine bodyPost_ret (v := .tuple #[]) (by simp [results, Tryz.results76]) rfl ?_
   refine ⟨rfl, ?_⟩
   unfold csiI
   rw [if_neg (by decide)]
   unfold csiS
   rw [if_neg (by decide), if_neg (by decide), if_neg (by decide), if_neg (by decide), if_neg (by decide), if_neg (by decide), if_neg (by decide), if_neg (by decide), if_neg (by decide), if_neg (by decide), if_neg (by decide), if_neg (by decide), if_pos (by decide)]
   rw [HN.out, HA1.out, HL1.out, if_neg hnl]
   exact .mk HX1.out HUX.out
 have q65 : (c == 65) = false := beq_eq_false_iff_ne.2 h65
 have q66 : (c == 66) = false := beq_eq_false_iff_ne.2 h66
 have q67 : (c == 67) = false := beq_eq_false_iff_ne.2 h67
 have q68 : (c == 68) = false := beq_eq_false_iff_ne.2 h68
 have q72 : (c == 72) = false := beq_eq_false_iff_ne.2 h72
 have q102 : (c == 102) = false := beq_eq_false_iff_ne.2 h102
 have q74 : (c == 74) = false := beq_eq_false_iff_ne.2 h74
 have q75 : (c == 75) = false := beq_eq_false_iff_ne.2 h75
 have q76 : (c == 76) = false := beq_eq_false_iff_ne.2 h76
 have q77 : (c == 77) = false := beq_eq_false_iff_ne.2 h77
 have q83 : (c == 83) = false := beq_eq_false_iff_ne.2 h83
 have q84 : (c == 84) = false := beq_eq_false_iff_ne.2 h84
 have q109 : (c == 109) = false := beq_eq_false_iff_ne.2 h109
 have q114 : (c == 114) = false := beq_eq_false_iff_ne.2 h114
 go_wp2_with fail
 first | refine bodyPost_end (v := .tuple #[]) (by simp [results, Tryz.results76]) rfl ?_ | refine bodyPost_ret (v := .tuple #[]) (by simp [results, Tryz.results76]) rfl ?_
 refine ⟨rfl, ?_⟩
 unfold csiI
 rw [if_neg h109]
 unfold csiS
 rw [if_neg h65, if_neg h66, if_neg h67, if_neg h68, if_neg (not_or.2 ⟨h72, h102⟩), if_neg h74, if_neg h75, if_neg h76, if_neg h77, if_neg h83, if_neg h84, if_neg h109, if_neg h114]
 exact .mk HV.out.drew HU.out.drew
end
section
theorem csi72_c (lo b : Nat) (s : Scr) (g cc : Nat) (ah : Option Addr) (dh : Nat) (w : World) (kd : Int) (xs : List Int) (aa : Option Addr) (ca : Nat) (tx : ByteArray) (h : SA lo b 0 s g cc ah dh w) (ok : sK s) (hlo : lo ≤ w.heap.size) (ha : Sl iE 1 w aa xs) (hna : ∀ k ∈ bO aa, k ≠ b ∧ k ≠ g ∧ k ∉ bO ah) (hx8 : xs.length ≤ 8) (hxr : ∀ x ∈ xs, -1 ≤ x ∧ x ≤ 9999) :
 Calls Tryz.prog 82 #[.pointer (some ⟨b, 0, none⟩), .agg #[.int .i64 kd, .int .i64 72, .bool false, .slice aa xs.length ca, .string tx]] w fun e w' => e = .returned (.tuple #[]) ∧ sR lo b 0 (csiS s 72 xs) g ah w w' := by
 have HS := zz h
 have HOK := zz ok
 have HA := zz ha
 have HNA := zz hna
 have HXR := zz hxr
 have HX8 := zz hx8
 have hw1 := ok.w1
 have hw2 := ok.w2
 have hh1 := ok.h1
 have hh2 := ok.h2
 have hx := ok.hx
 have hy := ok.hy
 have hcur := ok.cur
 have hcn := ok.cn
 have hlt := h.lt
 obtain ⟨n, hn⟩ := eX (arg1 xs 0)
 obtain ⟨A0, hA0⟩ := eX (argA xs 0 1)
 have hAb : -1 ≤ A0 ∧ A0 ≤ 9999 := by rw [← hA0]; exact Za1 HXR.out (by omega) (by omega)
 have hm : max 1 A0 = (n : Int) := by rw [← hn, ← hA0]; unfold arg1; omega
 have hn1 : 1 ≤ n := by omega
 have hn2 : n ≤ 9999 := by omega
 have HN := zz hn
 have HA0 := zz hA0
 obtain ⟨p, hp⟩ := eX (s.y * s.w)
 obtain ⟨mx, hmx⟩ := eX (min s.x (s.w - 1))
 obtain ⟨cr, hcr⟩ := eX (curS s)
 obtain ⟨pn, hpn⟩ : ∃ q, (s.y + 1) * s.w = q := ⟨_, rfl⟩
 obtain ⟨nn, hnn⟩ := eX (s.w * s.h)
 obtain ⟨hpi, hpni, hnni, hmi, hcri, hn240⟩ := csP s hp hpn hnn hmx hcr hw1 hw2 hh2
 rw [hcr, hp, hpn, hnn] at hcur
 rw [hnn] at hcn
 obtain ⟨hc1, hc2, hc3⟩ := hcur
 have HCN := zz hcn
 have HP := zz hp
 have HMX := zz hmx
 have HCR := zz hcr
 have HPN := zz hpn
 have HNN := zz hnn
 obtain ⟨hwA, hwB, hwC, hwD, hwE, hwF, hwG⟩ := csW s p cr pn nn
 obtain ⟨ln, hln⟩ := eX (xs.length)
 have HLN := zz hln
 have HCALL : ∀ (i : Nat) (d : Int) (W : World), i ≤ 7 → Sl iE 1 W aa xs → Calls Tryz.prog 117 #[.agg #[.int .i64 kd, .int .i64 72, .bool false, .slice aa ln ca, .string tx], .int .i64 i, .int .i64 d] W fun e w' => e = .returned (.int .i64 (argA xs i d)) ∧ Below W.heap.size W w' := fun i d W hi hW => by
  rw [← hln]
  exact lA kd 72 false tx xs aa ca i d W hW hi hx8
 rw [hln]
 clear h ok ha hna hxr hx8 hn hA0 hp hmx hcr hpn hnn hcn hln
 go_enter Tryz.func82, Tryz.ntmps82
 go_wp2_with fail
 refine (HCALL 0 1 _ (by omega) (HA.out.alloc _)).mono ?_
 rintro e v0 ⟨rfl, hb0⟩
 rw [HA0.out]
 have HB0 : Hid (Below w.heap.size w v0) := zz (((Below.refl w.heap.size w).alloc (Nat.le_refl _) _).trans (hb0.mono (by simp)))
 have hz0 := HB0.out.size
 have q_l : w.heap.size < v0.heap.size := by have := hb0.size; simp at this; omega
 have q_0 : v0.cell? ⟨w.heap.size, 0, none⟩ = some (.int .i64 kd) := kC hb0 (by simp) (by simp [go_sem])
 have q_1 : v0.cell? ⟨w.heap.size, 1, none⟩ = some (.int .i64 72) := kC hb0 (by simp) (by simp [go_sem])
 have q_2 : v0.cell? ⟨w.heap.size, 2, none⟩ = some (.bool false) := kC hb0 (by simp) (by simp [go_sem])
 have q_3 : v0.cell? ⟨w.heap.size, 3, none⟩ = some (.slice aa ln ca) := kC hb0 (by simp) (by simp [go_sem])
 have q_4 : v0.cell? ⟨w.heap.size, 4, none⟩ = some (.string tx) := kC hb0 (by simp) (by simp [go_sem])
 clear hb0
 have q_b : ¬ w.heap.size = b := by omega
 have HA_nb : ∀ k ∈ bO aa, ¬ k = b := fun k hk => (HNA.out k hk).1
 have Hv0 := zz (HS.out.below HB0.out)
 have HA2 := zz (HA.out.keep HB0.out)
 have HUv0 : Hid (Upd b 0 (0 + 12) (fun k => k = g ∨ k ∈ bO ah) w v0) := zz (Upd.refl'.below HB0.out HS.out.lt)
 have HA2_nb := HA_nb
 have k_0 := Hv0.out.e0
 have k_1 := Hv0.out.e1
 have k_2 := Hv0.out.e2
 have k_3 := Hv0.out.e3
 have k_4 := Hv0.out.e4
 have k_5 := Hv0.out.e5
 have k_6 := Hv0.out.e6
 have k_7 := Hv0.out.e7
 have k_8 := Hv0.out.e8
 have k_9 := Hv0.out.e9
 have k_10 := Hv0.out.e10
 have k_11 := Hv0.out.e11
 have k_f := Hv0.out.fz
 have k_l := Hv0.out.lt
 go_upto_region 4 with fail
 have hSc1 := And.intro k_0 (And.intro k_2 k_3)
 refine rO (fun w' => w'.cell? ⟨b, 0, none⟩ = some (.int .i64 s.w) ∧ w'.cell? ⟨b, 2, none⟩ = some (.int .i64 s.x) ∧ w'.cell? ⟨b, 3, none⟩ = some (.int .i64 s.y)) [] [0,1,2,3,4,5,6,7,8,9,10,11,12,13,14,15,16,17,18,19,20] ?_
 iterate 21 (first | refine oW (h := ?_) | refine oL (hS := hSc1) (h := ?_))
 refine oD ?_
 obtain ⟨v1, hv1⟩ := eX (v0.drew)
 have HBv1 : Hid (Below v0.heap.size v0 v1) := zz (by rw [← hv1]; exact (Below.refl _ _).drew)
 rw [hv1]
 have hzv1 := HBv1.out.size
 have Hv1 := zz (Hv0.out.below HBv1.out)
 have HUv1 : Hid (Upd b 0 (0 + 12) (fun k => k = g ∨ k ∈ bO ah) w v1) := zz (HUv0.out.below HBv1.out Hv0.out.lt)
 have qn_0 := kC HBv1.out q_l q_0
 have qn_1 := kC HBv1.out q_l q_1
 have qn_2 := kC HBv1.out q_l q_2
 have qn_3 := kC HBv1.out q_l q_3
 have qn_4 := kC HBv1.out q_l q_4
 have qn_l := Nat.lt_of_lt_of_le q_l HBv1.out.size
 clear q_0 q_1 q_2 q_3 q_4 q_l
 have HA2n := zz (HA2.out.keep HBv1.out)
 clear k_f k_l k_0 k_1 k_2 k_3 k_4 k_5 k_6 k_7 k_8 k_9 k_10 k_11 hv1 hSc1
 have k_0 := Hv1.out.e0
 have k_1 := Hv1.out.e1
 have k_2 := Hv1.out.e2
 have k_3 := Hv1.out.e3
 have k_4 := Hv1.out.e4
 have k_5 := Hv1.out.e5
 have k_6 := Hv1.out.e6
 have k_7 := Hv1.out.e7
 have k_8 := Hv1.out.e8
 have k_9 := Hv1.out.e9
 have k_10 := Hv1.out.e10
 have k_11 := Hv1.out.e11
 have k_f := Hv1.out.fz
 have k_l := Hv1.out.lt
 have hwJ : IntKind.i64.wrap ((s.h : Int) - 1) = (s.h : Int) - 1 := iIq _
 have hwK : IntKind.i64.wrap ((n : Int) - 1) = (n : Int) - 1 := iIq _
 obtain ⟨n1, hN1⟩ := eX (arg1 xs 1)
 obtain ⟨A1, hA1⟩ := eX (argA xs 1 1)
 have hA1b : -1 ≤ A1 ∧ A1 ≤ 9999 := by rw [← hA1]; exact Za1 HXR.out (by omega) (by omega)
 have hm1 : max 1 A1 = (n1 : Int) := by rw [← hN1, ← hA1]; unfold arg1; omega
 have hwL : IntKind.i64.wrap ((n1 : Int) - 1) = (n1 : Int) - 1 := iIq _
 have HN1 := zz hN1
 have HA1 := zz hA1
 clear hN1 hA1
 go_upto_region 17 with fail
 obtain ⟨v2, hv2⟩ := eX (v1.setCell ⟨b, 3, none⟩ (.int .i64 (min ((s.h : Int) - 1) ((n : Int) - 1))))
 have Hv2 : Hid (SA lo b 0 ({ s with y := min s.h n - 1 } : Scr) g cc ah dh v2) := zz (by rw [← hv2]; exact Hv1.out.setv3 (min s.h n - 1) (by omega))
 have HUv2 : Hid (Upd b 0 (0 + 12) (fun k => k = g ∨ k ∈ bO ah) w v2) := zz (by rw [← hv2]; exact HUv1.out.set3 _)
 have HCv2 : Hid (Ch (· = b) v1 v2) := zz (by rw [← hv2]; exact Ch.set1' _ _ _ _)
 rw [hv2]
 have qnn_0 : v2.cell? ⟨w.heap.size, 0, none⟩ = some (.int .i64 kd) := (HCv2.out.cell (p := ⟨w.heap.size, 0, none⟩) qn_l q_b).trans qn_0
 have qnn_1 : v2.cell? ⟨w.heap.size, 1, none⟩ = some (.int .i64 72) := (HCv2.out.cell (p := ⟨w.heap.size, 1, none⟩) qn_l q_b).trans qn_1
 have qnn_2 : v2.cell? ⟨w.heap.size, 2, none⟩ = some (.bool false) := (HCv2.out.cell (p := ⟨w.heap.size, 2, none⟩) qn_l q_b).trans qn_2
 have qnn_3 : v2.cell? ⟨w.heap.size, 3, none⟩ = some (.slice aa ln ca) := (HCv2.out.cell (p := ⟨w.heap.size, 3, none⟩) qn_l q_b).trans qn_3
 have qnn_4 : v2.cell? ⟨w.heap.size, 4, none⟩ = some (.string tx) := (HCv2.out.cell (p := ⟨w.heap.size, 4, none⟩) qn_l q_b).trans qn_4
 have qnn_l := Nat.lt_of_lt_of_le qn_l HCv2.out.size
 clear qn_0 qn_1 qn_2 qn_3 qn_4 qn_l
 have HA2nn := zz (Sl.ch HA2n.out HCv2.out HA2_nb)
 clear hv2 k_f k_l k_0 k_1 k_2 k_3 k_4 k_5 k_6 k_7 k_8 k_9 k_10 k_11
 have k_0 := Hv2.out.e0
 have k_1 := Hv2.out.e1
 have k_2 := Hv2.out.e2
 have k_3 : v2.cell? ⟨b, 3, none⟩ = some (.int .i64 ((min s.h n - 1 : Nat) : Int)) := Hv2.out.c3
 have k_4 := Hv2.out.e4
 have k_5 := Hv2.out.e5
 have k_6 := Hv2.out.e6
 have k_7 := Hv2.out.e7
 have k_8 := Hv2.out.e8
 have k_9 := Hv2.out.e9
 have k_10 := Hv2.out.e10
 have k_11 := Hv2.out.e11
 have k_f := Hv2.out.fz
 have k_l := Hv2.out.lt
 have hSc2 := And.intro k_0 (And.intro qnn_0 (And.intro qnn_1 (And.intro qnn_2 (And.intro qnn_3 qnn_4))))
 refine rO (fun w' => w'.cell? ⟨b, 0, none⟩ = some (.int .i64 s.w) ∧ w'.cell? ⟨w.heap.size, 0, none⟩ = some (.int .i64 kd) ∧ w'.cell? ⟨w.heap.size, 1, none⟩ = some (.int .i64 72) ∧ w'.cell? ⟨w.heap.size, 2, none⟩ = some (.bool false) ∧ w'.cell? ⟨w.heap.size, 3, none⟩ = some (.slice aa ln ca) ∧ w'.cell? ⟨w.heap.size, 4, none⟩ = some (.string tx)) [13] [0,1,2,3,4,5,6,7,8,9,10,11,12,13] ?_
 iterate 7 (first | refine oW (h := ?_) | refine oL (hS := hSc2) (h := ?_))
 refine oO (hS := .inr hSc2) (h := ?_)
 intro K' hK
 go_simp
 refine (HCALL 1 1 _ (by omega) (HA2nn.out.keep ((Below.refl _ _).drew))).mono ?_
 rintro e x1 ⟨rfl, hb1⟩
 rw [HA1.out]
 have HB1 : Hid (Below v2.heap.size v2 x1) := zz (((Below.refl _ _).drew).trans hb1)
 have HX1 := zz (Hv2.out.below HB1.out)
 have e_0 := HX1.out.c0
 have e_2 := HX1.out.c2
 have e_f := HX1.out.fz
 have e_l := HX1.out.lt
 have hSx : x1.cell? ⟨b, 0, none⟩ = some (.int .i64 s.w) ∧ x1.cell? ⟨w.heap.size, 0, none⟩ = some (.int .i64 kd) ∧ x1.cell? ⟨w.heap.size, 1, none⟩ = some (.int .i64 72) ∧ x1.cell? ⟨w.heap.size, 2, none⟩ = some (.bool false) ∧ x1.cell? ⟨w.heap.size, 3, none⟩ = some (.slice aa ln ca) ∧ x1.cell? ⟨w.heap.size, 4, none⟩ = some (.string tx) := ⟨HX1.out.c0, (HB1.out.cell (p := ⟨w.heap.size, 0, none⟩) qnn_l).trans qnn_0, (HB1.out.cell (p := ⟨w.heap.size, 1, none⟩) qnn_l).trans qnn_1, (HB1.out.cell (p := ⟨w.heap.size, 2, none⟩) qnn_l).trans qnn_2, (HB1.out.cell (p := ⟨w.heap.size, 3, none⟩) qnn_l).trans qnn_3, (HB1.out.cell (p := ⟨w.heap.size, 4, none⟩) qnn_l).trans qnn_4⟩
 clear hb1
 refine oN hK (hS := .inr hSx) (h := ?_)
 clear hK K'
 iterate 5 refine oW (h := ?_)
 refine oO (hS := .inl rfl) (h := ?_)
 intro K' hK
 go_simp
 refine oN hK (hS := .inl rfl) (h := ?_)
 clear hK K'
 refine oD ?_
 go_wp2_with fail
 first | refine bodyPost_end (v := .tuple #[]) (by simp [results, Tryz.results82]) rfl ?_ | refine bodyPost_ret (v := .tuple #[]) (by simp [results, Tryz.results82]) rfl ?_
 refine ⟨rfl, ?_⟩
 unfold csiS
 rw [if_neg (by decide), if_neg (by decide), if_neg (by decide), if_neg (by decide), if_pos (by decide)]
 rw [HN.out, HN1.out]
 refine sR.mk (cc := cc) (dh := dh) ?_ ?_
 ·repeat (with_reducible refine SA.drew ?_)
  exact HX1.out.setv2 _ (by omega)
 ·repeat (with_reducible refine Upd.drew ?_)
  exact (HUv2.out.below HB1.out Hv2.out.lt).set2 _
theorem csi102_c (lo b : Nat) (s : Scr) (g cc : Nat) (ah : Option Addr) (dh : Nat) (w : World) (kd : Int) (xs : List Int) (aa : Option Addr) (ca : Nat) (tx : ByteArray) (h : SA lo b 0 s g cc ah dh w) (ok : sK s) (hlo : lo ≤ w.heap.size) (ha : Sl iE 1 w aa xs) (hna : ∀ k ∈ bO aa, k ≠ b ∧ k ≠ g ∧ k ∉ bO ah) (hx8 : xs.length ≤ 8) (hxr : ∀ x ∈ xs, -1 ≤ x ∧ x ≤ 9999) :
 Calls Tryz.prog 82 #[.pointer (some ⟨b, 0, none⟩), .agg #[.int .i64 kd, .int .i64 102, .bool false, .slice aa xs.length ca, .string tx]] w fun e w' => e = .returned (.tuple #[]) ∧ sR lo b 0 (csiS s 102 xs) g ah w w' := by
 have HS := zz h
 have HOK := zz ok
 have HA := zz ha
 have HNA := zz hna
 have HXR := zz hxr
 have HX8 := zz hx8
 have hw1 := ok.w1
 have hw2 := ok.w2
 have hh1 := ok.h1
 have hh2 := ok.h2
 have hx := ok.hx
 have hy := ok.hy
 have hcur := ok.cur
 have hcn := ok.cn
 have hlt := h.lt
 obtain ⟨n, hn⟩ := eX (arg1 xs 0)
 obtain ⟨A0, hA0⟩ := eX (argA xs 0 1)
 have hAb : -1 ≤ A0 ∧ A0 ≤ 9999 := by rw [← hA0]; exact Za1 HXR.out (by omega) (by omega)
 have hm : max 1 A0 = (n : Int) := by rw [← hn, ← hA0]; unfold arg1; omega
 have hn1 : 1 ≤ n := by omega
 have hn2 : n ≤ 9999 := by omega
 have HN := zz hn
 have HA0 := zz hA0
 obtain ⟨p, hp⟩ := eX (s.y * s.w)
 obtain ⟨mx, hmx⟩ := eX (min s.x (s.w - 1))
 obtain ⟨cr, hcr⟩ := eX (curS s)
 obtain ⟨pn, hpn⟩ : ∃ q, (s.y + 1) * s.w = q := ⟨_, rfl⟩
 obtain ⟨nn, hnn⟩ := eX (s.w * s.h)
 obtain ⟨hpi, hpni, hnni, hmi, hcri, hn240⟩ := csP s hp hpn hnn hmx hcr hw1 hw2 hh2
 rw [hcr, hp, hpn, hnn] at hcur
 rw [hnn] at hcn
 obtain ⟨hc1, hc2, hc3⟩ := hcur
 have HCN := zz hcn
 have HP := zz hp
 have HMX := zz hmx
 have HCR := zz hcr
 have HPN := zz hpn
 have HNN := zz hnn
 obtain ⟨hwA, hwB, hwC, hwD, hwE, hwF, hwG⟩ := csW s p cr pn nn
 obtain ⟨ln, hln⟩ := eX (xs.length)
 have HLN := zz hln
 have HCALL : ∀ (i : Nat) (d : Int) (W : World), i ≤ 7 → Sl iE 1 W aa xs → Calls Tryz.prog 117 #[.agg #[.int .i64 kd, .int .i64 102, .bool false, .slice aa ln ca, .string tx], .int .i64 i, .int .i64 d] W fun e w' => e = .returned (.int .i64 (argA xs i d)) ∧ Below W.heap.size W w' := fun i d W hi hW => by
  rw [← hln]
  exact lA kd 102 false tx xs aa ca i d W hW hi hx8
 rw [hln]
 clear h ok ha hna hxr hx8 hn hA0 hp hmx hcr hpn hnn hcn hln
 go_enter Tryz.func82, Tryz.ntmps82
 go_wp2_with fail
 refine (HCALL 0 1 _ (by omega) (HA.out.alloc _)).mono ?_
 rintro e v0 ⟨rfl, hb0⟩
 rw [HA0.out]
 have HB0 : Hid (Below w.heap.size w v0) := zz (((Below.refl w.heap.size w).alloc (Nat.le_refl _) _).trans (hb0.mono (by simp)))
 have hz0 := HB0.out.size
 have q_l : w.heap.size < v0.heap.size := by have := hb0.size; simp at this; omega
 have q_0 : v0.cell? ⟨w.heap.size, 0, none⟩ = some (.int .i64 kd) := kC hb0 (by simp) (by simp [go_sem])
 have q_1 : v0.cell? ⟨w.heap.size, 1, none⟩ = some (.int .i64 102) := kC hb0 (by simp) (by simp [go_sem])
 have q_2 : v0.cell? ⟨w.heap.size, 2, none⟩ = some (.bool false) := kC hb0 (by simp) (by simp [go_sem])
 have q_3 : v0.cell? ⟨w.heap.size, 3, none⟩ = some (.slice aa ln ca) := kC hb0 (by simp) (by simp [go_sem])
 have q_4 : v0.cell? ⟨w.heap.size, 4, none⟩ = some (.string tx) := kC hb0 (by simp) (by simp [go_sem])
 clear hb0
 have q_b : ¬ w.heap.size = b := by omega
 have HA_nb : ∀ k ∈ bO aa, ¬ k = b := fun k hk => (HNA.out k hk).1
 have Hv0 := zz (HS.out.below HB0.out)
 have HA2 := zz (HA.out.keep HB0.out)
 have HUv0 : Hid (Upd b 0 (0 + 12) (fun k => k = g ∨ k ∈ bO ah) w v0) := zz (Upd.refl'.below HB0.out HS.out.lt)
 have HA2_nb := HA_nb
 have k_0 := Hv0.out.e0
 have k_1 := Hv0.out.e1
 have k_2 := Hv0.out.e2
 have k_3 := Hv0.out.e3
 have k_4 := Hv0.out.e4
 have k_5 := Hv0.out.e5
 have k_6 := Hv0.out.e6
 have k_7 := Hv0.out.e7
 have k_8 := Hv0.out.e8
 have k_9 := Hv0.out.e9
 have k_10 := Hv0.out.e10
 have k_11 := Hv0.out.e11
 have k_f := Hv0.out.fz
 have k_l := Hv0.out.lt
 go_upto_region 4 with fail
 have hSc1 := And.intro k_0 (And.intro k_2 k_3)
 refine rO (fun w' => w'.cell? ⟨b, 0, none⟩ = some (.int .i64 s.w) ∧ w'.cell? ⟨b, 2, none⟩ = some (.int .i64 s.x) ∧ w'.cell? ⟨b, 3, none⟩ = some (.int .i64 s.y)) [] [0,1,2,3,4,5,6,7,8,9,10,11,12,13,14,15,16,17,18,19,20] ?_
 iterate 21 (first | refine oW (h := ?_) | refine oL (hS := hSc1) (h := ?_))
 refine oD ?_
 obtain ⟨v1, hv1⟩ := eX (v0.drew)
 have HBv1 : Hid (Below v0.heap.size v0 v1) := zz (by rw [← hv1]; exact (Below.refl _ _).drew)
 rw [hv1]
 have hzv1 := HBv1.out.size
 have Hv1 := zz (Hv0.out.below HBv1.out)
 have HUv1 : Hid (Upd b 0 (0 + 12) (fun k => k = g ∨ k ∈ bO ah) w v1) := zz (HUv0.out.below HBv1.out Hv0.out.lt)
 have qn_0 := kC HBv1.out q_l q_0
 have qn_1 := kC HBv1.out q_l q_1
 have qn_2 := kC HBv1.out q_l q_2
 have qn_3 := kC HBv1.out q_l q_3
 have qn_4 := kC HBv1.out q_l q_4
 have qn_l := Nat.lt_of_lt_of_le q_l HBv1.out.size
 clear q_0 q_1 q_2 q_3 q_4 q_l
 have HA2n := zz (HA2.out.keep HBv1.out)
 clear k_f k_l k_0 k_1 k_2 k_3 k_4 k_5 k_6 k_7 k_8 k_9 k_10 k_11 hv1 hSc1
 have k_0 := Hv1.out.e0
 have k_1 := Hv1.out.e1
 have k_2 := Hv1.out.e2
 have k_3 := Hv1.out.e3
 have k_4 := Hv1.out.e4
 have k_5 := Hv1.out.e5
 have k_6 := Hv1.out.e6
 have k_7 := Hv1.out.e7
 have k_8 := Hv1.out.e8
 have k_9 := Hv1.out.e9
 have k_10 := Hv1.out.e10
 have k_11 := Hv1.out.e11
 have k_f := Hv1.out.fz
 have k_l := Hv1.out.lt
 have hwJ : IntKind.i64.wrap ((s.h : Int) - 1) = (s.h : Int) - 1 := iIq _
 have hwK : IntKind.i64.wrap ((n : Int) - 1) = (n : Int) - 1 := iIq _
 obtain ⟨n1, hN1⟩ := eX (arg1 xs 1)
 obtain ⟨A1, hA1⟩ := eX (argA xs 1 1)
 have hA1b : -1 ≤ A1 ∧ A1 ≤ 9999 := by rw [← hA1]; exact Za1 HXR.out (by omega) (by omega)
 have hm1 : max 1 A1 = (n1 : Int) := by rw [← hN1, ← hA1]; unfold arg1; omega
 have hwL : IntKind.i64.wrap ((n1 : Int) - 1) = (n1 : Int) - 1 := iIq _
 have HN1 := zz hN1
 have HA1 := zz hA1
 clear hN1 hA1
 go_upto_region 17 with fail
 obtain ⟨v2, hv2⟩ := eX (v1.setCell ⟨b, 3, none⟩ (.int .i64 (min ((s.h : Int) - 1) ((n : Int) - 1))))
 have Hv2 : Hid (SA lo b 0 ({ s with y := min s.h n - 1 } : Scr) g cc ah dh v2) := zz (by rw [← hv2]; exact Hv1.out.setv3 (min s.h n - 1) (by omega))
 have HUv2 : Hid (Upd b 0 (0 + 12) (fun k => k = g ∨ k ∈ bO ah) w v2) := zz (by rw [← hv2]; exact HUv1.out.set3 _)
 have HCv2 : Hid (Ch (· = b) v1 v2) := zz (by rw [← hv2]; exact Ch.set1' _ _ _ _)
 rw [hv2]
 have qnn_0 : v2.cell? ⟨w.heap.size, 0, none⟩ = some (.int .i64 kd) := (HCv2.out.cell (p := ⟨w.heap.size, 0, none⟩) qn_l q_b).trans qn_0
 have qnn_1 : v2.cell? ⟨w.heap.size, 1, none⟩ = some (.int .i64 102) := (HCv2.out.cell (p := ⟨w.heap.size, 1, none⟩) qn_l q_b).trans qn_1
 have qnn_2 : v2.cell? ⟨w.heap.size, 2, none⟩ = some (.bool false) := (HCv2.out.cell (p := ⟨w.heap.size, 2, none⟩) qn_l q_b).trans qn_2
 have qnn_3 : v2.cell? ⟨w.heap.size, 3, none⟩ = some (.slice aa ln ca) := (HCv2.out.cell (p := ⟨w.heap.size, 3, none⟩) qn_l q_b).trans qn_3
 have qnn_4 : v2.cell? ⟨w.heap.size, 4, none⟩ = some (.string tx) := (HCv2.out.cell (p := ⟨w.heap.size, 4, none⟩) qn_l q_b).trans qn_4
 have qnn_l := Nat.lt_of_lt_of_le qn_l HCv2.out.size
 clear qn_0 qn_1 qn_2 qn_3 qn_4 qn_l
 have HA2nn := zz (Sl.ch HA2n.out HCv2.out HA2_nb)
 clear hv2 k_f k_l k_0 k_1 k_2 k_3 k_4 k_5 k_6 k_7 k_8 k_9 k_10 k_11
 have k_0 := Hv2.out.e0
 have k_1 := Hv2.out.e1
 have k_2 := Hv2.out.e2
 have k_3 : v2.cell? ⟨b, 3, none⟩ = some (.int .i64 ((min s.h n - 1 : Nat) : Int)) := Hv2.out.c3
 have k_4 := Hv2.out.e4
 have k_5 := Hv2.out.e5
 have k_6 := Hv2.out.e6
 have k_7 := Hv2.out.e7
 have k_8 := Hv2.out.e8
 have k_9 := Hv2.out.e9
 have k_10 := Hv2.out.e10
 have k_11 := Hv2.out.e11
 have k_f := Hv2.out.fz
 have k_l := Hv2.out.lt
 have hSc2 := And.intro k_0 (And.intro qnn_0 (And.intro qnn_1 (And.intro qnn_2 (And.intro qnn_3 qnn_4))))
 refine rO (fun w' => w'.cell? ⟨b, 0, none⟩ = some (.int .i64 s.w) ∧ w'.cell? ⟨w.heap.size, 0, none⟩ = some (.int .i64 kd) ∧ w'.cell? ⟨w.heap.size, 1, none⟩ = some (.int .i64 102) ∧ w'.cell? ⟨w.heap.size, 2, none⟩ = some (.bool false) ∧ w'.cell? ⟨w.heap.size, 3, none⟩ = some (.slice aa ln ca) ∧ w'.cell? ⟨w.heap.size, 4, none⟩ = some (.string tx)) [13] [0,1,2,3,4,5,6,7,8,9,10,11,12,13] ?_
 iterate 7 (first | refine oW (h := ?_) | refine oL (hS := hSc2) (h := ?_))
 refine oO (hS := .inr hSc2) (h := ?_)
 intro K' hK
 go_simp
 refine (HCALL 1 1 _ (by omega) (HA2nn.out.keep ((Below.refl _ _).drew))).mono ?_
 rintro e x1 ⟨rfl, hb1⟩
 rw [HA1.out]
 have HB1 : Hid (Below v2.heap.size v2 x1) := zz (((Below.refl _ _).drew).trans hb1)
 have HX1 := zz (Hv2.out.below HB1.out)
 have e_0 := HX1.out.c0
 have e_2 := HX1.out.c2
 have e_f := HX1.out.fz
 have e_l := HX1.out.lt
 have hSx : x1.cell? ⟨b, 0, none⟩ = some (.int .i64 s.w) ∧ x1.cell? ⟨w.heap.size, 0, none⟩ = some (.int .i64 kd) ∧ x1.cell? ⟨w.heap.size, 1, none⟩ = some (.int .i64 102) ∧ x1.cell? ⟨w.heap.size, 2, none⟩ = some (.bool false) ∧ x1.cell? ⟨w.heap.size, 3, none⟩ = some (.slice aa ln ca) ∧ x1.cell? ⟨w.heap.size, 4, none⟩ = some (.string tx) := ⟨HX1.out.c0, (HB1.out.cell (p := ⟨w.heap.size, 0, none⟩) qnn_l).trans qnn_0, (HB1.out.cell (p := ⟨w.heap.size, 1, none⟩) qnn_l).trans qnn_1, (HB1.out.cell (p := ⟨w.heap.size, 2, none⟩) qnn_l).trans qnn_2, (HB1.out.cell (p := ⟨w.heap.size, 3, none⟩) qnn_l).trans qnn_3, (HB1.out.cell (p := ⟨w.heap.size, 4, none⟩) qnn_l).trans qnn_4⟩
 clear hb1
 refine oN hK (hS := .inr hSx) (h := ?_)
 clear hK K'
 iterate 5 refine oW (h := ?_)
 refine oO (hS := .inl rfl) (h := ?_)
 intro K' hK
 go_simp
 refine oN hK (hS := .inl rfl) (h := ?_)
 clear hK K'
 refine oD ?_
 go_wp2_with fail
 first | refine bodyPost_end (v := .tuple #[]) (by simp [results, Tryz.results82]) rfl ?_ | refine bodyPost_ret (v := .tuple #[]) (by simp [results, Tryz.results82]) rfl ?_
 refine ⟨rfl, ?_⟩
 unfold csiS
 rw [if_neg (by decide), if_neg (by decide), if_neg (by decide), if_neg (by decide), if_pos (by decide)]
 rw [HN.out, HN1.out]
 refine sR.mk (cc := cc) (dh := dh) ?_ ?_
 ·repeat (with_reducible refine SA.drew ?_)
  exact HX1.out.setv2 _ (by omega)
 ·repeat (with_reducible refine Upd.drew ?_)
  exact (HUv2.out.below HB1.out Hv2.out.lt).set2 _
end
section
theorem csi74_c (lo b : Nat) (s : Scr) (g cc : Nat) (ah : Option Addr) (dh : Nat) (w : World) (kd : Int) (xs : List Int) (aa : Option Addr) (ca : Nat) (tx : ByteArray) (h : SA lo b 0 s g cc ah dh w) (ok : sK s) (hlo : lo ≤ w.heap.size) (ha : Sl iE 1 w aa xs) (hna : ∀ k ∈ bO aa, k ≠ b ∧ k ≠ g ∧ k ∉ bO ah) (hx8 : xs.length ≤ 8) (hxr : ∀ x ∈ xs, -1 ≤ x ∧ x ≤ 9999) :
 Calls Tryz.prog 82 #[.pointer (some ⟨b, 0, none⟩), .agg #[.int .i64 kd, .int .i64 74, .bool false, .slice aa xs.length ca, .string tx]] w fun e w' => e = .returned (.tuple #[]) ∧ sR lo b 0 (csiS s 74 xs) g ah w w' := by
 have HS := zz h
 have HOK := zz ok
 have HA := zz ha
 have HNA := zz hna
 have HXR := zz hxr
 have HX8 := zz hx8
 have hw1 := ok.w1
 have hw2 := ok.w2
 have hh1 := ok.h1
 have hh2 := ok.h2
 have hx := ok.hx
 have hy := ok.hy
 have hcur := ok.cur
 have hcn := ok.cn
 have hlt := h.lt
 obtain ⟨n, hn⟩ := eX (arg1 xs 0)
 obtain ⟨A0, hA0⟩ := eX (argA xs 0 1)
 have hAb : -1 ≤ A0 ∧ A0 ≤ 9999 := by rw [← hA0]; exact Za1 HXR.out (by omega) (by omega)
 have hm : max 1 A0 = (n : Int) := by rw [← hn, ← hA0]; unfold arg1; omega
 have hn1 : 1 ≤ n := by omega
 have hn2 : n ≤ 9999 := by omega
 have HN := zz hn
 have HA0 := zz hA0
 obtain ⟨p, hp⟩ := eX (s.y * s.w)
 obtain ⟨mx, hmx⟩ := eX (min s.x (s.w - 1))
 obtain ⟨cr, hcr⟩ := eX (curS s)
 obtain ⟨pn, hpn⟩ : ∃ q, (s.y + 1) * s.w = q := ⟨_, rfl⟩
 obtain ⟨nn, hnn⟩ := eX (s.w * s.h)
 obtain ⟨hpi, hpni, hnni, hmi, hcri, hn240⟩ := csP s hp hpn hnn hmx hcr hw1 hw2 hh2
 rw [hcr, hp, hpn, hnn] at hcur
 rw [hnn] at hcn
 obtain ⟨hc1, hc2, hc3⟩ := hcur
 have HCN := zz hcn
 have HP := zz hp
 have HMX := zz hmx
 have HCR := zz hcr
 have HPN := zz hpn
 have HNN := zz hnn
 obtain ⟨hwA, hwB, hwC, hwD, hwE, hwF, hwG⟩ := csW s p cr pn nn
 obtain ⟨ln, hln⟩ := eX (xs.length)
 have HLN := zz hln
 have HCALL : ∀ (i : Nat) (d : Int) (W : World), i ≤ 7 → Sl iE 1 W aa xs → Calls Tryz.prog 117 #[.agg #[.int .i64 kd, .int .i64 74, .bool false, .slice aa ln ca, .string tx], .int .i64 i, .int .i64 d] W fun e w' => e = .returned (.int .i64 (argA xs i d)) ∧ Below W.heap.size W w' := fun i d W hi hW => by
  rw [← hln]
  exact lA kd 74 false tx xs aa ca i d W hW hi hx8
 rw [hln]
 clear h ok ha hna hxr hx8 hn hA0 hp hmx hcr hpn hnn hcn hln
 go_enter Tryz.func82, Tryz.ntmps82
 go_wp2_with fail
 refine (HCALL 0 1 _ (by omega) (HA.out.alloc _)).mono ?_
 rintro e v0 ⟨rfl, hb0⟩
 rw [HA0.out]
 have HB0 : Hid (Below w.heap.size w v0) := zz (((Below.refl w.heap.size w).alloc (Nat.le_refl _) _).trans (hb0.mono (by simp)))
 have hz0 := HB0.out.size
 have q_l : w.heap.size < v0.heap.size := by have := hb0.size; simp at this; omega
 have q_0 : v0.cell? ⟨w.heap.size, 0, none⟩ = some (.int .i64 kd) := kC hb0 (by simp) (by simp [go_sem])
 have q_1 : v0.cell? ⟨w.heap.size, 1, none⟩ = some (.int .i64 74) := kC hb0 (by simp) (by simp [go_sem])
 have q_2 : v0.cell? ⟨w.heap.size, 2, none⟩ = some (.bool false) := kC hb0 (by simp) (by simp [go_sem])
 have q_3 : v0.cell? ⟨w.heap.size, 3, none⟩ = some (.slice aa ln ca) := kC hb0 (by simp) (by simp [go_sem])
 have q_4 : v0.cell? ⟨w.heap.size, 4, none⟩ = some (.string tx) := kC hb0 (by simp) (by simp [go_sem])
 clear hb0
 have q_b : ¬ w.heap.size = b := by omega
 have HA_nb : ∀ k ∈ bO aa, ¬ k = b := fun k hk => (HNA.out k hk).1
 have Hv0 := zz (HS.out.below HB0.out)
 have HA2 := zz (HA.out.keep HB0.out)
 have HUv0 : Hid (Upd b 0 (0 + 12) (fun k => k = g ∨ k ∈ bO ah) w v0) := zz (Upd.refl'.below HB0.out HS.out.lt)
 have HA2_nb := HA_nb
 have k_0 := Hv0.out.e0
 have k_1 := Hv0.out.e1
 have k_2 := Hv0.out.e2
 have k_3 := Hv0.out.e3
 have k_4 := Hv0.out.e4
 have k_5 := Hv0.out.e5
 have k_6 := Hv0.out.e6
 have k_7 := Hv0.out.e7
 have k_8 := Hv0.out.e8
 have k_9 := Hv0.out.e9
 have k_10 := Hv0.out.e10
 have k_11 := Hv0.out.e11
 have k_f := Hv0.out.fz
 have k_l := Hv0.out.lt
 go_upto_region 4 with fail
 have hSc1 := And.intro k_0 (And.intro k_2 k_3)
 refine rO (fun w' => w'.cell? ⟨b, 0, none⟩ = some (.int .i64 s.w) ∧ w'.cell? ⟨b, 2, none⟩ = some (.int .i64 s.x) ∧ w'.cell? ⟨b, 3, none⟩ = some (.int .i64 s.y)) [] [0,1,2,3,4,5,6,7,8,9,10,11,12,13,14,15,16,17,18,19,20] ?_
 iterate 21 (first | refine oW (h := ?_) | refine oL (hS := hSc1) (h := ?_))
 refine oD ?_
 obtain ⟨v1, hv1⟩ := eX (v0.drew)
 have HBv1 : Hid (Below v0.heap.size v0 v1) := zz (by rw [← hv1]; exact (Below.refl _ _).drew)
 rw [hv1]
 have hzv1 := HBv1.out.size
 have Hv1 := zz (Hv0.out.below HBv1.out)
 have HUv1 : Hid (Upd b 0 (0 + 12) (fun k => k = g ∨ k ∈ bO ah) w v1) := zz (HUv0.out.below HBv1.out Hv0.out.lt)
 have qn_0 := kC HBv1.out q_l q_0
 have qn_1 := kC HBv1.out q_l q_1
 have qn_2 := kC HBv1.out q_l q_2
 have qn_3 := kC HBv1.out q_l q_3
 have qn_4 := kC HBv1.out q_l q_4
 have qn_l := Nat.lt_of_lt_of_le q_l HBv1.out.size
 clear q_0 q_1 q_2 q_3 q_4 q_l
 have HA2n := zz (HA2.out.keep HBv1.out)
 clear k_f k_l k_0 k_1 k_2 k_3 k_4 k_5 k_6 k_7 k_8 k_9 k_10 k_11 hv1 hSc1
 have k_0 := Hv1.out.e0
 have k_1 := Hv1.out.e1
 have k_2 := Hv1.out.e2
 have k_3 := Hv1.out.e3
 have k_4 := Hv1.out.e4
 have k_5 := Hv1.out.e5
 have k_6 := Hv1.out.e6
 have k_7 := Hv1.out.e7
 have k_8 := Hv1.out.e8
 have k_9 := Hv1.out.e9
 have k_10 := Hv1.out.e10
 have k_11 := Hv1.out.e11
 have k_f := Hv1.out.fz
 have k_l := Hv1.out.lt
 obtain ⟨D, hD⟩ := eX (argA xs 0 0)
 have HD := zz hD
 clear hD
 go_wp2_with fail
 refine (HCALL 0 0 _ (by omega) HA2n.out).mono ?_
 rw [HD.out]
 rintro e v2 ⟨rfl, hbv2⟩
 have HBv2 := zz hbv2
 have hzv2 := HBv2.out.size
 have Hv2 := zz (Hv1.out.below HBv2.out)
 have HUv2 : Hid (Upd b 0 (0 + 12) (fun k => k = g ∨ k ∈ bO ah) w v2) := zz (HUv1.out.below HBv2.out Hv1.out.lt)
 have qnn_0 := kC HBv2.out qn_l qn_0
 have qnn_1 := kC HBv2.out qn_l qn_1
 have qnn_2 := kC HBv2.out qn_l qn_2
 have qnn_3 := kC HBv2.out qn_l qn_3
 have qnn_4 := kC HBv2.out qn_l qn_4
 have qnn_l := Nat.lt_of_lt_of_le qn_l HBv2.out.size
 clear qn_0 qn_1 qn_2 qn_3 qn_4 qn_l
 have HA2nn := zz (HA2n.out.keep HBv2.out)
 clear k_f k_l k_0 k_1 k_2 k_3 k_4 k_5 k_6 k_7 k_8 k_9 k_10 k_11 hbv2
 have k_0 := Hv2.out.e0
 have k_1 := Hv2.out.e1
 have k_2 := Hv2.out.e2
 have k_3 := Hv2.out.e3
 have k_4 := Hv2.out.e4
 have k_5 := Hv2.out.e5
 have k_6 := Hv2.out.e6
 have k_7 := Hv2.out.e7
 have k_8 := Hv2.out.e8
 have k_9 := Hv2.out.e9
 have k_10 := Hv2.out.e10
 have k_11 := Hv2.out.e11
 have k_f := Hv2.out.fz
 have k_l := Hv2.out.lt
 by_cases hd0 : D = 0
 ·subst hd0
  go_upto_region 21 with fail
  have hSc2 := And.intro k_0 k_1
  refine rO (fun w' => w'.cell? ⟨b, 0, none⟩ = some (.int .i64 s.w) ∧ w'.cell? ⟨b, 1, none⟩ = some (.int .i64 s.h)) [] [0,1,2,3,4,5,6,7,8,9,10,11] ?_
  iterate 11 (first | refine oW (h := ?_) | refine oL (hS := hSc2) (h := ?_))
  refine oO (hS := .inr hSc2) (h := ?_)
  intro K' hK
  go_simp
  refine (Zf6 lo b s g cc ah dh _ cr nn Hv2.out.drew (by omega) (by rw [HCN.out]; omega) (by rw [HCN.out]; exact hn240)).mono ?_
  rintro e x1 ⟨rfl, hax, hcx⟩
  have HR : Hid (sR lo b 0 (clr cr nn s) g ah w x1) := zz (.mk hax (HUv2.out.drew.transN (Upd.ofCh (S := fun i => i = g) hcx Hv2.out.lt (fun e => HS.out.gb e.symm) (fun i hi => .inl hi)) (fun i hi => .inl (.inl hi))))
  have hSx : x1.cell? ⟨b, 0, none⟩ = some (.int .i64 s.w) ∧ x1.cell? ⟨b, 1, none⟩ = some (.int .i64 s.h) := ⟨hax.c0, hax.c1⟩
  clear hax hcx
  refine oN hK (hS := .inr hSx) (h := ?_)
  clear hK K'
  refine oD ?_
  go_wp2_with fail
  first | refine bodyPost_end (v := .tuple #[]) (by simp [results, Tryz.results82]) rfl ?_ | refine bodyPost_ret (v := .tuple #[]) (by simp [results, Tryz.results82]) rfl ?_
  refine ⟨rfl, ?_⟩
  unfold csiS
  rw [if_neg (by decide), if_neg (by decide), if_neg (by decide), if_neg (by decide), if_neg (by decide), if_pos (by decide)]
  have e1 : eraS s 0 0 0 = eraS s 0 0 0 := rfl
  rw [HD.out, HNN.out]
  unfold eraS
  rw [if_pos rfl]
  rw [HCR.out]
  exact HR.out
 by_cases hd1 : D = 1
 ·subst hd1
  go_wp2_with fail
  refine (Zf6 lo b s g cc ah dh _ 0 (cr + 1) Hv2.out (by omega) (by rw [HCN.out]; omega) (by rw [HCN.out]; exact hn240)).mono ?_
  rintro e x1 ⟨rfl, hax, hcx⟩
  have HR : Hid (sR lo b 0 (clr 0 (cr + 1) s) g ah w x1) := zz (.mk hax (HUv2.out.transN (Upd.ofCh (S := fun i => i = g) hcx Hv2.out.lt (fun e => HS.out.gb e.symm) (fun i hi => .inl hi)) (fun i hi => .inl (.inl hi))))
  clear hax hcx
  go_wp2_with fail
  first | refine bodyPost_end (v := .tuple #[]) (by simp [results, Tryz.results82]) rfl ?_ | refine bodyPost_ret (v := .tuple #[]) (by simp [results, Tryz.results82]) rfl ?_
  refine ⟨rfl, ?_⟩
  unfold csiS
  rw [if_neg (by decide), if_neg (by decide), if_neg (by decide), if_neg (by decide), if_neg (by decide), if_pos (by decide)]
  have e1 : eraS s 0 0 0 = eraS s 0 0 0 := rfl
  rw [HD.out, HNN.out]
  unfold eraS
  rw [if_neg (by decide), if_pos rfl]
  rw [HCR.out]
  exact HR.out
 by_cases hd2 : D = 2
 ·subst hd2
  go_upto_region 25 with fail
  have hSc2 := And.intro k_0 k_1
  refine rO (fun w' => w'.cell? ⟨b, 0, none⟩ = some (.int .i64 s.w) ∧ w'.cell? ⟨b, 1, none⟩ = some (.int .i64 s.h)) [] [0,1,2,3,4,5,6,7,8,9,10] ?_
  iterate 10 (first | refine oW (h := ?_) | refine oL (hS := hSc2) (h := ?_))
  refine oO (hS := .inr hSc2) (h := ?_)
  intro K' hK
  go_simp
  refine (Zf6 lo b s g cc ah dh _ 0 nn Hv2.out.drew (by omega) (by rw [HCN.out]; omega) (by rw [HCN.out]; exact hn240)).mono ?_
  rintro e x1 ⟨rfl, hax, hcx⟩
  have HR : Hid (sR lo b 0 (clr 0 nn s) g ah w x1) := zz (.mk hax (HUv2.out.drew.transN (Upd.ofCh (S := fun i => i = g) hcx Hv2.out.lt (fun e => HS.out.gb e.symm) (fun i hi => .inl hi)) (fun i hi => .inl (.inl hi))))
  have hSx : x1.cell? ⟨b, 0, none⟩ = some (.int .i64 s.w) ∧ x1.cell? ⟨b, 1, none⟩ = some (.int .i64 s.h) := ⟨hax.c0, hax.c1⟩
  clear hax hcx
  refine oN hK (hS := .inr hSx) (h := ?_)
  clear hK K'
  refine oD ?_
  go_wp2_with fail
  first | refine bodyPost_end (v := .tuple #[]) (by simp [results, Tryz.results82]) rfl ?_ | refine bodyPost_ret (v := .tuple #[]) (by simp [results, Tryz.results82]) rfl ?_
  refine ⟨rfl, ?_⟩
  unfold csiS
  rw [if_neg (by decide), if_neg (by decide), if_neg (by decide), if_neg (by decide), if_neg (by decide), if_pos (by decide)]
  have e1 : eraS s 0 0 0 = eraS s 0 0 0 := rfl
  rw [HD.out, HNN.out]
  unfold eraS
  rw [if_neg (by decide), if_neg (by decide), if_pos rfl]
  exact HR.out
 have r0 : (D == 0) = false := beq_eq_false_iff_ne.2 hd0
 have r1 : (D == 1) = false := beq_eq_false_iff_ne.2 hd1
 have r2 : (D == 2) = false := beq_eq_false_iff_ne.2 hd2
 go_wp2_with fail
 first | refine bodyPost_end (v := .tuple #[]) (by simp [results, Tryz.results82]) rfl ?_ | refine bodyPost_ret (v := .tuple #[]) (by simp [results, Tryz.results82]) rfl ?_
 refine ⟨rfl, ?_⟩
 unfold csiS
 rw [if_neg (by decide), if_neg (by decide), if_neg (by decide), if_neg (by decide), if_neg (by decide), if_pos (by decide)]
 rw [HD.out]
 unfold eraS
 rw [if_neg hd0, if_neg hd1, if_neg hd2]
 exact .mk Hv2.out HUv2.out
theorem csi75_c (lo b : Nat) (s : Scr) (g cc : Nat) (ah : Option Addr) (dh : Nat) (w : World) (kd : Int) (xs : List Int) (aa : Option Addr) (ca : Nat) (tx : ByteArray) (h : SA lo b 0 s g cc ah dh w) (ok : sK s) (hlo : lo ≤ w.heap.size) (ha : Sl iE 1 w aa xs) (hna : ∀ k ∈ bO aa, k ≠ b ∧ k ≠ g ∧ k ∉ bO ah) (hx8 : xs.length ≤ 8) (hxr : ∀ x ∈ xs, -1 ≤ x ∧ x ≤ 9999) :
 Calls Tryz.prog 82 #[.pointer (some ⟨b, 0, none⟩), .agg #[.int .i64 kd, .int .i64 75, .bool false, .slice aa xs.length ca, .string tx]] w fun e w' => e = .returned (.tuple #[]) ∧ sR lo b 0 (csiS s 75 xs) g ah w w' := by
 have HS := zz h
 have HOK := zz ok
 have HA := zz ha
 have HNA := zz hna
 have HXR := zz hxr
 have HX8 := zz hx8
 have hw1 := ok.w1
 have hw2 := ok.w2
 have hh1 := ok.h1
 have hh2 := ok.h2
 have hx := ok.hx
 have hy := ok.hy
 have hcur := ok.cur
 have hcn := ok.cn
 have hlt := h.lt
 obtain ⟨n, hn⟩ := eX (arg1 xs 0)
 obtain ⟨A0, hA0⟩ := eX (argA xs 0 1)
 have hAb : -1 ≤ A0 ∧ A0 ≤ 9999 := by rw [← hA0]; exact Za1 HXR.out (by omega) (by omega)
 have hm : max 1 A0 = (n : Int) := by rw [← hn, ← hA0]; unfold arg1; omega
 have hn1 : 1 ≤ n := by omega
 have hn2 : n ≤ 9999 := by omega
 have HN := zz hn
 have HA0 := zz hA0
 obtain ⟨p, hp⟩ := eX (s.y * s.w)
 obtain ⟨mx, hmx⟩ := eX (min s.x (s.w - 1))
 obtain ⟨cr, hcr⟩ := eX (curS s)
 obtain ⟨pn, hpn⟩ : ∃ q, (s.y + 1) * s.w = q := ⟨_, rfl⟩
 obtain ⟨nn, hnn⟩ := eX (s.w * s.h)
 obtain ⟨hpi, hpni, hnni, hmi, hcri, hn240⟩ := csP s hp hpn hnn hmx hcr hw1 hw2 hh2
 rw [hcr, hp, hpn, hnn] at hcur
 rw [hnn] at hcn
 obtain ⟨hc1, hc2, hc3⟩ := hcur
 have HCN := zz hcn
 have HP := zz hp
 have HMX := zz hmx
 have HCR := zz hcr
 have HPN := zz hpn
 have HNN := zz hnn
 obtain ⟨hwA, hwB, hwC, hwD, hwE, hwF, hwG⟩ := csW s p cr pn nn
 obtain ⟨ln, hln⟩ := eX (xs.length)
 have HLN := zz hln
 have HCALL : ∀ (i : Nat) (d : Int) (W : World), i ≤ 7 → Sl iE 1 W aa xs → Calls Tryz.prog 117 #[.agg #[.int .i64 kd, .int .i64 75, .bool false, .slice aa ln ca, .string tx], .int .i64 i, .int .i64 d] W fun e w' => e = .returned (.int .i64 (argA xs i d)) ∧ Below W.heap.size W w' := fun i d W hi hW => by
  rw [← hln]
  exact lA kd 75 false tx xs aa ca i d W hW hi hx8
 rw [hln]
 clear h ok ha hna hxr hx8 hn hA0 hp hmx hcr hpn hnn hcn hln
 go_enter Tryz.func82, Tryz.ntmps82
 go_wp2_with fail
 refine (HCALL 0 1 _ (by omega) (HA.out.alloc _)).mono ?_
 rintro e v0 ⟨rfl, hb0⟩
 rw [HA0.out]
 have HB0 : Hid (Below w.heap.size w v0) := zz (((Below.refl w.heap.size w).alloc (Nat.le_refl _) _).trans (hb0.mono (by simp)))
 have hz0 := HB0.out.size
 have q_l : w.heap.size < v0.heap.size := by have := hb0.size; simp at this; omega
 have q_0 : v0.cell? ⟨w.heap.size, 0, none⟩ = some (.int .i64 kd) := kC hb0 (by simp) (by simp [go_sem])
 have q_1 : v0.cell? ⟨w.heap.size, 1, none⟩ = some (.int .i64 75) := kC hb0 (by simp) (by simp [go_sem])
 have q_2 : v0.cell? ⟨w.heap.size, 2, none⟩ = some (.bool false) := kC hb0 (by simp) (by simp [go_sem])
 have q_3 : v0.cell? ⟨w.heap.size, 3, none⟩ = some (.slice aa ln ca) := kC hb0 (by simp) (by simp [go_sem])
 have q_4 : v0.cell? ⟨w.heap.size, 4, none⟩ = some (.string tx) := kC hb0 (by simp) (by simp [go_sem])
 clear hb0
 have q_b : ¬ w.heap.size = b := by omega
 have HA_nb : ∀ k ∈ bO aa, ¬ k = b := fun k hk => (HNA.out k hk).1
 have Hv0 := zz (HS.out.below HB0.out)
 have HA2 := zz (HA.out.keep HB0.out)
 have HUv0 : Hid (Upd b 0 (0 + 12) (fun k => k = g ∨ k ∈ bO ah) w v0) := zz (Upd.refl'.below HB0.out HS.out.lt)
 have HA2_nb := HA_nb
 have k_0 := Hv0.out.e0
 have k_1 := Hv0.out.e1
 have k_2 := Hv0.out.e2
 have k_3 := Hv0.out.e3
 have k_4 := Hv0.out.e4
 have k_5 := Hv0.out.e5
 have k_6 := Hv0.out.e6
 have k_7 := Hv0.out.e7
 have k_8 := Hv0.out.e8
 have k_9 := Hv0.out.e9
 have k_10 := Hv0.out.e10
 have k_11 := Hv0.out.e11
 have k_f := Hv0.out.fz
 have k_l := Hv0.out.lt
 go_upto_region 4 with fail
 have hSc1 := And.intro k_0 (And.intro k_2 k_3)
 refine rO (fun w' => w'.cell? ⟨b, 0, none⟩ = some (.int .i64 s.w) ∧ w'.cell? ⟨b, 2, none⟩ = some (.int .i64 s.x) ∧ w'.cell? ⟨b, 3, none⟩ = some (.int .i64 s.y)) [] [0,1,2,3,4,5,6,7,8,9,10,11,12,13,14,15,16,17,18,19,20] ?_
 iterate 21 (first | refine oW (h := ?_) | refine oL (hS := hSc1) (h := ?_))
 refine oD ?_
 obtain ⟨v1, hv1⟩ := eX (v0.drew)
 have HBv1 : Hid (Below v0.heap.size v0 v1) := zz (by rw [← hv1]; exact (Below.refl _ _).drew)
 rw [hv1]
 have hzv1 := HBv1.out.size
 have Hv1 := zz (Hv0.out.below HBv1.out)
 have HUv1 : Hid (Upd b 0 (0 + 12) (fun k => k = g ∨ k ∈ bO ah) w v1) := zz (HUv0.out.below HBv1.out Hv0.out.lt)
 have qn_0 := kC HBv1.out q_l q_0
 have qn_1 := kC HBv1.out q_l q_1
 have qn_2 := kC HBv1.out q_l q_2
 have qn_3 := kC HBv1.out q_l q_3
 have qn_4 := kC HBv1.out q_l q_4
 have qn_l := Nat.lt_of_lt_of_le q_l HBv1.out.size
 clear q_0 q_1 q_2 q_3 q_4 q_l
 have HA2n := zz (HA2.out.keep HBv1.out)
 clear k_f k_l k_0 k_1 k_2 k_3 k_4 k_5 k_6 k_7 k_8 k_9 k_10 k_11 hv1 hSc1
 have k_0 := Hv1.out.e0
 have k_1 := Hv1.out.e1
 have k_2 := Hv1.out.e2
 have k_3 := Hv1.out.e3
 have k_4 := Hv1.out.e4
 have k_5 := Hv1.out.e5
 have k_6 := Hv1.out.e6
 have k_7 := Hv1.out.e7
 have k_8 := Hv1.out.e8
 have k_9 := Hv1.out.e9
 have k_10 := Hv1.out.e10
 have k_11 := Hv1.out.e11
 have k_f := Hv1.out.fz
 have k_l := Hv1.out.lt
 obtain ⟨D, hD⟩ := eX (argA xs 0 0)
 have HD := zz hD
 clear hD
 go_wp2_with fail
 refine (HCALL 0 0 _ (by omega) HA2n.out).mono ?_
 rw [HD.out]
 rintro e v2 ⟨rfl, hbv2⟩
 have HBv2 := zz hbv2
 have hzv2 := HBv2.out.size
 have Hv2 := zz (Hv1.out.below HBv2.out)
 have HUv2 : Hid (Upd b 0 (0 + 12) (fun k => k = g ∨ k ∈ bO ah) w v2) := zz (HUv1.out.below HBv2.out Hv1.out.lt)
 have qnn_0 := kC HBv2.out qn_l qn_0
 have qnn_1 := kC HBv2.out qn_l qn_1
 have qnn_2 := kC HBv2.out qn_l qn_2
 have qnn_3 := kC HBv2.out qn_l qn_3
 have qnn_4 := kC HBv2.out qn_l qn_4
 have qnn_l := Nat.lt_of_lt_of_le qn_l HBv2.out.size
 clear qn_0 qn_1 qn_2 qn_3 qn_4 qn_l
 have HA2nn := zz (HA2n.out.keep HBv2.out)
 clear k_f k_l k_0 k_1 k_2 k_3 k_4 k_5 k_6 k_7 k_8 k_9 k_10 k_11 hbv2
 have k_0 := Hv2.out.e0
 have k_1 := Hv2.out.e1
 have k_2 := Hv2.out.e2
 have k_3 := Hv2.out.e3
 have k_4 := Hv2.out.e4
 have k_5 := Hv2.out.e5
 have k_6 := Hv2.out.e6
 have k_7 := Hv2.out.e7
 have k_8 := Hv2.out.e8
 have k_9 := Hv2.out.e9
 have k_10 := Hv2.out.e10
 have k_11 := Hv2.out.e11
 have k_f := Hv2.out.fz
 have k_l := Hv2.out.lt
 by_cases hd0 : D = 0
 ·subst hd0
  go_upto_region 29 with fail
  have hSc2 := And.intro k_0 k_3
  refine rO (fun w' => w'.cell? ⟨b, 0, none⟩ = some (.int .i64 s.w) ∧ w'.cell? ⟨b, 3, none⟩ = some (.int .i64 s.y)) [] [0,1,2,3,4,5,6,7,8,9,10,11,12] ?_
  iterate 12 (first | refine oW (h := ?_) | refine oL (hS := hSc2) (h := ?_))
  refine oO (hS := .inr hSc2) (h := ?_)
  intro K' hK
  go_simp
  refine (Zf6 lo b s g cc ah dh _ cr pn Hv2.out.drew (by omega) (by rw [HCN.out]; omega) (by rw [HCN.out]; exact hn240)).mono ?_
  rintro e x1 ⟨rfl, hax, hcx⟩
  have HR : Hid (sR lo b 0 (clr cr pn s) g ah w x1) := zz (.mk hax (HUv2.out.drew.transN (Upd.ofCh (S := fun i => i = g) hcx Hv2.out.lt (fun e => HS.out.gb e.symm) (fun i hi => .inl hi)) (fun i hi => .inl (.inl hi))))
  have hSx : x1.cell? ⟨b, 0, none⟩ = some (.int .i64 s.w) ∧ x1.cell? ⟨b, 3, none⟩ = some (.int .i64 s.y) := ⟨hax.c0, hax.c3⟩
  clear hax hcx
  refine oN hK (hS := .inr hSx) (h := ?_)
  clear hK K'
  refine oD ?_
  go_wp2_with fail
  first | refine bodyPost_end (v := .tuple #[]) (by simp [results, Tryz.results82]) rfl ?_ | refine bodyPost_ret (v := .tuple #[]) (by simp [results, Tryz.results82]) rfl ?_
  refine ⟨rfl, ?_⟩
  unfold csiS
  rw [if_neg (by decide), if_neg (by decide), if_neg (by decide), if_neg (by decide), if_neg (by decide), if_neg (by decide), if_pos (by decide)]
  have e1 : eraS s 0 0 0 = eraS s 0 0 0 := rfl
  rw [HD.out, HP.out, HPN.out]
  unfold eraS
  rw [if_pos rfl]
  rw [HCR.out]
  exact HR.out
 by_cases hd1 : D = 1
 ·subst hd1
  go_upto_region 31 with fail
  have hSc2 := And.intro k_0 k_3
  refine rO (fun w' => w'.cell? ⟨b, 0, none⟩ = some (.int .i64 s.w) ∧ w'.cell? ⟨b, 3, none⟩ = some (.int .i64 s.y)) [] [0,1,2,3,4,5,6,7,8,9,10,11,12] ?_
  iterate 12 (first | refine oW (h := ?_) | refine oL (hS := hSc2) (h := ?_))
  refine oO (hS := .inr hSc2) (h := ?_)
  intro K' hK
  go_simp
  refine (Zf6 lo b s g cc ah dh _ p (cr + 1) Hv2.out.drew (by omega) (by rw [HCN.out]; omega) (by rw [HCN.out]; exact hn240)).mono ?_
  rintro e x1 ⟨rfl, hax, hcx⟩
  have HR : Hid (sR lo b 0 (clr p (cr + 1) s) g ah w x1) := zz (.mk hax (HUv2.out.drew.transN (Upd.ofCh (S := fun i => i = g) hcx Hv2.out.lt (fun e => HS.out.gb e.symm) (fun i hi => .inl hi)) (fun i hi => .inl (.inl hi))))
  have hSx : x1.cell? ⟨b, 0, none⟩ = some (.int .i64 s.w) ∧ x1.cell? ⟨b, 3, none⟩ = some (.int .i64 s.y) := ⟨hax.c0, hax.c3⟩
  clear hax hcx
  refine oN hK (hS := .inr hSx) (h := ?_)
  clear hK K'
  refine oD ?_
  go_wp2_with fail
  first | refine bodyPost_end (v := .tuple #[]) (by simp [results, Tryz.results82]) rfl ?_ | refine bodyPost_ret (v := .tuple #[]) (by simp [results, Tryz.results82]) rfl ?_
  refine ⟨rfl, ?_⟩
  unfold csiS
  rw [if_neg (by decide), if_neg (by decide), if_neg (by decide), if_neg (by decide), if_neg (by decide), if_neg (by decide), if_pos (by decide)]
  have e1 : eraS s 0 0 0 = eraS s 0 0 0 := rfl
  rw [HD.out, HP.out, HPN.out]
  unfold eraS
  rw [if_neg (by decide), if_pos rfl]
  rw [HCR.out]
  exact HR.out
 by_cases hd2 : D = 2
 ·subst hd2
  go_upto_region 33 with fail
  have hSc2 := And.intro k_0 k_3
  refine rO (fun w' => w'.cell? ⟨b, 0, none⟩ = some (.int .i64 s.w) ∧ w'.cell? ⟨b, 3, none⟩ = some (.int .i64 s.y)) [] [0,1,2,3,4,5,6,7,8,9,10,11,12,13,14,15,16,17,18,19,20] ?_
  iterate 20 (first | refine oW (h := ?_) | refine oL (hS := hSc2) (h := ?_))
  refine oO (hS := .inr hSc2) (h := ?_)
  intro K' hK
  go_simp
  refine (Zf6 lo b s g cc ah dh _ p pn Hv2.out.drew (by omega) (by rw [HCN.out]; omega) (by rw [HCN.out]; exact hn240)).mono ?_
  rintro e x1 ⟨rfl, hax, hcx⟩
  have HR : Hid (sR lo b 0 (clr p pn s) g ah w x1) := zz (.mk hax (HUv2.out.drew.transN (Upd.ofCh (S := fun i => i = g) hcx Hv2.out.lt (fun e => HS.out.gb e.symm) (fun i hi => .inl hi)) (fun i hi => .inl (.inl hi))))
  have hSx : x1.cell? ⟨b, 0, none⟩ = some (.int .i64 s.w) ∧ x1.cell? ⟨b, 3, none⟩ = some (.int .i64 s.y) := ⟨hax.c0, hax.c3⟩
  clear hax hcx
  refine oN hK (hS := .inr hSx) (h := ?_)
  clear hK K'
  refine oD ?_
  go_wp2_with fail
  first | refine bodyPost_end (v := .tuple #[]) (by simp [results, Tryz.results82]) rfl ?_ | refine bodyPost_ret (v := .tuple #[]) (by simp [results, Tryz.results82]) rfl ?_
  refine ⟨rfl, ?_⟩
  unfold csiS
  rw [if_neg (by decide), if_neg (by decide), if_neg (by decide), if_neg (by decide), if_neg (by decide), if_neg (by decide), if_pos (by decide)]
  have e1 : eraS s 0 0 0 = eraS s 0 0 0 := rfl
  rw [HD.out, HP.out, HPN.out]
  unfold eraS
  rw [if_neg (by decide), if_neg (by decide), if_pos rfl]
  exact HR.out
 have r0 : (D == 0) = false := beq_eq_false_iff_ne.2 hd0
 have r1 : (D == 1) = false := beq_eq_false_iff_ne.2 hd1
 have r2 : (D == 2) = false := beq_eq_false_iff_ne.2 hd2
 go_wp2_with fail
 first | refine bodyPost_end (v := .tuple #[]) (by simp [results, Tryz.results82]) rfl ?_ | refine bodyPost_ret (v := .tuple #[]) (by simp [results, Tryz.results82]) rfl ?_
 refine ⟨rfl, ?_⟩
 unfold csiS
 rw [if_neg (by decide), if_neg (by decide), if_neg (by decide), if_neg (by decide), if_neg (by decide), if_neg (by decide), if_pos (by decide)]
 rw [HD.out]
 unfold eraS
 rw [if_neg hd0, if_neg hd1, if_neg hd2]
 exact .mk Hv2.out HUv2.out
end
end Go.Proofs.YtjmpgeffkdjpdaaGreatDoor
