/- Contracts of the functions that the claim reaches. No conditions but sizes. -/
import Derived.Test.YtjmpgeffkdjpdaaPSczc
import Derived.Lib.Bits
namespace Go.Proofs.Ytjmpgeffkdjpdaa
set_option linter.unusedVariables false
set_option linter.unusedSimpArgs false
set_option maxRecDepth 100000
set_option maxHeartbeats 16000000
section
open Go.RowKit
theorem ScrAt.whole {lo b o : Nat} {s s' : Scr} {g cc g2 c2 : Nat} {ah a2 : Option Addr} {dh d2 : Nat} {w : World} (h : ScrAt lo b o s g cc ah dh w) (hf : ScrF lo s' (some ⟨g2, 0, none⟩) c2 a2 d2 w) (h1 : g2 ≠ b) (h2 : ∀ k ∈ blkOf a2, k ≠ b) : ScrAt lo b o s' g2 c2 a2 d2 ((((((((((((w.setCell ⟨b, o, none⟩ (.int .i64 (s'.w : Int))).setCell ⟨b, o + 1, none⟩ (.int .i64 (s'.h : Int))).setCell ⟨b, o + 2, none⟩ (.int .i64 (s'.x : Int))).setCell ⟨b, o + 3, none⟩ (.int .i64 (s'.y : Int))).setCell ⟨b, o + 4, none⟩ (.int .i64 (s'.look : Int))).setCell ⟨b, o + 5, none⟩ (.int .i64 (s'.top : Int))).setCell ⟨b, o + 6, none⟩ (.int .i64 (s'.bot : Int))).setCell ⟨b, o + 7, none⟩ (.int .i64 (s'.sx : Int))).setCell ⟨b, o + 8, none⟩ (.int .i64 (s'.sy : Int))).setCell ⟨b, o + 9, none⟩ (.string s'.title)).setCell ⟨b, o + 10, none⟩ (.slice (some ⟨g2, 0, none⟩) s'.cells.length c2)).setCell ⟨b, o + 11, none⟩ (.slice a2 s'.hist.length d2)) ∧ Ch (· = b) w ((((((((((((w.setCell ⟨b, o, none⟩ (.int .i64 (s'.w : Int))).setCell ⟨b, o + 1, none⟩ (.int .i64 (s'.h : Int))).setCell ⟨b, o + 2, none⟩ (.int .i64 (s'.x : Int))).setCell ⟨b, o + 3, none⟩ (.int .i64 (s'.y : Int))).setCell ⟨b, o + 4, none⟩ (.int .i64 (s'.look : Int))).setCell ⟨b, o + 5, none⟩ (.int .i64 (s'.top : Int))).setCell ⟨b, o + 6, none⟩ (.int .i64 (s'.bot : Int))).setCell ⟨b, o + 7, none⟩ (.int .i64 (s'.sx : Int))).setCell ⟨b, o + 8, none⟩ (.int .i64 (s'.sy : Int))).setCell ⟨b, o + 9, none⟩ (.string s'.title)).setCell ⟨b, o + 10, none⟩ (.slice (some ⟨g2, 0, none⟩) s'.cells.length c2)).setCell ⟨b, o + 11, none⟩ (.slice a2 s'.hist.length d2)) ∧ Upd b o (o + 12) (fun _ => False) w ((((((((((((w.setCell ⟨b, o, none⟩ (.int .i64 (s'.w : Int))).setCell ⟨b, o + 1, none⟩ (.int .i64 (s'.h : Int))).setCell ⟨b, o + 2, none⟩ (.int .i64 (s'.x : Int))).setCell ⟨b, o + 3, none⟩ (.int .i64 (s'.y : Int))).setCell ⟨b, o + 4, none⟩ (.int .i64 (s'.look : Int))).setCell ⟨b, o + 5, none⟩ (.int .i64 (s'.top : Int))).setCell ⟨b, o + 6, none⟩ (.int .i64 (s'.bot : Int))).setCell ⟨b, o + 7, none⟩ (.int .i64 (s'.sx : Int))).setCell ⟨b, o + 8, none⟩ (.int .i64 (s'.sy : Int))).setCell ⟨b, o + 9, none⟩ (.string s'.title)).setCell ⟨b, o + 10, none⟩ (.slice (some ⟨g2, 0, none⟩) s'.cells.length c2)).setCell ⟨b, o + 11, none⟩ (.slice a2 s'.hist.length d2)) := by
  have hc : Ch (· = b) w ((((((((((((w.setCell ⟨b, o, none⟩ (.int .i64 (s'.w : Int))).setCell ⟨b, o + 1, none⟩ (.int .i64 (s'.h : Int))).setCell ⟨b, o + 2, none⟩ (.int .i64 (s'.x : Int))).setCell ⟨b, o + 3, none⟩ (.int .i64 (s'.y : Int))).setCell ⟨b, o + 4, none⟩ (.int .i64 (s'.look : Int))).setCell ⟨b, o + 5, none⟩ (.int .i64 (s'.top : Int))).setCell ⟨b, o + 6, none⟩ (.int .i64 (s'.bot : Int))).setCell ⟨b, o + 7, none⟩ (.int .i64 (s'.sx : Int))).setCell ⟨b, o + 8, none⟩ (.int .i64 (s'.sy : Int))).setCell ⟨b, o + 9, none⟩ (.string s'.title)).setCell ⟨b, o + 10, none⟩ (.slice (some ⟨g2, 0, none⟩) s'.cells.length c2)).setCell ⟨b, o + 11, none⟩ (.slice a2 s'.hist.length d2)) := by
    exact (((((((((((Ch.set1' w b o _).trans (Ch.set1' _ b (o + 1) _) (fun _ h => .inl h)).trans (Ch.set1' _ b (o + 2) _) (fun _ h => .inl h)).trans (Ch.set1' _ b (o + 3) _) (fun _ h => .inl h)).trans (Ch.set1' _ b (o + 4) _) (fun _ h => .inl h)).trans (Ch.set1' _ b (o + 5) _) (fun _ h => .inl h)).trans (Ch.set1' _ b (o + 6) _) (fun _ h => .inl h)).trans (Ch.set1' _ b (o + 7) _) (fun _ h => .inl h)).trans (Ch.set1' _ b (o + 8) _) (fun _ h => .inl h)).trans (Ch.set1' _ b (o + 9) _) (fun _ h => .inl h)).trans (Ch.set1' _ b (o + 10) _) (fun _ h => .inl h)).trans (Ch.set1' _ b (o + 11) _) (fun _ h => .inl h)
  have yy0 : ((((((((((((w.setCell ⟨b, o, none⟩ (.int .i64 (s'.w : Int))).setCell ⟨b, o + 1, none⟩ (.int .i64 (s'.h : Int))).setCell ⟨b, o + 2, none⟩ (.int .i64 (s'.x : Int))).setCell ⟨b, o + 3, none⟩ (.int .i64 (s'.y : Int))).setCell ⟨b, o + 4, none⟩ (.int .i64 (s'.look : Int))).setCell ⟨b, o + 5, none⟩ (.int .i64 (s'.top : Int))).setCell ⟨b, o + 6, none⟩ (.int .i64 (s'.bot : Int))).setCell ⟨b, o + 7, none⟩ (.int .i64 (s'.sx : Int))).setCell ⟨b, o + 8, none⟩ (.int .i64 (s'.sy : Int))).setCell ⟨b, o + 9, none⟩ (.string s'.title)).setCell ⟨b, o + 10, none⟩ (.slice (some ⟨g2, 0, none⟩) s'.cells.length c2)).setCell ⟨b, o + 11, none⟩ (.slice a2 s'.hist.length d2)).cell? ⟨b, o, none⟩ = some (.int .i64 (s'.w : Int)) := sO (sO (sO (sO (sO (sO (sO (sO (sO (sO (sO (World.cell?_setCell_same _ _ _ (h.c0))))))))))))
  have yy1 : ((((((((((((w.setCell ⟨b, o, none⟩ (.int .i64 (s'.w : Int))).setCell ⟨b, o + 1, none⟩ (.int .i64 (s'.h : Int))).setCell ⟨b, o + 2, none⟩ (.int .i64 (s'.x : Int))).setCell ⟨b, o + 3, none⟩ (.int .i64 (s'.y : Int))).setCell ⟨b, o + 4, none⟩ (.int .i64 (s'.look : Int))).setCell ⟨b, o + 5, none⟩ (.int .i64 (s'.top : Int))).setCell ⟨b, o + 6, none⟩ (.int .i64 (s'.bot : Int))).setCell ⟨b, o + 7, none⟩ (.int .i64 (s'.sx : Int))).setCell ⟨b, o + 8, none⟩ (.int .i64 (s'.sy : Int))).setCell ⟨b, o + 9, none⟩ (.string s'.title)).setCell ⟨b, o + 10, none⟩ (.slice (some ⟨g2, 0, none⟩) s'.cells.length c2)).setCell ⟨b, o + 11, none⟩ (.slice a2 s'.hist.length d2)).cell? ⟨b, o + 1, none⟩ = some (.int .i64 (s'.h : Int)) := sO (sO (sO (sO (sO (sO (sO (sO (sO (sO (World.cell?_setCell_same _ _ _ (sO (h.c1))))))))))))
  have yy2 : ((((((((((((w.setCell ⟨b, o, none⟩ (.int .i64 (s'.w : Int))).setCell ⟨b, o + 1, none⟩ (.int .i64 (s'.h : Int))).setCell ⟨b, o + 2, none⟩ (.int .i64 (s'.x : Int))).setCell ⟨b, o + 3, none⟩ (.int .i64 (s'.y : Int))).setCell ⟨b, o + 4, none⟩ (.int .i64 (s'.look : Int))).setCell ⟨b, o + 5, none⟩ (.int .i64 (s'.top : Int))).setCell ⟨b, o + 6, none⟩ (.int .i64 (s'.bot : Int))).setCell ⟨b, o + 7, none⟩ (.int .i64 (s'.sx : Int))).setCell ⟨b, o + 8, none⟩ (.int .i64 (s'.sy : Int))).setCell ⟨b, o + 9, none⟩ (.string s'.title)).setCell ⟨b, o + 10, none⟩ (.slice (some ⟨g2, 0, none⟩) s'.cells.length c2)).setCell ⟨b, o + 11, none⟩ (.slice a2 s'.hist.length d2)).cell? ⟨b, o + 2, none⟩ = some (.int .i64 (s'.x : Int)) := sO (sO (sO (sO (sO (sO (sO (sO (sO (World.cell?_setCell_same _ _ _ (sO (sO (h.c2))))))))))))
  have yy3 : ((((((((((((w.setCell ⟨b, o, none⟩ (.int .i64 (s'.w : Int))).setCell ⟨b, o + 1, none⟩ (.int .i64 (s'.h : Int))).setCell ⟨b, o + 2, none⟩ (.int .i64 (s'.x : Int))).setCell ⟨b, o + 3, none⟩ (.int .i64 (s'.y : Int))).setCell ⟨b, o + 4, none⟩ (.int .i64 (s'.look : Int))).setCell ⟨b, o + 5, none⟩ (.int .i64 (s'.top : Int))).setCell ⟨b, o + 6, none⟩ (.int .i64 (s'.bot : Int))).setCell ⟨b, o + 7, none⟩ (.int .i64 (s'.sx : Int))).setCell ⟨b, o + 8, none⟩ (.int .i64 (s'.sy : Int))).setCell ⟨b, o + 9, none⟩ (.string s'.title)).setCell ⟨b, o + 10, none⟩ (.slice (some ⟨g2, 0, none⟩) s'.cells.length c2)).setCell ⟨b, o + 11, none⟩ (.slice a2 s'.hist.length d2)).cell? ⟨b, o + 3, none⟩ = some (.int .i64 (s'.y : Int)) := sO (sO (sO (sO (sO (sO (sO (sO (World.cell?_setCell_same _ _ _ (sO (sO (sO (h.c3))))))))))))
  have yy4 : ((((((((((((w.setCell ⟨b, o, none⟩ (.int .i64 (s'.w : Int))).setCell ⟨b, o + 1, none⟩ (.int .i64 (s'.h : Int))).setCell ⟨b, o + 2, none⟩ (.int .i64 (s'.x : Int))).setCell ⟨b, o + 3, none⟩ (.int .i64 (s'.y : Int))).setCell ⟨b, o + 4, none⟩ (.int .i64 (s'.look : Int))).setCell ⟨b, o + 5, none⟩ (.int .i64 (s'.top : Int))).setCell ⟨b, o + 6, none⟩ (.int .i64 (s'.bot : Int))).setCell ⟨b, o + 7, none⟩ (.int .i64 (s'.sx : Int))).setCell ⟨b, o + 8, none⟩ (.int .i64 (s'.sy : Int))).setCell ⟨b, o + 9, none⟩ (.string s'.title)).setCell ⟨b, o + 10, none⟩ (.slice (some ⟨g2, 0, none⟩) s'.cells.length c2)).setCell ⟨b, o + 11, none⟩ (.slice a2 s'.hist.length d2)).cell? ⟨b, o + 4, none⟩ = some (.int .i64 (s'.look : Int)) := sO (sO (sO (sO (sO (sO (sO (World.cell?_setCell_same _ _ _ (sO (sO (sO (sO (h.c4))))))))))))
  have yy5 : ((((((((((((w.setCell ⟨b, o, none⟩ (.int .i64 (s'.w : Int))).setCell ⟨b, o + 1, none⟩ (.int .i64 (s'.h : Int))).setCell ⟨b, o + 2, none⟩ (.int .i64 (s'.x : Int))).setCell ⟨b, o + 3, none⟩ (.int .i64 (s'.y : Int))).setCell ⟨b, o + 4, none⟩ (.int .i64 (s'.look : Int))).setCell ⟨b, o + 5, none⟩ (.int .i64 (s'.top : Int))).setCell ⟨b, o + 6, none⟩ (.int .i64 (s'.bot : Int))).setCell ⟨b, o + 7, none⟩ (.int .i64 (s'.sx : Int))).setCell ⟨b, o + 8, none⟩ (.int .i64 (s'.sy : Int))).setCell ⟨b, o + 9, none⟩ (.string s'.title)).setCell ⟨b, o + 10, none⟩ (.slice (some ⟨g2, 0, none⟩) s'.cells.length c2)).setCell ⟨b, o + 11, none⟩ (.slice a2 s'.hist.length d2)).cell? ⟨b, o + 5, none⟩ = some (.int .i64 (s'.top : Int)) := sO (sO (sO (sO (sO (sO (World.cell?_setCell_same _ _ _ (sO (sO (sO (sO (sO (h.c5))))))))))))
  have yy6 : ((((((((((((w.setCell ⟨b, o, none⟩ (.int .i64 (s'.w : Int))).setCell ⟨b, o + 1, none⟩ (.int .i64 (s'.h : Int))).setCell ⟨b, o + 2, none⟩ (.int .i64 (s'.x : Int))).setCell ⟨b, o + 3, none⟩ (.int .i64 (s'.y : Int))).setCell ⟨b, o + 4, none⟩ (.int .i64 (s'.look : Int))).setCell ⟨b, o + 5, none⟩ (.int .i64 (s'.top : Int))).setCell ⟨b, o + 6, none⟩ (.int .i64 (s'.bot : Int))).setCell ⟨b, o + 7, none⟩ (.int .i64 (s'.sx : Int))).setCell ⟨b, o + 8, none⟩ (.int .i64 (s'.sy : Int))).setCell ⟨b, o + 9, none⟩ (.string s'.title)).setCell ⟨b, o + 10, none⟩ (.slice (some ⟨g2, 0, none⟩) s'.cells.length c2)).setCell ⟨b, o + 11, none⟩ (.slice a2 s'.hist.length d2)).cell? ⟨b, o + 6, none⟩ = some (.int .i64 (s'.bot : Int)) := sO (sO (sO (sO (sO (World.cell?_setCell_same _ _ _ (sO (sO (sO (sO (sO (sO (h.c6))))))))))))
  have yy7 : ((((((((((((w.setCell ⟨b, o, none⟩ (.int .i64 (s'.w : Int))).setCell ⟨b, o + 1, none⟩ (.int .i64 (s'.h : Int))).setCell ⟨b, o + 2, none⟩ (.int .i64 (s'.x : Int))).setCell ⟨b, o + 3, none⟩ (.int .i64 (s'.y : Int))).setCell ⟨b, o + 4, none⟩ (.int .i64 (s'.look : Int))).setCell ⟨b, o + 5, none⟩ (.int .i64 (s'.top : Int))).setCell ⟨b, o + 6, none⟩ (.int .i64 (s'.bot : Int))).setCell ⟨b, o + 7, none⟩ (.int .i64 (s'.sx : Int))).setCell ⟨b, o + 8, none⟩ (.int .i64 (s'.sy : Int))).setCell ⟨b, o + 9, none⟩ (.string s'.title)).setCell ⟨b, o + 10, none⟩ (.slice (some ⟨g2, 0, none⟩) s'.cells.length c2)).setCell ⟨b, o + 11, none⟩ (.slice a2 s'.hist.length d2)).cell? ⟨b, o + 7, none⟩ = some (.int .i64 (s'.sx : Int)) := sO (sO (sO (sO (World.cell?_setCell_same _ _ _ (sO (sO (sO (sO (sO (sO (sO (h.c7))))))))))))
  have yy8 : ((((((((((((w.setCell ⟨b, o, none⟩ (.int .i64 (s'.w : Int))).setCell ⟨b, o + 1, none⟩ (.int .i64 (s'.h : Int))).setCell ⟨b, o + 2, none⟩ (.int .i64 (s'.x : Int))).setCell ⟨b, o + 3, none⟩ (.int .i64 (s'.y : Int))).setCell ⟨b, o + 4, none⟩ (.int .i64 (s'.look : Int))).setCell ⟨b, o + 5, none⟩ (.int .i64 (s'.top : Int))).setCell ⟨b, o + 6, none⟩ (.int .i64 (s'.bot : Int))).setCell ⟨b, o + 7, none⟩ (.int .i64 (s'.sx : Int))).setCell ⟨b, o + 8, none⟩ (.int .i64 (s'.sy : Int))).setCell ⟨b, o + 9, none⟩ (.string s'.title)).setCell ⟨b, o + 10, none⟩ (.slice (some ⟨g2, 0, none⟩) s'.cells.length c2)).setCell ⟨b, o + 11, none⟩ (.slice a2 s'.hist.length d2)).cell? ⟨b, o + 8, none⟩ = some (.int .i64 (s'.sy : Int)) := sO (sO (sO (World.cell?_setCell_same _ _ _ (sO (sO (sO (sO (sO (sO (sO (sO (h.c8))))))))))))
  have yy9 : ((((((((((((w.setCell ⟨b, o, none⟩ (.int .i64 (s'.w : Int))).setCell ⟨b, o + 1, none⟩ (.int .i64 (s'.h : Int))).setCell ⟨b, o + 2, none⟩ (.int .i64 (s'.x : Int))).setCell ⟨b, o + 3, none⟩ (.int .i64 (s'.y : Int))).setCell ⟨b, o + 4, none⟩ (.int .i64 (s'.look : Int))).setCell ⟨b, o + 5, none⟩ (.int .i64 (s'.top : Int))).setCell ⟨b, o + 6, none⟩ (.int .i64 (s'.bot : Int))).setCell ⟨b, o + 7, none⟩ (.int .i64 (s'.sx : Int))).setCell ⟨b, o + 8, none⟩ (.int .i64 (s'.sy : Int))).setCell ⟨b, o + 9, none⟩ (.string s'.title)).setCell ⟨b, o + 10, none⟩ (.slice (some ⟨g2, 0, none⟩) s'.cells.length c2)).setCell ⟨b, o + 11, none⟩ (.slice a2 s'.hist.length d2)).cell? ⟨b, o + 9, none⟩ = some (.string s'.title) := sO (sO (World.cell?_setCell_same _ _ _ (sO (sO (sO (sO (sO (sO (sO (sO (sO (h.c9))))))))))))
  have yy10 : ((((((((((((w.setCell ⟨b, o, none⟩ (.int .i64 (s'.w : Int))).setCell ⟨b, o + 1, none⟩ (.int .i64 (s'.h : Int))).setCell ⟨b, o + 2, none⟩ (.int .i64 (s'.x : Int))).setCell ⟨b, o + 3, none⟩ (.int .i64 (s'.y : Int))).setCell ⟨b, o + 4, none⟩ (.int .i64 (s'.look : Int))).setCell ⟨b, o + 5, none⟩ (.int .i64 (s'.top : Int))).setCell ⟨b, o + 6, none⟩ (.int .i64 (s'.bot : Int))).setCell ⟨b, o + 7, none⟩ (.int .i64 (s'.sx : Int))).setCell ⟨b, o + 8, none⟩ (.int .i64 (s'.sy : Int))).setCell ⟨b, o + 9, none⟩ (.string s'.title)).setCell ⟨b, o + 10, none⟩ (.slice (some ⟨g2, 0, none⟩) s'.cells.length c2)).setCell ⟨b, o + 11, none⟩ (.slice a2 s'.hist.length d2)).cell? ⟨b, o + 10, none⟩ = some (.slice (some ⟨g2, 0, none⟩) s'.cells.length c2) := sO (World.cell?_setCell_same _ _ _ (sO (sO (sO (sO (sO (sO (sO (sO (sO (sO (h.c10))))))))))))
  have yy11 : ((((((((((((w.setCell ⟨b, o, none⟩ (.int .i64 (s'.w : Int))).setCell ⟨b, o + 1, none⟩ (.int .i64 (s'.h : Int))).setCell ⟨b, o + 2, none⟩ (.int .i64 (s'.x : Int))).setCell ⟨b, o + 3, none⟩ (.int .i64 (s'.y : Int))).setCell ⟨b, o + 4, none⟩ (.int .i64 (s'.look : Int))).setCell ⟨b, o + 5, none⟩ (.int .i64 (s'.top : Int))).setCell ⟨b, o + 6, none⟩ (.int .i64 (s'.bot : Int))).setCell ⟨b, o + 7, none⟩ (.int .i64 (s'.sx : Int))).setCell ⟨b, o + 8, none⟩ (.int .i64 (s'.sy : Int))).setCell ⟨b, o + 9, none⟩ (.string s'.title)).setCell ⟨b, o + 10, none⟩ (.slice (some ⟨g2, 0, none⟩) s'.cells.length c2)).setCell ⟨b, o + 11, none⟩ (.slice a2 s'.hist.length d2)).cell? ⟨b, o + 11, none⟩ = some (.slice a2 s'.hist.length d2) := World.cell?_setCell_same _ _ _ (sO (sO (sO (sO (sO (sO (sO (sO (sO (sO (sO (h.c11))))))))))))
  exact ⟨⟨yy0, yy1, yy2, yy3, yy4, yy5, yy6, yy7, yy8, yy9, yy10, yy11, fun k => by rw [World.frozen?_setCell, World.frozen?_setCell, World.frozen?_setCell, World.frozen?_setCell, World.frozen?_setCell, World.frozen?_setCell, World.frozen?_setCell, World.frozen?_setCell, World.frozen?_setCell, World.frozen?_setCell, World.frozen?_setCell, World.frozen?_setCell]; exact h.fz k, Nat.lt_of_lt_of_le h.lt hc.size, hf.row.ch hc (fun k hk e => by simp only [blkOf, List.mem_singleton] at hk; exact h1 (hk.symm.trans e)), hf.win.ch hc (fun k hk e => h2 k hk e), h1, fun k hk => ⟨h2 k hk, fun e => hf.ap k hk (by rw [e]; simp [blkOf])⟩⟩, hc, ((((((((((((Upd.refl).setCell (o) (by omega) (by omega) _).setCell (o + 1) (by omega) (by omega) _).setCell (o + 2) (by omega) (by omega) _).setCell (o + 3) (by omega) (by omega) _).setCell (o + 4) (by omega) (by omega) _).setCell (o + 5) (by omega) (by omega) _).setCell (o + 6) (by omega) (by omega) _).setCell (o + 7) (by omega) (by omega) _).setCell (o + 8) (by omega) (by omega) _).setCell (o + 9) (by omega) (by omega) _).setCell (o + 10) (by omega) (by omega) _).setCell (o + 11) (by omega) (by omega) _⟩
theorem escape_c (lo b : Nat) (s : Scr) (g cc : Nat) (ah : Option Addr) (dh : Nat) (w : World) (n : Int) (h : ScrAt lo b 0 s g cc ah dh w) (ok : ScrOK s) (hlo : lo ≤ w.heap.size) :
    Calls Try.prog 69 #[.pointer (some ⟨b, 0, none⟩), .int .i64 n] w fun e w' => e = .returned (.tuple #[]) ∧ ScrR lo b 0 (escS s n) g ah w w' := by
  have HS := Lib.hid h
  have HOK := Lib.hid ok
  have hw1 := ok.w1
  have hw2 := ok.w2
  have hh1 := ok.h1
  have hh2 := ok.h2
  have hx := ok.hx
  have hy := ok.hy
  clear h ok
  have k_0 := HS.out.e0
  have k_1 := HS.out.e1
  have k_2 := HS.out.e2
  have k_3 := HS.out.e3
  have k_4 := HS.out.e4
  have k_5 := HS.out.e5
  have k_6 := HS.out.e6
  have k_7 := HS.out.e7
  have k_8 := HS.out.e8
  have k_9 := HS.out.e9
  have k_10 := HS.out.e10
  have k_11 := HS.out.e11
  have k_f := HS.out.fz
  have k_l := HS.out.lt
  by_cases h55 : n = 55
  · subst h55
    go_enter Try.func69, Try.ntmps69
    go_wp2_with fail
    first | refine bodyPost_end (v := .tuple #[]) (by simp [results, Try.results69]) rfl ?_ | refine bodyPost_ret (v := .tuple #[]) (by simp [results, Try.results69]) rfl ?_
    refine ⟨rfl, ?_⟩
    unfold escS
    rw [if_pos rfl]
    exact .mk ((HS.out.setv7 s.x rfl).setv8 s.y rfl) ((Upd.refl'.set7 _).set8 _)
  by_cases h56 : n = 56
  · subst h56
    go_enter Try.func69, Try.ntmps69
    go_wp2_with fail
    first | refine bodyPost_end (v := .tuple #[]) (by simp [results, Try.results69]) rfl ?_ | refine bodyPost_ret (v := .tuple #[]) (by simp [results, Try.results69]) rfl ?_
    refine ⟨rfl, ?_⟩
    unfold escS
    rw [if_neg (by decide), if_pos rfl]
    exact .mk ((HS.out.setv2 s.sx rfl).setv3 s.sy rfl) ((Upd.refl'.set2 _).set3 _)
  by_cases h68 : n = 68
  · subst h68
    go_enter Try.func69, Try.ntmps69
    go_wp2_with fail
    refine (down_c lo b s g cc ah dh _ HS.out HOK.out (by first | omega | (have := Upd.refl'.size; omega))).mono ?_
    rintro e x1 ⟨rfl, hr⟩
    have HR : Hid (ScrR lo b 0 (downS s) g ah w x1) := Lib.hid (ScrR.trans HS.out Upd.refl' (.inl rfl) (fun _ h => .inl h) hr)
    clear hr
    go_wp2_with fail
    first | refine bodyPost_end (v := .tuple #[]) (by simp [results, Try.results69]) rfl ?_ | refine bodyPost_ret (v := .tuple #[]) (by simp [results, Try.results69]) rfl ?_
    refine ⟨rfl, ?_⟩
    unfold escS
    rw [if_neg (by decide), if_neg (by decide), if_pos rfl]
    exact HR.out
  by_cases h69 : n = 69
  · subst h69
    go_enter Try.func69, Try.ntmps69
    have HX : Hid (ScrAt lo b 0 { s with x := 0 } g cc ah dh (w.setCell ⟨b, 2, none⟩ (.int .i64 0)) ∧ Upd b 0 (0 + 12) (fun k => k = g ∨ k ∈ blkOf ah) w (w.setCell ⟨b, 2, none⟩ (.int .i64 0))) := Lib.hid ⟨HS.out.setv2 0 rfl, Upd.refl'.set2 _⟩
    have hz : lo ≤ (w.setCell ⟨b, 2, none⟩ (.int .i64 0)).heap.size := by have := HX.out.2.size; omega
    go_wp2_with fail
    refine (down_c lo b { s with x := 0 } g cc ah dh _ HX.out.1 (HOK.out.xy (x := 0) (y := s.y) (Nat.zero_le _) hy) (by first | omega | (have := HX.out.2.size; omega))).mono ?_
    rintro e x1 ⟨rfl, hr⟩
    have HR : Hid (ScrR lo b 0 (downS { s with x := 0 }) g ah w x1) := Lib.hid (ScrR.trans HX.out.1 HX.out.2 (.inl rfl) (fun _ h => .inl h) hr)
    clear hr
    go_wp2_with fail
    first | refine bodyPost_end (v := .tuple #[]) (by simp [results, Try.results69]) rfl ?_ | refine bodyPost_ret (v := .tuple #[]) (by simp [results, Try.results69]) rfl ?_
    refine ⟨rfl, ?_⟩
    unfold escS
    rw [if_neg (by decide), if_neg (by decide), if_neg (by decide), if_pos rfl]
    exact HR.out
  by_cases h77 : n = 77
  · subst h77
    go_enter Try.func69, Try.ntmps69
    go_wp2_with fail
    refine (up_c lo b s g cc ah dh _ HS.out HOK.out hlo).mono ?_
    rintro e x1 ⟨rfl, hr⟩
    have HR := Lib.hid hr
    clear hr
    go_wp2_with fail
    first | refine bodyPost_end (v := .tuple #[]) (by simp [results, Try.results69]) rfl ?_ | refine bodyPost_ret (v := .tuple #[]) (by simp [results, Try.results69]) rfl ?_
    refine ⟨rfl, ?_⟩
    unfold escS
    rw [if_neg (by decide), if_neg (by decide), if_neg (by decide), if_neg (by decide), if_pos rfl]
    exact HR.out
  by_cases h99 : n = 99
  · subst h99
    go_enter Try.func69, Try.ntmps69
    go_upto_region 16 with fail
    have hSc1 := And.intro k_0 k_1
    refine wp_region_G (fun w' => w'.cell? ⟨b, 0, none⟩ = some (.int .i64 (s.w : Int)) ∧ w'.cell? ⟨b, 1, none⟩ = some (.int .i64 (s.h : Int))) (fun i => i == 14) (by kernel_rfl) hSc1 ?_
    refine tW ?_ 0 rfl ?_ ?_; rotate_left
    · intro w' hSw; go_simp; try rfl
    try simp only [Act.put,j1,j2,j3,j4,j5,j6]
    refine tW ?_ 1 rfl ?_ ?_; rotate_left
    · intro w' hSw; go_simp; try rfl
    try simp only [Act.put,j1,j2,j3,j4,j5,j6]
    refine tW ?_ 2 rfl ?_ ?_; rotate_left
    · intro w' hSw; go_simp; try rfl
    try simp only [Act.put,j1,j2,j3,j4,j5,j6]
    refine tW ?_ 3 rfl ?_ ?_; rotate_left
    · intro w' hSw; go_simp; try rfl
    try simp only [Act.put,j1,j2,j3,j4,j5,j6]
    refine tW ?_ 4 rfl ?_ ?_; rotate_left
    · intro w' hSw; go_simp; try rfl
    try simp only [Act.put,j1,j2,j3,j4,j5,j6]
    refine tL ?_ 5 rfl hSc1 ?_ ?_; rotate_left
    · intro w' hSw; obtain ⟨s0, s1⟩ := hSw; go_simp; try rfl
    try simp only [Act.put,j1,j2,j3,j4,j5,j6]
    refine tW ?_ 6 rfl ?_ ?_; rotate_left
    · intro w' hSw; go_simp; try rfl
    try simp only [Act.put,j1,j2,j3,j4,j5,j6]
    refine tW ?_ 7 rfl ?_ ?_; rotate_left
    · intro w' hSw; go_simp; try rfl
    try simp only [Act.put,j1,j2,j3,j4,j5,j6]
    refine tW ?_ 8 rfl ?_ ?_; rotate_left
    · intro w' hSw; go_simp; try rfl
    try simp only [Act.put,j1,j2,j3,j4,j5,j6]
    refine tW ?_ 9 rfl ?_ ?_; rotate_left
    · intro w' hSw; go_simp; try rfl
    try simp only [Act.put,j1,j2,j3,j4,j5,j6]
    refine tL ?_ 10 rfl hSc1 ?_ ?_; rotate_left
    · intro w' hSw; obtain ⟨s0, s1⟩ := hSw; go_simp; try rfl
    try simp only [Act.put,j1,j2,j3,j4,j5,j6]
    refine wpAnyG_one (i := 11) (by kernel_rfl) rfl hSc1 (fun K' hK => ?_)
    simp only [j1,j2,j3]
    go_simp
    refine (l04New_c s.w s.h _ hw2 hh2 (by omega)).mono ?_
    rintro e x1 ⟨ac, c2, a2, d2, rfl, hf, hb⟩
    have HB1 : Hid (Below w.heap.size w x1) := Lib.hid (((Below.refl _ _).drew).trans hb)
    have hn0 : 0 < (newS s.w s.h).cells.length := by simp only [newS, blanksL, List.length_replicate]; exact Nat.mul_pos (by omega) (by omega)
    obtain ⟨g2, rfl⟩ := hf.blk hn0
    have HF : Hid (ScrF w.heap.size (newS s.w s.h) (some ⟨g2, 0, none⟩) c2 a2 d2 x1) := Lib.hid hf
    have HAX := Lib.hid (HS.out.below HB1.out)
    have hg2 := FreshIn.blks hf.row g2 (by simp [blkOf])
    have hg2' : w.heap.size ≤ g2 := hg2.1
    clear hf hb hn0 hg2
    unfold scrV
    have e_0 := HAX.out.e0
    have e_1 := HAX.out.e1
    have e_2 := HAX.out.e2
    have e_3 := HAX.out.e3
    have e_4 := HAX.out.e4
    have e_5 := HAX.out.e5
    have e_6 := HAX.out.e6
    have e_7 := HAX.out.e7
    have e_8 := HAX.out.e8
    have e_9 := HAX.out.e9
    have e_10 := HAX.out.e10
    have e_11 := HAX.out.e11
    have e_f := HAX.out.fz
    have e_l := HAX.out.lt
    have hSx : x1.cell? ⟨b, 0, none⟩ = some (.int .i64 s.w) ∧ x1.cell? ⟨b, 1, none⟩ = some (.int .i64 s.h) := ⟨e_0, e_1⟩
    refine hK.out _ _ (Or.inr hSx) ?_
    clear hK K'
    try simp only [Act.put,j1,j2,j3,j4,j5,j6]
    refine tW ?_ 12 rfl ?_ ?_; rotate_left
    · intro w' hSw; go_simp; try rfl
    try simp only [Act.put,j1,j2,j3,j4,j5,j6]
    refine tW ?_ 13 rfl ?_ ?_; rotate_left
    · intro w' hSw; go_simp; try rfl
    try simp only [Act.put,j1,j2,j3,j4,j5,j6]
    refine wpAnyG_one (i := 14) (by kernel_rfl) rfl hSx (fun K' hK => ?_)
    simp only [j1,j2,j3]
    go_simp
    refine hK.out _ _ (Or.inl rfl) ?_
    clear hK K'
    try simp only [Act.put,j1,j2,j3,j4,j5,j6]
    refine wpAnyG_done (by kernel_rfl) ?_ _
    have hne : g2 ≠ b := by have := HS.out.lt; omega
    have hnh : ∀ j ∈ blkOf a2, j ≠ b := fun j hj => by have := (HF.out.win.blk j hj).1; have := HS.out.lt; omega
    have HWH := Lib.hid (HAX.out.whole (HF.out.low hlo) hne hnh)
    obtain ⟨w9, hw9⟩ : ∃ x, ((((((((((((x1.setCell ⟨b, 0, none⟩ (.int .i64 ((newS s.w s.h).w : Int))).setCell ⟨b, 1, none⟩ (.int .i64 ((newS s.w s.h).h : Int))).setCell ⟨b, 2, none⟩ (.int .i64 ((newS s.w s.h).x : Int))).setCell ⟨b, 3, none⟩ (.int .i64 ((newS s.w s.h).y : Int))).setCell ⟨b, 4, none⟩ (.int .i64 ((newS s.w s.h).look : Int))).setCell ⟨b, 5, none⟩ (.int .i64 ((newS s.w s.h).top : Int))).setCell ⟨b, 6, none⟩ (.int .i64 ((newS s.w s.h).bot : Int))).setCell ⟨b, 7, none⟩ (.int .i64 ((newS s.w s.h).sx : Int))).setCell ⟨b, 8, none⟩ (.int .i64 ((newS s.w s.h).sy : Int))).setCell ⟨b, 9, none⟩ (.string (newS s.w s.h).title)).setCell ⟨b, 10, none⟩ (.slice (some ⟨g2, 0, none⟩) (newS s.w s.h).cells.length c2)).setCell ⟨b, 11, none⟩ (.slice a2 (newS s.w s.h).hist.length d2)) = x := ⟨_, rfl⟩
    rw [hw9] at HWH ⊢
    clear hw9 e_0 e_1 e_2 e_3 e_4 e_5 e_6 e_7 e_8 e_9 e_10 e_11 e_f e_l
    have z_11 := HWH.out.1.c11
    have z_f := HWH.out.1.fz
    have z_l := HWH.out.1.lt
    go_wp2_with fail
    first | refine bodyPost_end (v := .tuple #[]) (by simp [results, Try.results69]) rfl ?_ | refine bodyPost_ret (v := .tuple #[]) (by simp [results, Try.results69]) rfl ?_
    refine ⟨rfl, ?_⟩
    unfold escS
    rw [if_neg (by decide), if_neg (by decide), if_neg (by decide), if_neg (by decide), if_neg (by decide), if_pos rfl]
    have hwin : Win strE 9 1 lo w9 ah dh s.hist := HAX.out.win.ch HWH.out.2.1 (fun j hj e => (HS.out.hb j hj).1 e)
    have hapart : ∀ j ∈ blkOf ah, j ≠ b ∧ j ≠ g2 := fun j hj => ⟨(HS.out.hb j hj).1, fun e => by have := (HS.out.win.blk j hj).2; omega⟩
    have h9 := HWH.out.1.hist hwin hapart
    have hup : Upd b 0 (0 + 12) (fun k => k = g ∨ k ∈ blkOf ah) w w9 := (Upd.refl'.below HB1.out HS.out.lt).transN HWH.out.2.2 (fun _ h => h.elim)
    exact ⟨g2, c2, ah, dh, h9, hup.set1'' (by omega) (by omega) _, .inr hg2', fun _ hj => .inl hj⟩
  have q55 : (n == 55) = false := beq_eq_false_iff_ne.2 h55
  have q56 : (n == 56) = false := beq_eq_false_iff_ne.2 h56
  have q68 : (n == 68) = false := beq_eq_false_iff_ne.2 h68
  have q69 : (n == 69) = false := beq_eq_false_iff_ne.2 h69
  have q77 : (n == 77) = false := beq_eq_false_iff_ne.2 h77
  have q99 : (n == 99) = false := beq_eq_false_iff_ne.2 h99
  go_enter Try.func69, Try.ntmps69
  go_wp2_with fail
  first | refine bodyPost_end (v := .tuple #[]) (by simp [results, Try.results69]) rfl ?_ | refine bodyPost_ret (v := .tuple #[]) (by simp [results, Try.results69]) rfl ?_
  refine ⟨rfl, ?_⟩
  unfold escS
  rw [if_neg h55, if_neg h56, if_neg h68, if_neg h69, if_neg h77, if_neg h99]
  exact .mk HS.out Upd.refl'
end
section
open Go.RowKit
theorem l03ArgG_c (kd n : Int) (pv : Bool) (tx : ByteArray) (xs : List Int) (aa : Option Addr) (ca : Nat) (i : Nat) (d : Int) (w : World) (ha : Sl intE 1 w aa xs) (hi : i ≤ 7) (hx : xs.length ≤ 8) :
    Calls Try.prog 84 #[.agg #[.int .i64 kd, .int .i64 n, .bool pv, .slice aa xs.length ca, .string tx], .int .i64 i, .int .i64 d] w fun e w' => e = .returned (.int .i64 (argA xs i d)) ∧ Below w.heap.size w w' := by
  obtain ⟨ln, hln⟩ : ∃ ln, xs.length = ln := ⟨_, rfl⟩
  have HLN := Lib.hid hln
  by_cases hil : i < xs.length
  · obtain ⟨b1, o1, rfl, hb1, hc1⟩ := (ha.alloc (.cells #[.int .i64 kd, .int .i64 n, .bool pv, .slice aa xs.length ca, .string tx] 87)).at hil
    have c1 := hc1 i hil 0 (by omega)
    obtain ⟨x, hx1⟩ : ∃ x, xs[i] = x := ⟨_, rfl⟩
    simp only [intE, Nat.mul_one, Nat.add_zero, List.getElem?_cons_zero] at c1
    rw [hx1] at c1
    have hv : argA xs i d = if x < 0 then d else x := by unfold argA; rw [dif_pos hil, hx1]
    rw [hv]
    rw [hln] at hb1 c1 hil hx ⊢
    clear hc1 ha hln hv hx1
    have g0 : ¬ ((i : Int) ≥ (ln : Int)) := by omega
    have g1 : (i : Int) < (ln : Int) := by omega
    by_cases h0 : x < 0
    · rw [if_pos h0]
      go_enter Try.func84, Try.ntmps84
      go_wp2_with fail
      go_ret
      exact ⟨rfl, (Below.refl _ _).alloc (Nat.le_refl _) _⟩
    · rw [if_neg h0]
      go_enter Try.func84, Try.ntmps84
      go_wp2_with fail
      go_ret
      exact ⟨rfl, (Below.refl _ _).alloc (Nat.le_refl _) _⟩
  · have hv : argA xs i d = d := by unfold argA; rw [dif_neg hil]
    rw [hv]
    rw [hln] at hil hx ⊢
    clear ha hln hv
    have g0 : (ln : Int) ≤ (i : Int) := by omega
    go_enter Try.func84, Try.ntmps84
    go_wp2_with fail
    go_ret
    exact ⟨rfl, (Below.refl _ _).alloc (Nat.le_refl _) _⟩
theorem scU_false (a b : Nat) (s : Scr) : ∀ n, ({ scU true a b n s with hist := s.hist } : Scr) = scU false a b n s
  | 0 => rfl
  | n + 1 => by
    have ih := scU_false a b s n
    show ({ scU1 true a b (scU true a b n s) with hist := s.hist } : Scr) = scU1 false a b (scU false a b n s)
    rw [← ih]
    unfold scU1
    simp
theorem withinU_c (lo b : Nat) (s : Scr) (g cc : Nat) (ah : Option Addr) (dh : Nat) (w : World) (t bt n : Nat) (h : ScrAt lo b 0 s g cc ah dh w) (ok : ScrOK s) (htb : t ≤ bt) (hbt : bt < s.h) (hn : n ≤ 10) (hlo : lo ≤ w.heap.size) :
    Calls Try.prog 86 #[.pointer (some ⟨b, 0, none⟩), .int .i64 t, .int .i64 bt, .int .i64 n] w fun e w' => e = .returned (.tuple #[]) ∧ ScrR lo b 0 (scU false t bt n s) g ah w w' := by
  have HS := Lib.hid h
  have HOK := Lib.hid ok
  have k_11 := h.c11
  clear h ok
  go_enter Try.func86, Try.ntmps86
  go_wp2_with fail
  refine (scrollU_c lo b s g cc ah dh _ t bt n HS.out HOK.out htb hbt hn hlo).mono ?_
  rintro e x1 ⟨rfl, ⟨g1, cc1, ah1, dh1, ha, hu, hg, hh⟩, hwo⟩
  have HWO := Lib.hid hwo
  have HA := Lib.hid ha
  have HU := Lib.hid hu
  have HG := Lib.hid hg
  have HH := Lib.hid hh
  have z_11 := ha.c11
  have z_f := ha.fz
  have z_l := ha.lt
  clear ha hu hg hh k_11 hwo
  go_wp2_with fail
  refine bodyPost_end (v := .tuple #[]) (by simp [results, Try.results86]) rfl ?_
  have hg1 : ∀ k ∈ blkOf ah, k ≠ b ∧ k ≠ g1 := fun k hk => ⟨(HS.out.hb k hk).1, fun e => by
    rcases HG.out with h4 | h4
    · exact (HS.out.hb k hk).2 (e.trans h4)
    · have := (HS.out.win.blk k hk).2; omega⟩
  have h9 := HA.out.hist HWO.out hg1
  rw [scU_false] at h9
  exact ⟨rfl, g1, cc1, ah, dh, h9, HU.out.set1'' (by omega) (by omega) _, HG.out, fun _ hi => .inl hi⟩
theorem withinD_c (lo b : Nat) (s : Scr) (g cc : Nat) (ah : Option Addr) (dh : Nat) (w : World) (t bt n : Nat) (h : ScrAt lo b 0 s g cc ah dh w) (ok : ScrOK s) (htb : t ≤ bt) (hbt : bt < s.h) (hn : n ≤ 10) (hlo : lo ≤ w.heap.size) :
    Calls Try.prog 86 #[.pointer (some ⟨b, 0, none⟩), .int .i64 t, .int .i64 bt, .int .i64 (-(n : Int))] w fun e w' => e = .returned (.tuple #[]) ∧ ScrR lo b 0 (scD t bt n s) g ah w w' := by
  have HS := Lib.hid h
  have HOK := Lib.hid ok
  have k_11 := h.c11
  clear h ok
  obtain ⟨V, hV⟩ : ∃ v, -(n : Int) = v := ⟨_, rfl⟩
  have HCALL : ∀ W, ScrAt lo b 0 s g cc ah dh W → Calls Try.prog 87 #[.pointer (some ⟨b, 0, none⟩), .int .i64 t, .int .i64 bt, .int .i64 V] W fun e w' => e = .returned (.tuple #[]) ∧ ScrAt lo b 0 (scD t bt n s) g cc ah dh w' ∧ Ch (· = g) W w' := fun W hW => by
    rw [← hV]
    exact scrollD_c lo b s g cc ah dh W t bt n hW HOK.out htb hbt hn
  rw [hV]
  clear hV
  go_enter Try.func86, Try.ntmps86
  go_wp2_with fail
  refine (HCALL _ HS.out).mono ?_
  rintro e x1 ⟨rfl, ha, hc⟩
  have HA := Lib.hid ha
  have HC := Lib.hid hc
  have z_11 := ha.c11
  have z_f := ha.fz
  have z_l := ha.lt
  clear ha hc k_11
  go_wp2_with fail
  refine bodyPost_end (v := .tuple #[]) (by simp [results, Try.results86]) rfl ?_
  have hh : (scD t bt n s).hist = s.hist := (scD_same t bt s n).2.2.2.2.2.2.2.2.2.2
  have h9 := HA.out.hist HA.out.win HA.out.hb
  rw [hh] at h9
  have e9 : ({ scD t bt n s with hist := s.hist } : Scr) = scD t bt n s := by rw [← hh]
  rw [e9] at h9
  exact ⟨rfl, .mk h9 ((Upd.ofCh (S := fun k => k = g ∨ k ∈ blkOf ah) HC.out HS.out.lt (fun e => HS.out.gb e.symm) (fun i hi => .inl (.inl hi))).set1'' (by omega) (by omega) _)⟩
end
section
open Go.RowKit
theorem argA_bd {xs : List Int} {i : Nat} {d : Int} (h : ∀ x ∈ xs, -1 ≤ x ∧ x ≤ 9999) (h1 : -1 ≤ d) (h2 : d ≤ 9999) : -1 ≤ argA xs i d ∧ argA xs i d ≤ 9999 := by
  unfold argA
  split
  · rename_i hi
    have := h _ (List.getElem_mem hi)
    split <;> omega
  · omega
theorem csi65_c (lo b : Nat) (s : Scr) (g cc : Nat) (ah : Option Addr) (dh : Nat) (w : World) (kd : Int) (xs : List Int) (aa : Option Addr) (ca : Nat) (tx : ByteArray) (h : ScrAt lo b 0 s g cc ah dh w) (ok : ScrOK s) (hlo : lo ≤ w.heap.size) (ha : Sl intE 1 w aa xs) (hna : ∀ k ∈ blkOf aa, k ≠ b ∧ k ≠ g ∧ k ∉ blkOf ah) (hx8 : xs.length ≤ 8) (hxr : ∀ x ∈ xs, -1 ≤ x ∧ x ≤ 9999) :
    Calls Try.prog 70 #[.pointer (some ⟨b, 0, none⟩), .agg #[.int .i64 kd, .int .i64 65, .bool false, .slice aa xs.length ca, .string tx]] w fun e w' => e = .returned (.tuple #[]) ∧ ScrR lo b 0 (csiS s 65 xs) g ah w w' := by
  have HS := Lib.hid h
  have HOK := Lib.hid ok
  have HA := Lib.hid ha
  have HNA := Lib.hid hna
  have HXR := Lib.hid hxr
  have HX8 := Lib.hid hx8
  have hw1 := ok.w1
  have hw2 := ok.w2
  have hh1 := ok.h1
  have hh2 := ok.h2
  have hx := ok.hx
  have hy := ok.hy
  have hcur := ok.cur
  have hcn := ok.cn
  have hlt := h.lt
  obtain ⟨n, hn⟩ : ∃ n, arg1 xs 0 = n := ⟨_, rfl⟩
  obtain ⟨A0, hA0⟩ : ∃ a, argA xs 0 1 = a := ⟨_, rfl⟩
  have hAb : -1 ≤ A0 ∧ A0 ≤ 9999 := by rw [← hA0]; exact argA_bd HXR.out (by omega) (by omega)
  have hm : max 1 A0 = (n : Int) := by rw [← hn, ← hA0]; unfold arg1; omega
  have hn1 : 1 ≤ n := by omega
  have hn2 : n ≤ 9999 := by omega
  have HN := Lib.hid hn
  have HA0 := Lib.hid hA0
  obtain ⟨p, hp⟩ : ∃ p, s.y * s.w = p := ⟨_, rfl⟩
  obtain ⟨mx, hmx⟩ : ∃ m, min s.x (s.w - 1) = m := ⟨_, rfl⟩
  obtain ⟨cr, hcr⟩ : ∃ c, curS s = c := ⟨_, rfl⟩
  obtain ⟨pn, hpn⟩ : ∃ q, (s.y + 1) * s.w = q := ⟨_, rfl⟩
  obtain ⟨nn, hnn⟩ : ∃ q, s.w * s.h = q := ⟨_, rfl⟩
  have hpi : (s.y : Int) * (s.w : Int) = (p : Int) := by rw [← hp]; exact (Int.natCast_mul _ _).symm
  have hpni : ((s.y : Int) + 1) * (s.w : Int) = (pn : Int) := by rw [← hpn]; exact (Int.natCast_mul (s.y + 1) s.w).symm
  have hnni : (s.w : Int) * (s.h : Int) = (nn : Int) := by rw [← hnn]; exact (Int.natCast_mul _ _).symm
  have hmi : min (s.x : Int) ((s.w : Int) - 1) = (mx : Int) := by omega
  have hcri : (p : Int) + (mx : Int) = (cr : Int) := by rw [← hcr, ← hp, ← hmx]; unfold curS; omega
  have hn240 : nn ≤ 240 := by rw [← hnn]; exact Nat.mul_le_mul hw2 hh2
  rw [hcr, hp, hpn, hnn] at hcur
  rw [hnn] at hcn
  obtain ⟨hc1, hc2, hc3⟩ := hcur
  have HCN := Lib.hid hcn
  have HP := Lib.hid hp
  have HMX := Lib.hid hmx
  have HCR := Lib.hid hcr
  have HPN := Lib.hid hpn
  have HNN := Lib.hid hnn
  have hwA : IntKind.i64.wrap ((s.w : Int) - 1) = (s.w : Int) - 1 := IntWalk.i64_in _ ⟨by omega, by omega⟩
  have hwB : IntKind.i64.wrap (p : Int) = (p : Int) := IntWalk.i64_in _ ⟨by omega, by omega⟩
  have hwC : IntKind.i64.wrap (cr : Int) = (cr : Int) := IntWalk.i64_in _ ⟨by omega, by omega⟩
  have hwD : IntKind.i64.wrap (pn : Int) = (pn : Int) := IntWalk.i64_in _ ⟨by omega, by omega⟩
  have hwE : IntKind.i64.wrap (nn : Int) = (nn : Int) := IntWalk.i64_in _ ⟨by omega, by omega⟩
  have hwF : IntKind.i64.wrap ((s.y : Int) + 1) = (s.y : Int) + 1 := IntWalk.i64_in _ ⟨by omega, by omega⟩
  have hwG : IntKind.i64.wrap ((cr : Int) + 1) = (cr : Int) + 1 := IntWalk.i64_in _ ⟨by omega, by omega⟩
  obtain ⟨ln, hln⟩ : ∃ l, xs.length = l := ⟨_, rfl⟩
  have HLN := Lib.hid hln
  have HCALL : ∀ (i : Nat) (d : Int) (W : World), i ≤ 7 → Sl intE 1 W aa xs → Calls Try.prog 84 #[.agg #[.int .i64 kd, .int .i64 65, .bool false, .slice aa ln ca, .string tx], .int .i64 i, .int .i64 d] W fun e w' => e = .returned (.int .i64 (argA xs i d)) ∧ Below W.heap.size W w' := fun i d W hi hW => by
    rw [← hln]
    exact l03ArgG_c kd 65 false tx xs aa ca i d W hW hi hx8
  rw [hln]
  clear h ok ha hna hxr hx8 hn hA0 hp hmx hcr hpn hnn hcn hln
  go_enter Try.func70, Try.ntmps70
  go_wp2_with fail
  refine (HCALL 0 1 _ (by omega) (HA.out.alloc _)).mono ?_
  rintro e v0 ⟨rfl, hb0⟩
  rw [HA0.out]
  have HB0 : Hid (Below w.heap.size w v0) := Lib.hid (((Below.refl w.heap.size w).alloc (Nat.le_refl _) _).trans (hb0.mono (by simp)))
  have hz0 := HB0.out.size
  have q_l : w.heap.size < v0.heap.size := by have := hb0.size; simp at this; omega
  have q_0 : v0.cell? ⟨w.heap.size, 0, none⟩ = some (.int .i64 kd) := kC hb0 (by simp) (by simp [go_sem])
  have q_1 : v0.cell? ⟨w.heap.size, 1, none⟩ = some (.int .i64 65) := kC hb0 (by simp) (by simp [go_sem])
  have q_2 : v0.cell? ⟨w.heap.size, 2, none⟩ = some (.bool false) := kC hb0 (by simp) (by simp [go_sem])
  have q_3 : v0.cell? ⟨w.heap.size, 3, none⟩ = some (.slice aa ln ca) := kC hb0 (by simp) (by simp [go_sem])
  have q_4 : v0.cell? ⟨w.heap.size, 4, none⟩ = some (.string tx) := kC hb0 (by simp) (by simp [go_sem])
  clear hb0
  have q_b : ¬ w.heap.size = b := by omega
  have HA_nb : ∀ k ∈ blkOf aa, ¬ k = b := fun k hk => (HNA.out k hk).1
  have Hv0 := Lib.hid (HS.out.below HB0.out)
  have HA2 := Lib.hid (HA.out.keep HB0.out)
  have HUv0 : Hid (Upd b 0 (0 + 12) (fun k => k = g ∨ k ∈ blkOf ah) w v0) := Lib.hid (Upd.refl'.below HB0.out HS.out.lt)
  have HA2_nb := HA_nb
  have k_0 := Hv0.out.e0
  have k_1 := Hv0.out.e1
  have k_2 := Hv0.out.e2
  have k_3 := Hv0.out.e3
  have k_4 := Hv0.out.e4
  have k_5 := Hv0.out.e5
  have k_6 := Hv0.out.e6
  have k_7 := Hv0.out.e7
  have k_8 := Hv0.out.e8
  have k_9 := Hv0.out.e9
  have k_10 := Hv0.out.e10
  have k_11 := Hv0.out.e11
  have k_f := Hv0.out.fz
  have k_l := Hv0.out.lt
  go_upto_region 4 with fail
  have hSc1 := And.intro k_0 (And.intro k_2 k_3)
  refine wp_region_G (fun w' => w'.cell? ⟨b, 0, none⟩ = some (.int .i64 (s.w : Int)) ∧ w'.cell? ⟨b, 2, none⟩ = some (.int .i64 (s.x : Int)) ∧ w'.cell? ⟨b, 3, none⟩ = some (.int .i64 (s.y : Int))) (fun i => false) (by kernel_rfl) hSc1 ?_
  refine tW ?_ 0 rfl ?_ ?_; rotate_left
  · intro w' hSw; go_simp; try rfl
  try simp only [Act.put,j1,j2,j3,j4,j5,j6]
  refine tW ?_ 1 rfl ?_ ?_; rotate_left
  · intro w' hSw; go_simp; try rfl
  try simp only [Act.put,j1,j2,j3,j4,j5,j6]
  refine tW ?_ 2 rfl ?_ ?_; rotate_left
  · intro w' hSw; go_simp; try rfl
  try simp only [Act.put,j1,j2,j3,j4,j5,j6]
  refine tL ?_ 3 rfl hSc1 ?_ ?_; rotate_left
  · intro w' hSw; obtain ⟨s0, s1, s2⟩ := hSw; go_simp; try rfl
  try simp only [Act.put,j1,j2,j3,j4,j5,j6]
  refine tW ?_ 4 rfl ?_ ?_; rotate_left
  · intro w' hSw; go_simp; try rfl
  try simp only [Act.put,j1,j2,j3,j4,j5,j6]
  refine tW ?_ 5 rfl ?_ ?_; rotate_left
  · intro w' hSw; go_simp; try rfl
  try simp only [Act.put,j1,j2,j3,j4,j5,j6]
  refine tW ?_ 6 rfl ?_ ?_; rotate_left
  · intro w' hSw; go_simp; try rfl
  try simp only [Act.put,j1,j2,j3,j4,j5,j6]
  refine tL ?_ 7 rfl hSc1 ?_ ?_; rotate_left
  · intro w' hSw; obtain ⟨s0, s1, s2⟩ := hSw; go_simp; try rfl
  try simp only [Act.put,j1,j2,j3,j4,j5,j6]
  refine tW ?_ 8 rfl ?_ ?_; rotate_left
  · intro w' hSw; go_simp; try rfl
  try simp only [Act.put,j1,j2,j3,j4,j5,j6]
  refine tW ?_ 9 rfl ?_ ?_; rotate_left
  · intro w' hSw; go_simp; try rfl
  try simp only [Act.put,j1,j2,j3,j4,j5,j6]
  refine tW ?_ 10 rfl ?_ ?_; rotate_left
  · intro w' hSw; go_simp; try rfl
  try simp only [Act.put,j1,j2,j3,j4,j5,j6]
  refine tW ?_ 11 rfl ?_ ?_; rotate_left
  · intro w' hSw; go_simp; try rfl
  try simp only [Act.put,j1,j2,j3,j4,j5,j6]
  refine tL ?_ 12 rfl hSc1 ?_ ?_; rotate_left
  · intro w' hSw; obtain ⟨s0, s1, s2⟩ := hSw; go_simp; try rfl
  try simp only [Act.put,j1,j2,j3,j4,j5,j6]
  refine tW ?_ 13 rfl ?_ ?_; rotate_left
  · intro w' hSw; go_simp; try rfl
  try simp only [Act.put,j1,j2,j3,j4,j5,j6]
  refine tW ?_ 14 rfl ?_ ?_; rotate_left
  · intro w' hSw; go_simp; try rfl
  try simp only [Act.put,j1,j2,j3,j4,j5,j6]
  refine tW ?_ 15 rfl ?_ ?_; rotate_left
  · intro w' hSw; go_simp; try rfl
  try simp only [Act.put,j1,j2,j3,j4,j5,j6]
  refine tL ?_ 16 rfl hSc1 ?_ ?_; rotate_left
  · intro w' hSw; obtain ⟨s0, s1, s2⟩ := hSw; go_simp; try rfl
  try simp only [Act.put,j1,j2,j3,j4,j5,j6]
  refine tW ?_ 17 rfl ?_ ?_; rotate_left
  · intro w' hSw; go_simp; try rfl
  try simp only [Act.put,j1,j2,j3,j4,j5,j6]
  refine tW ?_ 18 rfl ?_ ?_; rotate_left
  · intro w' hSw; go_simp; try rfl
  try simp only [Act.put,j1,j2,j3,j4,j5,j6]
  refine tW ?_ 19 rfl ?_ ?_; rotate_left
  · intro w' hSw; go_simp; try rfl
  try simp only [Act.put,j1,j2,j3,j4,j5,j6]
  refine tW ?_ 20 rfl ?_ ?_; rotate_left
  · intro w' hSw; go_simp; try rfl
  try simp only [Act.put,j1,j2,j3,j4,j5,j6]
  refine wpAnyG_done (by kernel_rfl) ?_ _
  obtain ⟨v1, hv1⟩ : ∃ x, v0.drew = x := ⟨_, rfl⟩
  have HBv1 : Hid (Below v0.heap.size v0 v1) := Lib.hid (by rw [← hv1]; exact (Below.refl _ _).drew)
  rw [hv1]
  have hzv1 := HBv1.out.size
  have Hv1 := Lib.hid (Hv0.out.below HBv1.out)
  have HUv1 : Hid (Upd b 0 (0 + 12) (fun k => k = g ∨ k ∈ blkOf ah) w v1) := Lib.hid (HUv0.out.below HBv1.out Hv0.out.lt)
  have qn_0 := kC HBv1.out q_l q_0
  have qn_1 := kC HBv1.out q_l q_1
  have qn_2 := kC HBv1.out q_l q_2
  have qn_3 := kC HBv1.out q_l q_3
  have qn_4 := kC HBv1.out q_l q_4
  have qn_l := Nat.lt_of_lt_of_le q_l HBv1.out.size
  clear q_0 q_1 q_2 q_3 q_4 q_l
  have HA2n := Lib.hid (HA2.out.keep HBv1.out)
  clear k_f k_l k_0 k_1 k_2 k_3 k_4 k_5 k_6 k_7 k_8 k_9 k_10 k_11 hv1 hSc1
  have k_0 := Hv1.out.e0
  have k_1 := Hv1.out.e1
  have k_2 := Hv1.out.e2
  have k_3 := Hv1.out.e3
  have k_4 := Hv1.out.e4
  have k_5 := Hv1.out.e5
  have k_6 := Hv1.out.e6
  have k_7 := Hv1.out.e7
  have k_8 := Hv1.out.e8
  have k_9 := Hv1.out.e9
  have k_10 := Hv1.out.e10
  have k_11 := Hv1.out.e11
  have k_f := Hv1.out.fz
  have k_l := Hv1.out.lt
  go_wp2_with fail
  first | refine bodyPost_end (v := .tuple #[]) (by simp [results, Try.results70]) rfl ?_ | refine bodyPost_ret (v := .tuple #[]) (by simp [results, Try.results70]) rfl ?_
  refine ⟨rfl, ?_⟩
  unfold csiS
  rw [if_pos (by decide)]
  rw [HN.out]
  refine ScrR.mk (cc := cc) (dh := dh) ?_ ?_
  · repeat (with_reducible refine ScrAt.drew ?_)
    exact Hv1.out.setv3 _ (by omega)
  · repeat (with_reducible refine Upd.drew ?_)
    exact HUv1.out.set3 _
theorem csi66_c (lo b : Nat) (s : Scr) (g cc : Nat) (ah : Option Addr) (dh : Nat) (w : World) (kd : Int) (xs : List Int) (aa : Option Addr) (ca : Nat) (tx : ByteArray) (h : ScrAt lo b 0 s g cc ah dh w) (ok : ScrOK s) (hlo : lo ≤ w.heap.size) (ha : Sl intE 1 w aa xs) (hna : ∀ k ∈ blkOf aa, k ≠ b ∧ k ≠ g ∧ k ∉ blkOf ah) (hx8 : xs.length ≤ 8) (hxr : ∀ x ∈ xs, -1 ≤ x ∧ x ≤ 9999) :
    Calls Try.prog 70 #[.pointer (some ⟨b, 0, none⟩), .agg #[.int .i64 kd, .int .i64 66, .bool false, .slice aa xs.length ca, .string tx]] w fun e w' => e = .returned (.tuple #[]) ∧ ScrR lo b 0 (csiS s 66 xs) g ah w w' := by
  have HS := Lib.hid h
  have HOK := Lib.hid ok
  have HA := Lib.hid ha
  have HNA := Lib.hid hna
  have HXR := Lib.hid hxr
  have HX8 := Lib.hid hx8
  have hw1 := ok.w1
  have hw2 := ok.w2
  have hh1 := ok.h1
  have hh2 := ok.h2
  have hx := ok.hx
  have hy := ok.hy
  have hcur := ok.cur
  have hcn := ok.cn
  have hlt := h.lt
  obtain ⟨n, hn⟩ : ∃ n, arg1 xs 0 = n := ⟨_, rfl⟩
  obtain ⟨A0, hA0⟩ : ∃ a, argA xs 0 1 = a := ⟨_, rfl⟩
  have hAb : -1 ≤ A0 ∧ A0 ≤ 9999 := by rw [← hA0]; exact argA_bd HXR.out (by omega) (by omega)
  have hm : max 1 A0 = (n : Int) := by rw [← hn, ← hA0]; unfold arg1; omega
  have hn1 : 1 ≤ n := by omega
  have hn2 : n ≤ 9999 := by omega
  have HN := Lib.hid hn
  have HA0 := Lib.hid hA0
  obtain ⟨p, hp⟩ : ∃ p, s.y * s.w = p := ⟨_, rfl⟩
  obtain ⟨mx, hmx⟩ : ∃ m, min s.x (s.w - 1) = m := ⟨_, rfl⟩
  obtain ⟨cr, hcr⟩ : ∃ c, curS s = c := ⟨_, rfl⟩
  obtain ⟨pn, hpn⟩ : ∃ q, (s.y + 1) * s.w = q := ⟨_, rfl⟩
  obtain ⟨nn, hnn⟩ : ∃ q, s.w * s.h = q := ⟨_, rfl⟩
  have hpi : (s.y : Int) * (s.w : Int) = (p : Int) := by rw [← hp]; exact (Int.natCast_mul _ _).symm
  have hpni : ((s.y : Int) + 1) * (s.w : Int) = (pn : Int) := by rw [← hpn]; exact (Int.natCast_mul (s.y + 1) s.w).symm
  have hnni : (s.w : Int) * (s.h : Int) = (nn : Int) := by rw [← hnn]; exact (Int.natCast_mul _ _).symm
  have hmi : min (s.x : Int) ((s.w : Int) - 1) = (mx : Int) := by omega
  have hcri : (p : Int) + (mx : Int) = (cr : Int) := by rw [← hcr, ← hp, ← hmx]; unfold curS; omega
  have hn240 : nn ≤ 240 := by rw [← hnn]; exact Nat.mul_le_mul hw2 hh2
  rw [hcr, hp, hpn, hnn] at hcur
  rw [hnn] at hcn
  obtain ⟨hc1, hc2, hc3⟩ := hcur
  have HCN := Lib.hid hcn
  have HP := Lib.hid hp
  have HMX := Lib.hid hmx
  have HCR := Lib.hid hcr
  have HPN := Lib.hid hpn
  have HNN := Lib.hid hnn
  have hwA : IntKind.i64.wrap ((s.w : Int) - 1) = (s.w : Int) - 1 := IntWalk.i64_in _ ⟨by omega, by omega⟩
  have hwB : IntKind.i64.wrap (p : Int) = (p : Int) := IntWalk.i64_in _ ⟨by omega, by omega⟩
  have hwC : IntKind.i64.wrap (cr : Int) = (cr : Int) := IntWalk.i64_in _ ⟨by omega, by omega⟩
  have hwD : IntKind.i64.wrap (pn : Int) = (pn : Int) := IntWalk.i64_in _ ⟨by omega, by omega⟩
  have hwE : IntKind.i64.wrap (nn : Int) = (nn : Int) := IntWalk.i64_in _ ⟨by omega, by omega⟩
  have hwF : IntKind.i64.wrap ((s.y : Int) + 1) = (s.y : Int) + 1 := IntWalk.i64_in _ ⟨by omega, by omega⟩
  have hwG : IntKind.i64.wrap ((cr : Int) + 1) = (cr : Int) + 1 := IntWalk.i64_in _ ⟨by omega, by omega⟩
  obtain ⟨ln, hln⟩ : ∃ l, xs.length = l := ⟨_, rfl⟩
  have HLN := Lib.hid hln
  have HCALL : ∀ (i : Nat) (d : Int) (W : World), i ≤ 7 → Sl intE 1 W aa xs → Calls Try.prog 84 #[.agg #[.int .i64 kd, .int .i64 66, .bool false, .slice aa ln ca, .string tx], .int .i64 i, .int .i64 d] W fun e w' => e = .returned (.int .i64 (argA xs i d)) ∧ Below W.heap.size W w' := fun i d W hi hW => by
    rw [← hln]
    exact l03ArgG_c kd 66 false tx xs aa ca i d W hW hi hx8
  rw [hln]
  clear h ok ha hna hxr hx8 hn hA0 hp hmx hcr hpn hnn hcn hln
  go_enter Try.func70, Try.ntmps70
  go_wp2_with fail
  refine (HCALL 0 1 _ (by omega) (HA.out.alloc _)).mono ?_
  rintro e v0 ⟨rfl, hb0⟩
  rw [HA0.out]
  have HB0 : Hid (Below w.heap.size w v0) := Lib.hid (((Below.refl w.heap.size w).alloc (Nat.le_refl _) _).trans (hb0.mono (by simp)))
  have hz0 := HB0.out.size
  have q_l : w.heap.size < v0.heap.size := by have := hb0.size; simp at this; omega
  have q_0 : v0.cell? ⟨w.heap.size, 0, none⟩ = some (.int .i64 kd) := kC hb0 (by simp) (by simp [go_sem])
  have q_1 : v0.cell? ⟨w.heap.size, 1, none⟩ = some (.int .i64 66) := kC hb0 (by simp) (by simp [go_sem])
  have q_2 : v0.cell? ⟨w.heap.size, 2, none⟩ = some (.bool false) := kC hb0 (by simp) (by simp [go_sem])
  have q_3 : v0.cell? ⟨w.heap.size, 3, none⟩ = some (.slice aa ln ca) := kC hb0 (by simp) (by simp [go_sem])
  have q_4 : v0.cell? ⟨w.heap.size, 4, none⟩ = some (.string tx) := kC hb0 (by simp) (by simp [go_sem])
  clear hb0
  have q_b : ¬ w.heap.size = b := by omega
  have HA_nb : ∀ k ∈ blkOf aa, ¬ k = b := fun k hk => (HNA.out k hk).1
  have Hv0 := Lib.hid (HS.out.below HB0.out)
  have HA2 := Lib.hid (HA.out.keep HB0.out)
  have HUv0 : Hid (Upd b 0 (0 + 12) (fun k => k = g ∨ k ∈ blkOf ah) w v0) := Lib.hid (Upd.refl'.below HB0.out HS.out.lt)
  have HA2_nb := HA_nb
  have k_0 := Hv0.out.e0
  have k_1 := Hv0.out.e1
  have k_2 := Hv0.out.e2
  have k_3 := Hv0.out.e3
  have k_4 := Hv0.out.e4
  have k_5 := Hv0.out.e5
  have k_6 := Hv0.out.e6
  have k_7 := Hv0.out.e7
  have k_8 := Hv0.out.e8
  have k_9 := Hv0.out.e9
  have k_10 := Hv0.out.e10
  have k_11 := Hv0.out.e11
  have k_f := Hv0.out.fz
  have k_l := Hv0.out.lt
  go_upto_region 4 with fail
  have hSc1 := And.intro k_0 (And.intro k_2 k_3)
  refine wp_region_G (fun w' => w'.cell? ⟨b, 0, none⟩ = some (.int .i64 (s.w : Int)) ∧ w'.cell? ⟨b, 2, none⟩ = some (.int .i64 (s.x : Int)) ∧ w'.cell? ⟨b, 3, none⟩ = some (.int .i64 (s.y : Int))) (fun i => false) (by kernel_rfl) hSc1 ?_
  refine tW ?_ 0 rfl ?_ ?_; rotate_left
  · intro w' hSw; go_simp; try rfl
  try simp only [Act.put,j1,j2,j3,j4,j5,j6]
  refine tW ?_ 1 rfl ?_ ?_; rotate_left
  · intro w' hSw; go_simp; try rfl
  try simp only [Act.put,j1,j2,j3,j4,j5,j6]
  refine tW ?_ 2 rfl ?_ ?_; rotate_left
  · intro w' hSw; go_simp; try rfl
  try simp only [Act.put,j1,j2,j3,j4,j5,j6]
  refine tL ?_ 3 rfl hSc1 ?_ ?_; rotate_left
  · intro w' hSw; obtain ⟨s0, s1, s2⟩ := hSw; go_simp; try rfl
  try simp only [Act.put,j1,j2,j3,j4,j5,j6]
  refine tW ?_ 4 rfl ?_ ?_; rotate_left
  · intro w' hSw; go_simp; try rfl
  try simp only [Act.put,j1,j2,j3,j4,j5,j6]
  refine tW ?_ 5 rfl ?_ ?_; rotate_left
  · intro w' hSw; go_simp; try rfl
  try simp only [Act.put,j1,j2,j3,j4,j5,j6]
  refine tW ?_ 6 rfl ?_ ?_; rotate_left
  · intro w' hSw; go_simp; try rfl
  try simp only [Act.put,j1,j2,j3,j4,j5,j6]
  refine tL ?_ 7 rfl hSc1 ?_ ?_; rotate_left
  · intro w' hSw; obtain ⟨s0, s1, s2⟩ := hSw; go_simp; try rfl
  try simp only [Act.put,j1,j2,j3,j4,j5,j6]
  refine tW ?_ 8 rfl ?_ ?_; rotate_left
  · intro w' hSw; go_simp; try rfl
  try simp only [Act.put,j1,j2,j3,j4,j5,j6]
  refine tW ?_ 9 rfl ?_ ?_; rotate_left
  · intro w' hSw; go_simp; try rfl
  try simp only [Act.put,j1,j2,j3,j4,j5,j6]
  refine tW ?_ 10 rfl ?_ ?_; rotate_left
  · intro w' hSw; go_simp; try rfl
  try simp only [Act.put,j1,j2,j3,j4,j5,j6]
  refine tW ?_ 11 rfl ?_ ?_; rotate_left
  · intro w' hSw; go_simp; try rfl
  try simp only [Act.put,j1,j2,j3,j4,j5,j6]
  refine tL ?_ 12 rfl hSc1 ?_ ?_; rotate_left
  · intro w' hSw; obtain ⟨s0, s1, s2⟩ := hSw; go_simp; try rfl
  try simp only [Act.put,j1,j2,j3,j4,j5,j6]
  refine tW ?_ 13 rfl ?_ ?_; rotate_left
  · intro w' hSw; go_simp; try rfl
  try simp only [Act.put,j1,j2,j3,j4,j5,j6]
  refine tW ?_ 14 rfl ?_ ?_; rotate_left
  · intro w' hSw; go_simp; try rfl
  try simp only [Act.put,j1,j2,j3,j4,j5,j6]
  refine tW ?_ 15 rfl ?_ ?_; rotate_left
  · intro w' hSw; go_simp; try rfl
  try simp only [Act.put,j1,j2,j3,j4,j5,j6]
  refine tL ?_ 16 rfl hSc1 ?_ ?_; rotate_left
  · intro w' hSw; obtain ⟨s0, s1, s2⟩ := hSw; go_simp; try rfl
  try simp only [Act.put,j1,j2,j3,j4,j5,j6]
  refine tW ?_ 17 rfl ?_ ?_; rotate_left
  · intro w' hSw; go_simp; try rfl
  try simp only [Act.put,j1,j2,j3,j4,j5,j6]
  refine tW ?_ 18 rfl ?_ ?_; rotate_left
  · intro w' hSw; go_simp; try rfl
  try simp only [Act.put,j1,j2,j3,j4,j5,j6]
  refine tW ?_ 19 rfl ?_ ?_; rotate_left
  · intro w' hSw; go_simp; try rfl
  try simp only [Act.put,j1,j2,j3,j4,j5,j6]
  refine tW ?_ 20 rfl ?_ ?_; rotate_left
  · intro w' hSw; go_simp; try rfl
  try simp only [Act.put,j1,j2,j3,j4,j5,j6]
  refine wpAnyG_done (by kernel_rfl) ?_ _
  obtain ⟨v1, hv1⟩ : ∃ x, v0.drew = x := ⟨_, rfl⟩
  have HBv1 : Hid (Below v0.heap.size v0 v1) := Lib.hid (by rw [← hv1]; exact (Below.refl _ _).drew)
  rw [hv1]
  have hzv1 := HBv1.out.size
  have Hv1 := Lib.hid (Hv0.out.below HBv1.out)
  have HUv1 : Hid (Upd b 0 (0 + 12) (fun k => k = g ∨ k ∈ blkOf ah) w v1) := Lib.hid (HUv0.out.below HBv1.out Hv0.out.lt)
  have qn_0 := kC HBv1.out q_l q_0
  have qn_1 := kC HBv1.out q_l q_1
  have qn_2 := kC HBv1.out q_l q_2
  have qn_3 := kC HBv1.out q_l q_3
  have qn_4 := kC HBv1.out q_l q_4
  have qn_l := Nat.lt_of_lt_of_le q_l HBv1.out.size
  clear q_0 q_1 q_2 q_3 q_4 q_l
  have HA2n := Lib.hid (HA2.out.keep HBv1.out)
  clear k_f k_l k_0 k_1 k_2 k_3 k_4 k_5 k_6 k_7 k_8 k_9 k_10 k_11 hv1 hSc1
  have k_0 := Hv1.out.e0
  have k_1 := Hv1.out.e1
  have k_2 := Hv1.out.e2
  have k_3 := Hv1.out.e3
  have k_4 := Hv1.out.e4
  have k_5 := Hv1.out.e5
  have k_6 := Hv1.out.e6
  have k_7 := Hv1.out.e7
  have k_8 := Hv1.out.e8
  have k_9 := Hv1.out.e9
  have k_10 := Hv1.out.e10
  have k_11 := Hv1.out.e11
  have k_f := Hv1.out.fz
  have k_l := Hv1.out.lt
  have hwI : IntKind.i64.wrap ((s.h : Int) - 1) = (s.h : Int) - 1 := IntWalk.i64_in _ ⟨by omega, by omega⟩
  have hwJ : IntKind.i64.wrap ((s.y : Int) + (n : Int)) = (s.y : Int) + (n : Int) := IntWalk.i64_in _ ⟨by omega, by omega⟩
  go_upto_region 9 with fail
  have hSc2 := And.intro k_1 k_3
  refine wp_region_G (fun w' => w'.cell? ⟨b, 1, none⟩ = some (.int .i64 (s.h : Int)) ∧ w'.cell? ⟨b, 3, none⟩ = some (.int .i64 (s.y : Int))) (fun i => i == 15) (by kernel_rfl) hSc2 ?_
  refine tW ?_ 0 rfl ?_ ?_; rotate_left
  · intro w' hSw; go_simp; try rfl
  try simp only [Act.put,j1,j2,j3,j4,j5,j6]
  refine tW ?_ 1 rfl ?_ ?_; rotate_left
  · intro w' hSw; go_simp; try rfl
  try simp only [Act.put,j1,j2,j3,j4,j5,j6]
  refine tW ?_ 2 rfl ?_ ?_; rotate_left
  · intro w' hSw; go_simp; try rfl
  try simp only [Act.put,j1,j2,j3,j4,j5,j6]
  refine tW ?_ 3 rfl ?_ ?_; rotate_left
  · intro w' hSw; go_simp; try rfl
  try simp only [Act.put,j1,j2,j3,j4,j5,j6]
  refine tL ?_ 4 rfl hSc2 ?_ ?_; rotate_left
  · intro w' hSw; obtain ⟨s0, s1⟩ := hSw; go_simp; try rfl
  try simp only [Act.put,j1,j2,j3,j4,j5,j6]
  refine tW ?_ 5 rfl ?_ ?_; rotate_left
  · intro w' hSw; go_simp; try rfl
  try simp only [Act.put,j1,j2,j3,j4,j5,j6]
  refine tW ?_ 6 rfl ?_ ?_; rotate_left
  · intro w' hSw; go_simp; try rfl
  try simp only [Act.put,j1,j2,j3,j4,j5,j6]
  refine tW ?_ 7 rfl ?_ ?_; rotate_left
  · intro w' hSw; go_simp; try rfl
  try simp only [Act.put,j1,j2,j3,j4,j5,j6]
  refine tW ?_ 8 rfl ?_ ?_; rotate_left
  · intro w' hSw; go_simp; try rfl
  try simp only [Act.put,j1,j2,j3,j4,j5,j6]
  refine tL ?_ 9 rfl hSc2 ?_ ?_; rotate_left
  · intro w' hSw; obtain ⟨s0, s1⟩ := hSw; go_simp; try rfl
  try simp only [Act.put,j1,j2,j3,j4,j5,j6]
  refine tW ?_ 10 rfl ?_ ?_; rotate_left
  · intro w' hSw; go_simp; try rfl
  try simp only [Act.put,j1,j2,j3,j4,j5,j6]
  refine tW ?_ 11 rfl ?_ ?_; rotate_left
  · intro w' hSw; go_simp; try rfl
  try simp only [Act.put,j1,j2,j3,j4,j5,j6]
  refine tW ?_ 12 rfl ?_ ?_; rotate_left
  · intro w' hSw; go_simp; try rfl
  try simp only [Act.put,j1,j2,j3,j4,j5,j6]
  refine tW ?_ 13 rfl ?_ ?_; rotate_left
  · intro w' hSw; go_simp; try rfl
  try simp only [Act.put,j1,j2,j3,j4,j5,j6]
  refine tW ?_ 14 rfl ?_ ?_; rotate_left
  · intro w' hSw; go_simp; try rfl
  try simp only [Act.put,j1,j2,j3,j4,j5,j6]
  refine wpAnyG_one (i := 15) (by kernel_rfl) rfl hSc2 (fun K' hK => ?_)
  simp only [j1,j2,j3]
  go_simp
  refine hK.out _ _ (Or.inl rfl) ?_
  clear hK K'
  try simp only [Act.put,j1,j2,j3,j4,j5,j6]
  refine wpAnyG_done (by kernel_rfl) ?_ _
  go_wp2_with fail
  first | refine bodyPost_end (v := .tuple #[]) (by simp [results, Try.results70]) rfl ?_ | refine bodyPost_ret (v := .tuple #[]) (by simp [results, Try.results70]) rfl ?_
  refine ⟨rfl, ?_⟩
  unfold csiS
  rw [if_neg (by decide), if_pos (by decide)]
  rw [HN.out]
  refine ScrR.mk (cc := cc) (dh := dh) ?_ ?_
  · repeat (with_reducible refine ScrAt.drew ?_)
    exact Hv1.out.setv3 _ (by omega)
  · repeat (with_reducible refine Upd.drew ?_)
    exact HUv1.out.set3 _
theorem csi67_c (lo b : Nat) (s : Scr) (g cc : Nat) (ah : Option Addr) (dh : Nat) (w : World) (kd : Int) (xs : List Int) (aa : Option Addr) (ca : Nat) (tx : ByteArray) (h : ScrAt lo b 0 s g cc ah dh w) (ok : ScrOK s) (hlo : lo ≤ w.heap.size) (ha : Sl intE 1 w aa xs) (hna : ∀ k ∈ blkOf aa, k ≠ b ∧ k ≠ g ∧ k ∉ blkOf ah) (hx8 : xs.length ≤ 8) (hxr : ∀ x ∈ xs, -1 ≤ x ∧ x ≤ 9999) :
    Calls Try.prog 70 #[.pointer (some ⟨b, 0, none⟩), .agg #[.int .i64 kd, .int .i64 67, .bool false, .slice aa xs.length ca, .string tx]] w fun e w' => e = .returned (.tuple #[]) ∧ ScrR lo b 0 (csiS s 67 xs) g ah w w' := by
  have HS := Lib.hid h
  have HOK := Lib.hid ok
  have HA := Lib.hid ha
  have HNA := Lib.hid hna
  have HXR := Lib.hid hxr
  have HX8 := Lib.hid hx8
  have hw1 := ok.w1
  have hw2 := ok.w2
  have hh1 := ok.h1
  have hh2 := ok.h2
  have hx := ok.hx
  have hy := ok.hy
  have hcur := ok.cur
  have hcn := ok.cn
  have hlt := h.lt
  obtain ⟨n, hn⟩ : ∃ n, arg1 xs 0 = n := ⟨_, rfl⟩
  obtain ⟨A0, hA0⟩ : ∃ a, argA xs 0 1 = a := ⟨_, rfl⟩
  have hAb : -1 ≤ A0 ∧ A0 ≤ 9999 := by rw [← hA0]; exact argA_bd HXR.out (by omega) (by omega)
  have hm : max 1 A0 = (n : Int) := by rw [← hn, ← hA0]; unfold arg1; omega
  have hn1 : 1 ≤ n := by omega
  have hn2 : n ≤ 9999 := by omega
  have HN := Lib.hid hn
  have HA0 := Lib.hid hA0
  obtain ⟨p, hp⟩ : ∃ p, s.y * s.w = p := ⟨_, rfl⟩
  obtain ⟨mx, hmx⟩ : ∃ m, min s.x (s.w - 1) = m := ⟨_, rfl⟩
  obtain ⟨cr, hcr⟩ : ∃ c, curS s = c := ⟨_, rfl⟩
  obtain ⟨pn, hpn⟩ : ∃ q, (s.y + 1) * s.w = q := ⟨_, rfl⟩
  obtain ⟨nn, hnn⟩ : ∃ q, s.w * s.h = q := ⟨_, rfl⟩
  have hpi : (s.y : Int) * (s.w : Int) = (p : Int) := by rw [← hp]; exact (Int.natCast_mul _ _).symm
  have hpni : ((s.y : Int) + 1) * (s.w : Int) = (pn : Int) := by rw [← hpn]; exact (Int.natCast_mul (s.y + 1) s.w).symm
  have hnni : (s.w : Int) * (s.h : Int) = (nn : Int) := by rw [← hnn]; exact (Int.natCast_mul _ _).symm
  have hmi : min (s.x : Int) ((s.w : Int) - 1) = (mx : Int) := by omega
  have hcri : (p : Int) + (mx : Int) = (cr : Int) := by rw [← hcr, ← hp, ← hmx]; unfold curS; omega
  have hn240 : nn ≤ 240 := by rw [← hnn]; exact Nat.mul_le_mul hw2 hh2
  rw [hcr, hp, hpn, hnn] at hcur
  rw [hnn] at hcn
  obtain ⟨hc1, hc2, hc3⟩ := hcur
  have HCN := Lib.hid hcn
  have HP := Lib.hid hp
  have HMX := Lib.hid hmx
  have HCR := Lib.hid hcr
  have HPN := Lib.hid hpn
  have HNN := Lib.hid hnn
  have hwA : IntKind.i64.wrap ((s.w : Int) - 1) = (s.w : Int) - 1 := IntWalk.i64_in _ ⟨by omega, by omega⟩
  have hwB : IntKind.i64.wrap (p : Int) = (p : Int) := IntWalk.i64_in _ ⟨by omega, by omega⟩
  have hwC : IntKind.i64.wrap (cr : Int) = (cr : Int) := IntWalk.i64_in _ ⟨by omega, by omega⟩
  have hwD : IntKind.i64.wrap (pn : Int) = (pn : Int) := IntWalk.i64_in _ ⟨by omega, by omega⟩
  have hwE : IntKind.i64.wrap (nn : Int) = (nn : Int) := IntWalk.i64_in _ ⟨by omega, by omega⟩
  have hwF : IntKind.i64.wrap ((s.y : Int) + 1) = (s.y : Int) + 1 := IntWalk.i64_in _ ⟨by omega, by omega⟩
  have hwG : IntKind.i64.wrap ((cr : Int) + 1) = (cr : Int) + 1 := IntWalk.i64_in _ ⟨by omega, by omega⟩
  obtain ⟨ln, hln⟩ : ∃ l, xs.length = l := ⟨_, rfl⟩
  have HLN := Lib.hid hln
  have HCALL : ∀ (i : Nat) (d : Int) (W : World), i ≤ 7 → Sl intE 1 W aa xs → Calls Try.prog 84 #[.agg #[.int .i64 kd, .int .i64 67, .bool false, .slice aa ln ca, .string tx], .int .i64 i, .int .i64 d] W fun e w' => e = .returned (.int .i64 (argA xs i d)) ∧ Below W.heap.size W w' := fun i d W hi hW => by
    rw [← hln]
    exact l03ArgG_c kd 67 false tx xs aa ca i d W hW hi hx8
  rw [hln]
  clear h ok ha hna hxr hx8 hn hA0 hp hmx hcr hpn hnn hcn hln
  go_enter Try.func70, Try.ntmps70
  go_wp2_with fail
  refine (HCALL 0 1 _ (by omega) (HA.out.alloc _)).mono ?_
  rintro e v0 ⟨rfl, hb0⟩
  rw [HA0.out]
  have HB0 : Hid (Below w.heap.size w v0) := Lib.hid (((Below.refl w.heap.size w).alloc (Nat.le_refl _) _).trans (hb0.mono (by simp)))
  have hz0 := HB0.out.size
  have q_l : w.heap.size < v0.heap.size := by have := hb0.size; simp at this; omega
  have q_0 : v0.cell? ⟨w.heap.size, 0, none⟩ = some (.int .i64 kd) := kC hb0 (by simp) (by simp [go_sem])
  have q_1 : v0.cell? ⟨w.heap.size, 1, none⟩ = some (.int .i64 67) := kC hb0 (by simp) (by simp [go_sem])
  have q_2 : v0.cell? ⟨w.heap.size, 2, none⟩ = some (.bool false) := kC hb0 (by simp) (by simp [go_sem])
  have q_3 : v0.cell? ⟨w.heap.size, 3, none⟩ = some (.slice aa ln ca) := kC hb0 (by simp) (by simp [go_sem])
  have q_4 : v0.cell? ⟨w.heap.size, 4, none⟩ = some (.string tx) := kC hb0 (by simp) (by simp [go_sem])
  clear hb0
  have q_b : ¬ w.heap.size = b := by omega
  have HA_nb : ∀ k ∈ blkOf aa, ¬ k = b := fun k hk => (HNA.out k hk).1
  have Hv0 := Lib.hid (HS.out.below HB0.out)
  have HA2 := Lib.hid (HA.out.keep HB0.out)
  have HUv0 : Hid (Upd b 0 (0 + 12) (fun k => k = g ∨ k ∈ blkOf ah) w v0) := Lib.hid (Upd.refl'.below HB0.out HS.out.lt)
  have HA2_nb := HA_nb
  have k_0 := Hv0.out.e0
  have k_1 := Hv0.out.e1
  have k_2 := Hv0.out.e2
  have k_3 := Hv0.out.e3
  have k_4 := Hv0.out.e4
  have k_5 := Hv0.out.e5
  have k_6 := Hv0.out.e6
  have k_7 := Hv0.out.e7
  have k_8 := Hv0.out.e8
  have k_9 := Hv0.out.e9
  have k_10 := Hv0.out.e10
  have k_11 := Hv0.out.e11
  have k_f := Hv0.out.fz
  have k_l := Hv0.out.lt
  go_upto_region 4 with fail
  have hSc1 := And.intro k_0 (And.intro k_2 k_3)
  refine wp_region_G (fun w' => w'.cell? ⟨b, 0, none⟩ = some (.int .i64 (s.w : Int)) ∧ w'.cell? ⟨b, 2, none⟩ = some (.int .i64 (s.x : Int)) ∧ w'.cell? ⟨b, 3, none⟩ = some (.int .i64 (s.y : Int))) (fun i => false) (by kernel_rfl) hSc1 ?_
  refine tW ?_ 0 rfl ?_ ?_; rotate_left
  · intro w' hSw; go_simp; try rfl
  try simp only [Act.put,j1,j2,j3,j4,j5,j6]
  refine tW ?_ 1 rfl ?_ ?_; rotate_left
  · intro w' hSw; go_simp; try rfl
  try simp only [Act.put,j1,j2,j3,j4,j5,j6]
  refine tW ?_ 2 rfl ?_ ?_; rotate_left
  · intro w' hSw; go_simp; try rfl
  try simp only [Act.put,j1,j2,j3,j4,j5,j6]
  refine tL ?_ 3 rfl hSc1 ?_ ?_; rotate_left
  · intro w' hSw; obtain ⟨s0, s1, s2⟩ := hSw; go_simp; try rfl
  try simp only [Act.put,j1,j2,j3,j4,j5,j6]
  refine tW ?_ 4 rfl ?_ ?_; rotate_left
  · intro w' hSw; go_simp; try rfl
  try simp only [Act.put,j1,j2,j3,j4,j5,j6]
  refine tW ?_ 5 rfl ?_ ?_; rotate_left
  · intro w' hSw; go_simp; try rfl
  try simp only [Act.put,j1,j2,j3,j4,j5,j6]
  refine tW ?_ 6 rfl ?_ ?_; rotate_left
  · intro w' hSw; go_simp; try rfl
  try simp only [Act.put,j1,j2,j3,j4,j5,j6]
  refine tL ?_ 7 rfl hSc1 ?_ ?_; rotate_left
  · intro w' hSw; obtain ⟨s0, s1, s2⟩ := hSw; go_simp; try rfl
  try simp only [Act.put,j1,j2,j3,j4,j5,j6]
  refine tW ?_ 8 rfl ?_ ?_; rotate_left
  · intro w' hSw; go_simp; try rfl
  try simp only [Act.put,j1,j2,j3,j4,j5,j6]
  refine tW ?_ 9 rfl ?_ ?_; rotate_left
  · intro w' hSw; go_simp; try rfl
  try simp only [Act.put,j1,j2,j3,j4,j5,j6]
  refine tW ?_ 10 rfl ?_ ?_; rotate_left
  · intro w' hSw; go_simp; try rfl
  try simp only [Act.put,j1,j2,j3,j4,j5,j6]
  refine tW ?_ 11 rfl ?_ ?_; rotate_left
  · intro w' hSw; go_simp; try rfl
  try simp only [Act.put,j1,j2,j3,j4,j5,j6]
  refine tL ?_ 12 rfl hSc1 ?_ ?_; rotate_left
  · intro w' hSw; obtain ⟨s0, s1, s2⟩ := hSw; go_simp; try rfl
  try simp only [Act.put,j1,j2,j3,j4,j5,j6]
  refine tW ?_ 13 rfl ?_ ?_; rotate_left
  · intro w' hSw; go_simp; try rfl
  try simp only [Act.put,j1,j2,j3,j4,j5,j6]
  refine tW ?_ 14 rfl ?_ ?_; rotate_left
  · intro w' hSw; go_simp; try rfl
  try simp only [Act.put,j1,j2,j3,j4,j5,j6]
  refine tW ?_ 15 rfl ?_ ?_; rotate_left
  · intro w' hSw; go_simp; try rfl
  try simp only [Act.put,j1,j2,j3,j4,j5,j6]
  refine tL ?_ 16 rfl hSc1 ?_ ?_; rotate_left
  · intro w' hSw; obtain ⟨s0, s1, s2⟩ := hSw; go_simp; try rfl
  try simp only [Act.put,j1,j2,j3,j4,j5,j6]
  refine tW ?_ 17 rfl ?_ ?_; rotate_left
  · intro w' hSw; go_simp; try rfl
  try simp only [Act.put,j1,j2,j3,j4,j5,j6]
  refine tW ?_ 18 rfl ?_ ?_; rotate_left
  · intro w' hSw; go_simp; try rfl
  try simp only [Act.put,j1,j2,j3,j4,j5,j6]
  refine tW ?_ 19 rfl ?_ ?_; rotate_left
  · intro w' hSw; go_simp; try rfl
  try simp only [Act.put,j1,j2,j3,j4,j5,j6]
  refine tW ?_ 20 rfl ?_ ?_; rotate_left
  · intro w' hSw; go_simp; try rfl
  try simp only [Act.put,j1,j2,j3,j4,j5,j6]
  refine wpAnyG_done (by kernel_rfl) ?_ _
  obtain ⟨v1, hv1⟩ : ∃ x, v0.drew = x := ⟨_, rfl⟩
  have HBv1 : Hid (Below v0.heap.size v0 v1) := Lib.hid (by rw [← hv1]; exact (Below.refl _ _).drew)
  rw [hv1]
  have hzv1 := HBv1.out.size
  have Hv1 := Lib.hid (Hv0.out.below HBv1.out)
  have HUv1 : Hid (Upd b 0 (0 + 12) (fun k => k = g ∨ k ∈ blkOf ah) w v1) := Lib.hid (HUv0.out.below HBv1.out Hv0.out.lt)
  have qn_0 := kC HBv1.out q_l q_0
  have qn_1 := kC HBv1.out q_l q_1
  have qn_2 := kC HBv1.out q_l q_2
  have qn_3 := kC HBv1.out q_l q_3
  have qn_4 := kC HBv1.out q_l q_4
  have qn_l := Nat.lt_of_lt_of_le q_l HBv1.out.size
  clear q_0 q_1 q_2 q_3 q_4 q_l
  have HA2n := Lib.hid (HA2.out.keep HBv1.out)
  clear k_f k_l k_0 k_1 k_2 k_3 k_4 k_5 k_6 k_7 k_8 k_9 k_10 k_11 hv1 hSc1
  have k_0 := Hv1.out.e0
  have k_1 := Hv1.out.e1
  have k_2 := Hv1.out.e2
  have k_3 := Hv1.out.e3
  have k_4 := Hv1.out.e4
  have k_5 := Hv1.out.e5
  have k_6 := Hv1.out.e6
  have k_7 := Hv1.out.e7
  have k_8 := Hv1.out.e8
  have k_9 := Hv1.out.e9
  have k_10 := Hv1.out.e10
  have k_11 := Hv1.out.e11
  have k_f := Hv1.out.fz
  have k_l := Hv1.out.lt
  have hwJ : IntKind.i64.wrap ((s.x : Int) + (n : Int)) = (s.x : Int) + (n : Int) := IntWalk.i64_in _ ⟨by omega, by omega⟩
  go_upto_region 11 with fail
  have hSc2 := And.intro k_0 k_2
  refine wp_region_G (fun w' => w'.cell? ⟨b, 0, none⟩ = some (.int .i64 (s.w : Int)) ∧ w'.cell? ⟨b, 2, none⟩ = some (.int .i64 (s.x : Int))) (fun i => i == 15) (by kernel_rfl) hSc2 ?_
  refine tW ?_ 0 rfl ?_ ?_; rotate_left
  · intro w' hSw; go_simp; try rfl
  try simp only [Act.put,j1,j2,j3,j4,j5,j6]
  refine tW ?_ 1 rfl ?_ ?_; rotate_left
  · intro w' hSw; go_simp; try rfl
  try simp only [Act.put,j1,j2,j3,j4,j5,j6]
  refine tW ?_ 2 rfl ?_ ?_; rotate_left
  · intro w' hSw; go_simp; try rfl
  try simp only [Act.put,j1,j2,j3,j4,j5,j6]
  refine tW ?_ 3 rfl ?_ ?_; rotate_left
  · intro w' hSw; go_simp; try rfl
  try simp only [Act.put,j1,j2,j3,j4,j5,j6]
  refine tL ?_ 4 rfl hSc2 ?_ ?_; rotate_left
  · intro w' hSw; obtain ⟨s0, s1⟩ := hSw; go_simp; try rfl
  try simp only [Act.put,j1,j2,j3,j4,j5,j6]
  refine tW ?_ 5 rfl ?_ ?_; rotate_left
  · intro w' hSw; go_simp; try rfl
  try simp only [Act.put,j1,j2,j3,j4,j5,j6]
  refine tW ?_ 6 rfl ?_ ?_; rotate_left
  · intro w' hSw; go_simp; try rfl
  try simp only [Act.put,j1,j2,j3,j4,j5,j6]
  refine tW ?_ 7 rfl ?_ ?_; rotate_left
  · intro w' hSw; go_simp; try rfl
  try simp only [Act.put,j1,j2,j3,j4,j5,j6]
  refine tW ?_ 8 rfl ?_ ?_; rotate_left
  · intro w' hSw; go_simp; try rfl
  try simp only [Act.put,j1,j2,j3,j4,j5,j6]
  refine tL ?_ 9 rfl hSc2 ?_ ?_; rotate_left
  · intro w' hSw; obtain ⟨s0, s1⟩ := hSw; go_simp; try rfl
  try simp only [Act.put,j1,j2,j3,j4,j5,j6]
  refine tW ?_ 10 rfl ?_ ?_; rotate_left
  · intro w' hSw; go_simp; try rfl
  try simp only [Act.put,j1,j2,j3,j4,j5,j6]
  refine tW ?_ 11 rfl ?_ ?_; rotate_left
  · intro w' hSw; go_simp; try rfl
  try simp only [Act.put,j1,j2,j3,j4,j5,j6]
  refine tW ?_ 12 rfl ?_ ?_; rotate_left
  · intro w' hSw; go_simp; try rfl
  try simp only [Act.put,j1,j2,j3,j4,j5,j6]
  refine tW ?_ 13 rfl ?_ ?_; rotate_left
  · intro w' hSw; go_simp; try rfl
  try simp only [Act.put,j1,j2,j3,j4,j5,j6]
  refine tW ?_ 14 rfl ?_ ?_; rotate_left
  · intro w' hSw; go_simp; try rfl
  try simp only [Act.put,j1,j2,j3,j4,j5,j6]
  refine wpAnyG_one (i := 15) (by kernel_rfl) rfl hSc2 (fun K' hK => ?_)
  simp only [j1,j2,j3]
  go_simp
  refine hK.out _ _ (Or.inl rfl) ?_
  clear hK K'
  try simp only [Act.put,j1,j2,j3,j4,j5,j6]
  refine wpAnyG_done (by kernel_rfl) ?_ _
  go_wp2_with fail
  first | refine bodyPost_end (v := .tuple #[]) (by simp [results, Try.results70]) rfl ?_ | refine bodyPost_ret (v := .tuple #[]) (by simp [results, Try.results70]) rfl ?_
  refine ⟨rfl, ?_⟩
  unfold csiS
  rw [if_neg (by decide), if_neg (by decide), if_pos (by decide)]
  rw [HN.out]
  refine ScrR.mk (cc := cc) (dh := dh) ?_ ?_
  · repeat (with_reducible refine ScrAt.drew ?_)
    exact Hv1.out.setv2 _ (by omega)
  · repeat (with_reducible refine Upd.drew ?_)
    exact HUv1.out.set2 _
theorem csi68_c (lo b : Nat) (s : Scr) (g cc : Nat) (ah : Option Addr) (dh : Nat) (w : World) (kd : Int) (xs : List Int) (aa : Option Addr) (ca : Nat) (tx : ByteArray) (h : ScrAt lo b 0 s g cc ah dh w) (ok : ScrOK s) (hlo : lo ≤ w.heap.size) (ha : Sl intE 1 w aa xs) (hna : ∀ k ∈ blkOf aa, k ≠ b ∧ k ≠ g ∧ k ∉ blkOf ah) (hx8 : xs.length ≤ 8) (hxr : ∀ x ∈ xs, -1 ≤ x ∧ x ≤ 9999) :
    Calls Try.prog 70 #[.pointer (some ⟨b, 0, none⟩), .agg #[.int .i64 kd, .int .i64 68, .bool false, .slice aa xs.length ca, .string tx]] w fun e w' => e = .returned (.tuple #[]) ∧ ScrR lo b 0 (csiS s 68 xs) g ah w w' := by
  have HS := Lib.hid h
  have HOK := Lib.hid ok
  have HA := Lib.hid ha
  have HNA := Lib.hid hna
  have HXR := Lib.hid hxr
  have HX8 := Lib.hid hx8
  have hw1 := ok.w1
  have hw2 := ok.w2
  have hh1 := ok.h1
  have hh2 := ok.h2
  have hx := ok.hx
  have hy := ok.hy
  have hcur := ok.cur
  have hcn := ok.cn
  have hlt := h.lt
  obtain ⟨n, hn⟩ : ∃ n, arg1 xs 0 = n := ⟨_, rfl⟩
  obtain ⟨A0, hA0⟩ : ∃ a, argA xs 0 1 = a := ⟨_, rfl⟩
  have hAb : -1 ≤ A0 ∧ A0 ≤ 9999 := by rw [← hA0]; exact argA_bd HXR.out (by omega) (by omega)
  have hm : max 1 A0 = (n : Int) := by rw [← hn, ← hA0]; unfold arg1; omega
  have hn1 : 1 ≤ n := by omega
  have hn2 : n ≤ 9999 := by omega
  have HN := Lib.hid hn
  have HA0 := Lib.hid hA0
  obtain ⟨p, hp⟩ : ∃ p, s.y * s.w = p := ⟨_, rfl⟩
  obtain ⟨mx, hmx⟩ : ∃ m, min s.x (s.w - 1) = m := ⟨_, rfl⟩
  obtain ⟨cr, hcr⟩ : ∃ c, curS s = c := ⟨_, rfl⟩
  obtain ⟨pn, hpn⟩ : ∃ q, (s.y + 1) * s.w = q := ⟨_, rfl⟩
  obtain ⟨nn, hnn⟩ : ∃ q, s.w * s.h = q := ⟨_, rfl⟩
  have hpi : (s.y : Int) * (s.w : Int) = (p : Int) := by rw [← hp]; exact (Int.natCast_mul _ _).symm
  have hpni : ((s.y : Int) + 1) * (s.w : Int) = (pn : Int) := by rw [← hpn]; exact (Int.natCast_mul (s.y + 1) s.w).symm
  have hnni : (s.w : Int) * (s.h : Int) = (nn : Int) := by rw [← hnn]; exact (Int.natCast_mul _ _).symm
  have hmi : min (s.x : Int) ((s.w : Int) - 1) = (mx : Int) := by omega
  have hcri : (p : Int) + (mx : Int) = (cr : Int) := by rw [← hcr, ← hp, ← hmx]; unfold curS; omega
  have hn240 : nn ≤ 240 := by rw [← hnn]; exact Nat.mul_le_mul hw2 hh2
  rw [hcr, hp, hpn, hnn] at hcur
  rw [hnn] at hcn
  obtain ⟨hc1, hc2, hc3⟩ := hcur
  have HCN := Lib.hid hcn
  have HP := Lib.hid hp
  have HMX := Lib.hid hmx
  have HCR := Lib.hid hcr
  have HPN := Lib.hid hpn
  have HNN := Lib.hid hnn
  have hwA : IntKind.i64.wrap ((s.w : Int) - 1) = (s.w : Int) - 1 := IntWalk.i64_in _ ⟨by omega, by omega⟩
  have hwB : IntKind.i64.wrap (p : Int) = (p : Int) := IntWalk.i64_in _ ⟨by omega, by omega⟩
  have hwC : IntKind.i64.wrap (cr : Int) = (cr : Int) := IntWalk.i64_in _ ⟨by omega, by omega⟩
  have hwD : IntKind.i64.wrap (pn : Int) = (pn : Int) := IntWalk.i64_in _ ⟨by omega, by omega⟩
  have hwE : IntKind.i64.wrap (nn : Int) = (nn : Int) := IntWalk.i64_in _ ⟨by omega, by omega⟩
  have hwF : IntKind.i64.wrap ((s.y : Int) + 1) = (s.y : Int) + 1 := IntWalk.i64_in _ ⟨by omega, by omega⟩
  have hwG : IntKind.i64.wrap ((cr : Int) + 1) = (cr : Int) + 1 := IntWalk.i64_in _ ⟨by omega, by omega⟩
  obtain ⟨ln, hln⟩ : ∃ l, xs.length = l := ⟨_, rfl⟩
  have HLN := Lib.hid hln
  have HCALL : ∀ (i : Nat) (d : Int) (W : World), i ≤ 7 → Sl intE 1 W aa xs → Calls Try.prog 84 #[.agg #[.int .i64 kd, .int .i64 68, .bool false, .slice aa ln ca, .string tx], .int .i64 i, .int .i64 d] W fun e w' => e = .returned (.int .i64 (argA xs i d)) ∧ Below W.heap.size W w' := fun i d W hi hW => by
    rw [← hln]
    exact l03ArgG_c kd 68 false tx xs aa ca i d W hW hi hx8
  rw [hln]
  clear h ok ha hna hxr hx8 hn hA0 hp hmx hcr hpn hnn hcn hln
  go_enter Try.func70, Try.ntmps70
  go_wp2_with fail
  refine (HCALL 0 1 _ (by omega) (HA.out.alloc _)).mono ?_
  rintro e v0 ⟨rfl, hb0⟩
  rw [HA0.out]
  have HB0 : Hid (Below w.heap.size w v0) := Lib.hid (((Below.refl w.heap.size w).alloc (Nat.le_refl _) _).trans (hb0.mono (by simp)))
  have hz0 := HB0.out.size
  have q_l : w.heap.size < v0.heap.size := by have := hb0.size; simp at this; omega
  have q_0 : v0.cell? ⟨w.heap.size, 0, none⟩ = some (.int .i64 kd) := kC hb0 (by simp) (by simp [go_sem])
  have q_1 : v0.cell? ⟨w.heap.size, 1, none⟩ = some (.int .i64 68) := kC hb0 (by simp) (by simp [go_sem])
  have q_2 : v0.cell? ⟨w.heap.size, 2, none⟩ = some (.bool false) := kC hb0 (by simp) (by simp [go_sem])
  have q_3 : v0.cell? ⟨w.heap.size, 3, none⟩ = some (.slice aa ln ca) := kC hb0 (by simp) (by simp [go_sem])
  have q_4 : v0.cell? ⟨w.heap.size, 4, none⟩ = some (.string tx) := kC hb0 (by simp) (by simp [go_sem])
  clear hb0
  have q_b : ¬ w.heap.size = b := by omega
  have HA_nb : ∀ k ∈ blkOf aa, ¬ k = b := fun k hk => (HNA.out k hk).1
  have Hv0 := Lib.hid (HS.out.below HB0.out)
  have HA2 := Lib.hid (HA.out.keep HB0.out)
  have HUv0 : Hid (Upd b 0 (0 + 12) (fun k => k = g ∨ k ∈ blkOf ah) w v0) := Lib.hid (Upd.refl'.below HB0.out HS.out.lt)
  have HA2_nb := HA_nb
  have k_0 := Hv0.out.e0
  have k_1 := Hv0.out.e1
  have k_2 := Hv0.out.e2
  have k_3 := Hv0.out.e3
  have k_4 := Hv0.out.e4
  have k_5 := Hv0.out.e5
  have k_6 := Hv0.out.e6
  have k_7 := Hv0.out.e7
  have k_8 := Hv0.out.e8
  have k_9 := Hv0.out.e9
  have k_10 := Hv0.out.e10
  have k_11 := Hv0.out.e11
  have k_f := Hv0.out.fz
  have k_l := Hv0.out.lt
  go_upto_region 4 with fail
  have hSc1 := And.intro k_0 (And.intro k_2 k_3)
  refine wp_region_G (fun w' => w'.cell? ⟨b, 0, none⟩ = some (.int .i64 (s.w : Int)) ∧ w'.cell? ⟨b, 2, none⟩ = some (.int .i64 (s.x : Int)) ∧ w'.cell? ⟨b, 3, none⟩ = some (.int .i64 (s.y : Int))) (fun i => false) (by kernel_rfl) hSc1 ?_
  refine tW ?_ 0 rfl ?_ ?_; rotate_left
  · intro w' hSw; go_simp; try rfl
  try simp only [Act.put,j1,j2,j3,j4,j5,j6]
  refine tW ?_ 1 rfl ?_ ?_; rotate_left
  · intro w' hSw; go_simp; try rfl
  try simp only [Act.put,j1,j2,j3,j4,j5,j6]
  refine tW ?_ 2 rfl ?_ ?_; rotate_left
  · intro w' hSw; go_simp; try rfl
  try simp only [Act.put,j1,j2,j3,j4,j5,j6]
  refine tL ?_ 3 rfl hSc1 ?_ ?_; rotate_left
  · intro w' hSw; obtain ⟨s0, s1, s2⟩ := hSw; go_simp; try rfl
  try simp only [Act.put,j1,j2,j3,j4,j5,j6]
  refine tW ?_ 4 rfl ?_ ?_; rotate_left
  · intro w' hSw; go_simp; try rfl
  try simp only [Act.put,j1,j2,j3,j4,j5,j6]
  refine tW ?_ 5 rfl ?_ ?_; rotate_left
  · intro w' hSw; go_simp; try rfl
  try simp only [Act.put,j1,j2,j3,j4,j5,j6]
  refine tW ?_ 6 rfl ?_ ?_; rotate_left
  · intro w' hSw; go_simp; try rfl
  try simp only [Act.put,j1,j2,j3,j4,j5,j6]
  refine tL ?_ 7 rfl hSc1 ?_ ?_; rotate_left
  · intro w' hSw; obtain ⟨s0, s1, s2⟩ := hSw; go_simp; try rfl
  try simp only [Act.put,j1,j2,j3,j4,j5,j6]
  refine tW ?_ 8 rfl ?_ ?_; rotate_left
  · intro w' hSw; go_simp; try rfl
  try simp only [Act.put,j1,j2,j3,j4,j5,j6]
  refine tW ?_ 9 rfl ?_ ?_; rotate_left
  · intro w' hSw; go_simp; try rfl
  try simp only [Act.put,j1,j2,j3,j4,j5,j6]
  refine tW ?_ 10 rfl ?_ ?_; rotate_left
  · intro w' hSw; go_simp; try rfl
  try simp only [Act.put,j1,j2,j3,j4,j5,j6]
  refine tW ?_ 11 rfl ?_ ?_; rotate_left
  · intro w' hSw; go_simp; try rfl
  try simp only [Act.put,j1,j2,j3,j4,j5,j6]
  refine tL ?_ 12 rfl hSc1 ?_ ?_; rotate_left
  · intro w' hSw; obtain ⟨s0, s1, s2⟩ := hSw; go_simp; try rfl
  try simp only [Act.put,j1,j2,j3,j4,j5,j6]
  refine tW ?_ 13 rfl ?_ ?_; rotate_left
  · intro w' hSw; go_simp; try rfl
  try simp only [Act.put,j1,j2,j3,j4,j5,j6]
  refine tW ?_ 14 rfl ?_ ?_; rotate_left
  · intro w' hSw; go_simp; try rfl
  try simp only [Act.put,j1,j2,j3,j4,j5,j6]
  refine tW ?_ 15 rfl ?_ ?_; rotate_left
  · intro w' hSw; go_simp; try rfl
  try simp only [Act.put,j1,j2,j3,j4,j5,j6]
  refine tL ?_ 16 rfl hSc1 ?_ ?_; rotate_left
  · intro w' hSw; obtain ⟨s0, s1, s2⟩ := hSw; go_simp; try rfl
  try simp only [Act.put,j1,j2,j3,j4,j5,j6]
  refine tW ?_ 17 rfl ?_ ?_; rotate_left
  · intro w' hSw; go_simp; try rfl
  try simp only [Act.put,j1,j2,j3,j4,j5,j6]
  refine tW ?_ 18 rfl ?_ ?_; rotate_left
  · intro w' hSw; go_simp; try rfl
  try simp only [Act.put,j1,j2,j3,j4,j5,j6]
  refine tW ?_ 19 rfl ?_ ?_; rotate_left
  · intro w' hSw; go_simp; try rfl
  try simp only [Act.put,j1,j2,j3,j4,j5,j6]
  refine tW ?_ 20 rfl ?_ ?_; rotate_left
  · intro w' hSw; go_simp; try rfl
  try simp only [Act.put,j1,j2,j3,j4,j5,j6]
  refine wpAnyG_done (by kernel_rfl) ?_ _
  obtain ⟨v1, hv1⟩ : ∃ x, v0.drew = x := ⟨_, rfl⟩
  have HBv1 : Hid (Below v0.heap.size v0 v1) := Lib.hid (by rw [← hv1]; exact (Below.refl _ _).drew)
  rw [hv1]
  have hzv1 := HBv1.out.size
  have Hv1 := Lib.hid (Hv0.out.below HBv1.out)
  have HUv1 : Hid (Upd b 0 (0 + 12) (fun k => k = g ∨ k ∈ blkOf ah) w v1) := Lib.hid (HUv0.out.below HBv1.out Hv0.out.lt)
  have qn_0 := kC HBv1.out q_l q_0
  have qn_1 := kC HBv1.out q_l q_1
  have qn_2 := kC HBv1.out q_l q_2
  have qn_3 := kC HBv1.out q_l q_3
  have qn_4 := kC HBv1.out q_l q_4
  have qn_l := Nat.lt_of_lt_of_le q_l HBv1.out.size
  clear q_0 q_1 q_2 q_3 q_4 q_l
  have HA2n := Lib.hid (HA2.out.keep HBv1.out)
  clear k_f k_l k_0 k_1 k_2 k_3 k_4 k_5 k_6 k_7 k_8 k_9 k_10 k_11 hv1 hSc1
  have k_0 := Hv1.out.e0
  have k_1 := Hv1.out.e1
  have k_2 := Hv1.out.e2
  have k_3 := Hv1.out.e3
  have k_4 := Hv1.out.e4
  have k_5 := Hv1.out.e5
  have k_6 := Hv1.out.e6
  have k_7 := Hv1.out.e7
  have k_8 := Hv1.out.e8
  have k_9 := Hv1.out.e9
  have k_10 := Hv1.out.e10
  have k_11 := Hv1.out.e11
  have k_f := Hv1.out.fz
  have k_l := Hv1.out.lt
  have hwJ : IntKind.i64.wrap ((mx : Int) - (n : Int)) = (mx : Int) - (n : Int) := IntWalk.i64_in _ ⟨by omega, by omega⟩
  go_upto_region 13 with fail
  have hSc2 := And.intro k_0 k_2
  refine wp_region_G (fun w' => w'.cell? ⟨b, 0, none⟩ = some (.int .i64 (s.w : Int)) ∧ w'.cell? ⟨b, 2, none⟩ = some (.int .i64 (s.x : Int))) (fun i => i == 16) (by kernel_rfl) hSc2 ?_
  refine tW ?_ 0 rfl ?_ ?_; rotate_left
  · intro w' hSw; go_simp; try rfl
  try simp only [Act.put,j1,j2,j3,j4,j5,j6]
  refine tW ?_ 1 rfl ?_ ?_; rotate_left
  · intro w' hSw; go_simp; try rfl
  try simp only [Act.put,j1,j2,j3,j4,j5,j6]
  refine tW ?_ 2 rfl ?_ ?_; rotate_left
  · intro w' hSw; go_simp; try rfl
  try simp only [Act.put,j1,j2,j3,j4,j5,j6]
  refine tW ?_ 3 rfl ?_ ?_; rotate_left
  · intro w' hSw; go_simp; try rfl
  try simp only [Act.put,j1,j2,j3,j4,j5,j6]
  refine tL ?_ 4 rfl hSc2 ?_ ?_; rotate_left
  · intro w' hSw; obtain ⟨s0, s1⟩ := hSw; go_simp; try rfl
  try simp only [Act.put,j1,j2,j3,j4,j5,j6]
  refine tW ?_ 5 rfl ?_ ?_; rotate_left
  · intro w' hSw; go_simp; try rfl
  try simp only [Act.put,j1,j2,j3,j4,j5,j6]
  refine tW ?_ 6 rfl ?_ ?_; rotate_left
  · intro w' hSw; go_simp; try rfl
  try simp only [Act.put,j1,j2,j3,j4,j5,j6]
  refine tW ?_ 7 rfl ?_ ?_; rotate_left
  · intro w' hSw; go_simp; try rfl
  try simp only [Act.put,j1,j2,j3,j4,j5,j6]
  refine tL ?_ 8 rfl hSc2 ?_ ?_; rotate_left
  · intro w' hSw; obtain ⟨s0, s1⟩ := hSw; go_simp; try rfl
  try simp only [Act.put,j1,j2,j3,j4,j5,j6]
  refine tW ?_ 9 rfl ?_ ?_; rotate_left
  · intro w' hSw; go_simp; try rfl
  try simp only [Act.put,j1,j2,j3,j4,j5,j6]
  refine tW ?_ 10 rfl ?_ ?_; rotate_left
  · intro w' hSw; go_simp; try rfl
  try simp only [Act.put,j1,j2,j3,j4,j5,j6]
  refine tW ?_ 11 rfl ?_ ?_; rotate_left
  · intro w' hSw; go_simp; try rfl
  try simp only [Act.put,j1,j2,j3,j4,j5,j6]
  refine tW ?_ 12 rfl ?_ ?_; rotate_left
  · intro w' hSw; go_simp; try rfl
  try simp only [Act.put,j1,j2,j3,j4,j5,j6]
  refine tW ?_ 13 rfl ?_ ?_; rotate_left
  · intro w' hSw; go_simp; try rfl
  try simp only [Act.put,j1,j2,j3,j4,j5,j6]
  refine tW ?_ 14 rfl ?_ ?_; rotate_left
  · intro w' hSw; go_simp; try rfl
  try simp only [Act.put,j1,j2,j3,j4,j5,j6]
  refine tW ?_ 15 rfl ?_ ?_; rotate_left
  · intro w' hSw; go_simp; try rfl
  try simp only [Act.put,j1,j2,j3,j4,j5,j6]
  refine wpAnyG_one (i := 16) (by kernel_rfl) rfl hSc2 (fun K' hK => ?_)
  simp only [j1,j2,j3]
  go_simp
  refine hK.out _ _ (Or.inl rfl) ?_
  clear hK K'
  try simp only [Act.put,j1,j2,j3,j4,j5,j6]
  refine wpAnyG_done (by kernel_rfl) ?_ _
  go_wp2_with fail
  first | refine bodyPost_end (v := .tuple #[]) (by simp [results, Try.results70]) rfl ?_ | refine bodyPost_ret (v := .tuple #[]) (by simp [results, Try.results70]) rfl ?_
  refine ⟨rfl, ?_⟩
  unfold csiS
  rw [if_neg (by decide), if_neg (by decide), if_neg (by decide), if_pos (by decide)]
  rw [HN.out, HMX.out]
  refine ScrR.mk (cc := cc) (dh := dh) ?_ ?_
  · repeat (with_reducible refine ScrAt.drew ?_)
    exact Hv1.out.setv2 _ (by omega)
  · repeat (with_reducible refine Upd.drew ?_)
    exact HUv1.out.set2 _
end
section
open Go.RowKit
theorem csi72_c (lo b : Nat) (s : Scr) (g cc : Nat) (ah : Option Addr) (dh : Nat) (w : World) (kd : Int) (xs : List Int) (aa : Option Addr) (ca : Nat) (tx : ByteArray) (h : ScrAt lo b 0 s g cc ah dh w) (ok : ScrOK s) (hlo : lo ≤ w.heap.size) (ha : Sl intE 1 w aa xs) (hna : ∀ k ∈ blkOf aa, k ≠ b ∧ k ≠ g ∧ k ∉ blkOf ah) (hx8 : xs.length ≤ 8) (hxr : ∀ x ∈ xs, -1 ≤ x ∧ x ≤ 9999) :
    Calls Try.prog 70 #[.pointer (some ⟨b, 0, none⟩), .agg #[.int .i64 kd, .int .i64 72, .bool false, .slice aa xs.length ca, .string tx]] w fun e w' => e = .returned (.tuple #[]) ∧ ScrR lo b 0 (csiS s 72 xs) g ah w w' := by
  have HS := Lib.hid h
  have HOK := Lib.hid ok
  have HA := Lib.hid ha
  have HNA := Lib.hid hna
  have HXR := Lib.hid hxr
  have HX8 := Lib.hid hx8
  have hw1 := ok.w1
  have hw2 := ok.w2
  have hh1 := ok.h1
  have hh2 := ok.h2
  have hx := ok.hx
  have hy := ok.hy
  have hcur := ok.cur
  have hcn := ok.cn
  have hlt := h.lt
  obtain ⟨n, hn⟩ : ∃ n, arg1 xs 0 = n := ⟨_, rfl⟩
  obtain ⟨A0, hA0⟩ : ∃ a, argA xs 0 1 = a := ⟨_, rfl⟩
  have hAb : -1 ≤ A0 ∧ A0 ≤ 9999 := by rw [← hA0]; exact argA_bd HXR.out (by omega) (by omega)
  have hm : max 1 A0 = (n : Int) := by rw [← hn, ← hA0]; unfold arg1; omega
  have hn1 : 1 ≤ n := by omega
  have hn2 : n ≤ 9999 := by omega
  have HN := Lib.hid hn
  have HA0 := Lib.hid hA0
  obtain ⟨p, hp⟩ : ∃ p, s.y * s.w = p := ⟨_, rfl⟩
  obtain ⟨mx, hmx⟩ : ∃ m, min s.x (s.w - 1) = m := ⟨_, rfl⟩
  obtain ⟨cr, hcr⟩ : ∃ c, curS s = c := ⟨_, rfl⟩
  obtain ⟨pn, hpn⟩ : ∃ q, (s.y + 1) * s.w = q := ⟨_, rfl⟩
  obtain ⟨nn, hnn⟩ : ∃ q, s.w * s.h = q := ⟨_, rfl⟩
  have hpi : (s.y : Int) * (s.w : Int) = (p : Int) := by rw [← hp]; exact (Int.natCast_mul _ _).symm
  have hpni : ((s.y : Int) + 1) * (s.w : Int) = (pn : Int) := by rw [← hpn]; exact (Int.natCast_mul (s.y + 1) s.w).symm
  have hnni : (s.w : Int) * (s.h : Int) = (nn : Int) := by rw [← hnn]; exact (Int.natCast_mul _ _).symm
  have hmi : min (s.x : Int) ((s.w : Int) - 1) = (mx : Int) := by omega
  have hcri : (p : Int) + (mx : Int) = (cr : Int) := by rw [← hcr, ← hp, ← hmx]; unfold curS; omega
  have hn240 : nn ≤ 240 := by rw [← hnn]; exact Nat.mul_le_mul hw2 hh2
  rw [hcr, hp, hpn, hnn] at hcur
  rw [hnn] at hcn
  obtain ⟨hc1, hc2, hc3⟩ := hcur
  have HCN := Lib.hid hcn
  have HP := Lib.hid hp
  have HMX := Lib.hid hmx
  have HCR := Lib.hid hcr
  have HPN := Lib.hid hpn
  have HNN := Lib.hid hnn
  have hwA : IntKind.i64.wrap ((s.w : Int) - 1) = (s.w : Int) - 1 := IntWalk.i64_in _ ⟨by omega, by omega⟩
  have hwB : IntKind.i64.wrap (p : Int) = (p : Int) := IntWalk.i64_in _ ⟨by omega, by omega⟩
  have hwC : IntKind.i64.wrap (cr : Int) = (cr : Int) := IntWalk.i64_in _ ⟨by omega, by omega⟩
  have hwD : IntKind.i64.wrap (pn : Int) = (pn : Int) := IntWalk.i64_in _ ⟨by omega, by omega⟩
  have hwE : IntKind.i64.wrap (nn : Int) = (nn : Int) := IntWalk.i64_in _ ⟨by omega, by omega⟩
  have hwF : IntKind.i64.wrap ((s.y : Int) + 1) = (s.y : Int) + 1 := IntWalk.i64_in _ ⟨by omega, by omega⟩
  have hwG : IntKind.i64.wrap ((cr : Int) + 1) = (cr : Int) + 1 := IntWalk.i64_in _ ⟨by omega, by omega⟩
  obtain ⟨ln, hln⟩ : ∃ l, xs.length = l := ⟨_, rfl⟩
  have HLN := Lib.hid hln
  have HCALL : ∀ (i : Nat) (d : Int) (W : World), i ≤ 7 → Sl intE 1 W aa xs → Calls Try.prog 84 #[.agg #[.int .i64 kd, .int .i64 72, .bool false, .slice aa ln ca, .string tx], .int .i64 i, .int .i64 d] W fun e w' => e = .returned (.int .i64 (argA xs i d)) ∧ Below W.heap.size W w' := fun i d W hi hW => by
    rw [← hln]
    exact l03ArgG_c kd 72 false tx xs aa ca i d W hW hi hx8
  rw [hln]
  clear h ok ha hna hxr hx8 hn hA0 hp hmx hcr hpn hnn hcn hln
  go_enter Try.func70, Try.ntmps70
  go_wp2_with fail
  refine (HCALL 0 1 _ (by omega) (HA.out.alloc _)).mono ?_
  rintro e v0 ⟨rfl, hb0⟩
  rw [HA0.out]
  have HB0 : Hid (Below w.heap.size w v0) := Lib.hid (((Below.refl w.heap.size w).alloc (Nat.le_refl _) _).trans (hb0.mono (by simp)))
  have hz0 := HB0.out.size
  have q_l : w.heap.size < v0.heap.size := by have := hb0.size; simp at this; omega
  have q_0 : v0.cell? ⟨w.heap.size, 0, none⟩ = some (.int .i64 kd) := kC hb0 (by simp) (by simp [go_sem])
  have q_1 : v0.cell? ⟨w.heap.size, 1, none⟩ = some (.int .i64 72) := kC hb0 (by simp) (by simp [go_sem])
  have q_2 : v0.cell? ⟨w.heap.size, 2, none⟩ = some (.bool false) := kC hb0 (by simp) (by simp [go_sem])
  have q_3 : v0.cell? ⟨w.heap.size, 3, none⟩ = some (.slice aa ln ca) := kC hb0 (by simp) (by simp [go_sem])
  have q_4 : v0.cell? ⟨w.heap.size, 4, none⟩ = some (.string tx) := kC hb0 (by simp) (by simp [go_sem])
  clear hb0
  have q_b : ¬ w.heap.size = b := by omega
  have HA_nb : ∀ k ∈ blkOf aa, ¬ k = b := fun k hk => (HNA.out k hk).1
  have Hv0 := Lib.hid (HS.out.below HB0.out)
  have HA2 := Lib.hid (HA.out.keep HB0.out)
  have HUv0 : Hid (Upd b 0 (0 + 12) (fun k => k = g ∨ k ∈ blkOf ah) w v0) := Lib.hid (Upd.refl'.below HB0.out HS.out.lt)
  have HA2_nb := HA_nb
  have k_0 := Hv0.out.e0
  have k_1 := Hv0.out.e1
  have k_2 := Hv0.out.e2
  have k_3 := Hv0.out.e3
  have k_4 := Hv0.out.e4
  have k_5 := Hv0.out.e5
  have k_6 := Hv0.out.e6
  have k_7 := Hv0.out.e7
  have k_8 := Hv0.out.e8
  have k_9 := Hv0.out.e9
  have k_10 := Hv0.out.e10
  have k_11 := Hv0.out.e11
  have k_f := Hv0.out.fz
  have k_l := Hv0.out.lt
  go_upto_region 4 with fail
  have hSc1 := And.intro k_0 (And.intro k_2 k_3)
  refine wp_region_G (fun w' => w'.cell? ⟨b, 0, none⟩ = some (.int .i64 (s.w : Int)) ∧ w'.cell? ⟨b, 2, none⟩ = some (.int .i64 (s.x : Int)) ∧ w'.cell? ⟨b, 3, none⟩ = some (.int .i64 (s.y : Int))) (fun i => false) (by kernel_rfl) hSc1 ?_
  refine tW ?_ 0 rfl ?_ ?_; rotate_left
  · intro w' hSw; go_simp; try rfl
  try simp only [Act.put,j1,j2,j3,j4,j5,j6]
  refine tW ?_ 1 rfl ?_ ?_; rotate_left
  · intro w' hSw; go_simp; try rfl
  try simp only [Act.put,j1,j2,j3,j4,j5,j6]
  refine tW ?_ 2 rfl ?_ ?_; rotate_left
  · intro w' hSw; go_simp; try rfl
  try simp only [Act.put,j1,j2,j3,j4,j5,j6]
  refine tL ?_ 3 rfl hSc1 ?_ ?_; rotate_left
  · intro w' hSw; obtain ⟨s0, s1, s2⟩ := hSw; go_simp; try rfl
  try simp only [Act.put,j1,j2,j3,j4,j5,j6]
  refine tW ?_ 4 rfl ?_ ?_; rotate_left
  · intro w' hSw; go_simp; try rfl
  try simp only [Act.put,j1,j2,j3,j4,j5,j6]
  refine tW ?_ 5 rfl ?_ ?_; rotate_left
  · intro w' hSw; go_simp; try rfl
  try simp only [Act.put,j1,j2,j3,j4,j5,j6]
  refine tW ?_ 6 rfl ?_ ?_; rotate_left
  · intro w' hSw; go_simp; try rfl
  try simp only [Act.put,j1,j2,j3,j4,j5,j6]
  refine tL ?_ 7 rfl hSc1 ?_ ?_; rotate_left
  · intro w' hSw; obtain ⟨s0, s1, s2⟩ := hSw; go_simp; try rfl
  try simp only [Act.put,j1,j2,j3,j4,j5,j6]
  refine tW ?_ 8 rfl ?_ ?_; rotate_left
  · intro w' hSw; go_simp; try rfl
  try simp only [Act.put,j1,j2,j3,j4,j5,j6]
  refine tW ?_ 9 rfl ?_ ?_; rotate_left
  · intro w' hSw; go_simp; try rfl
  try simp only [Act.put,j1,j2,j3,j4,j5,j6]
  refine tW ?_ 10 rfl ?_ ?_; rotate_left
  · intro w' hSw; go_simp; try rfl
  try simp only [Act.put,j1,j2,j3,j4,j5,j6]
  refine tW ?_ 11 rfl ?_ ?_; rotate_left
  · intro w' hSw; go_simp; try rfl
  try simp only [Act.put,j1,j2,j3,j4,j5,j6]
  refine tL ?_ 12 rfl hSc1 ?_ ?_; rotate_left
  · intro w' hSw; obtain ⟨s0, s1, s2⟩ := hSw; go_simp; try rfl
  try simp only [Act.put,j1,j2,j3,j4,j5,j6]
  refine tW ?_ 13 rfl ?_ ?_; rotate_left
  · intro w' hSw; go_simp; try rfl
  try simp only [Act.put,j1,j2,j3,j4,j5,j6]
  refine tW ?_ 14 rfl ?_ ?_; rotate_left
  · intro w' hSw; go_simp; try rfl
  try simp only [Act.put,j1,j2,j3,j4,j5,j6]
  refine tW ?_ 15 rfl ?_ ?_; rotate_left
  · intro w' hSw; go_simp; try rfl
  try simp only [Act.put,j1,j2,j3,j4,j5,j6]
  refine tL ?_ 16 rfl hSc1 ?_ ?_; rotate_left
  · intro w' hSw; obtain ⟨s0, s1, s2⟩ := hSw; go_simp; try rfl
  try simp only [Act.put,j1,j2,j3,j4,j5,j6]
  refine tW ?_ 17 rfl ?_ ?_; rotate_left
  · intro w' hSw; go_simp; try rfl
  try simp only [Act.put,j1,j2,j3,j4,j5,j6]
  refine tW ?_ 18 rfl ?_ ?_; rotate_left
  · intro w' hSw; go_simp; try rfl
  try simp only [Act.put,j1,j2,j3,j4,j5,j6]
  refine tW ?_ 19 rfl ?_ ?_; rotate_left
  · intro w' hSw; go_simp; try rfl
  try simp only [Act.put,j1,j2,j3,j4,j5,j6]
  refine tW ?_ 20 rfl ?_ ?_; rotate_left
  · intro w' hSw; go_simp; try rfl
  try simp only [Act.put,j1,j2,j3,j4,j5,j6]
  refine wpAnyG_done (by kernel_rfl) ?_ _
  obtain ⟨v1, hv1⟩ : ∃ x, v0.drew = x := ⟨_, rfl⟩
  have HBv1 : Hid (Below v0.heap.size v0 v1) := Lib.hid (by rw [← hv1]; exact (Below.refl _ _).drew)
  rw [hv1]
  have hzv1 := HBv1.out.size
  have Hv1 := Lib.hid (Hv0.out.below HBv1.out)
  have HUv1 : Hid (Upd b 0 (0 + 12) (fun k => k = g ∨ k ∈ blkOf ah) w v1) := Lib.hid (HUv0.out.below HBv1.out Hv0.out.lt)
  have qn_0 := kC HBv1.out q_l q_0
  have qn_1 := kC HBv1.out q_l q_1
  have qn_2 := kC HBv1.out q_l q_2
  have qn_3 := kC HBv1.out q_l q_3
  have qn_4 := kC HBv1.out q_l q_4
  have qn_l := Nat.lt_of_lt_of_le q_l HBv1.out.size
  clear q_0 q_1 q_2 q_3 q_4 q_l
  have HA2n := Lib.hid (HA2.out.keep HBv1.out)
  clear k_f k_l k_0 k_1 k_2 k_3 k_4 k_5 k_6 k_7 k_8 k_9 k_10 k_11 hv1 hSc1
  have k_0 := Hv1.out.e0
  have k_1 := Hv1.out.e1
  have k_2 := Hv1.out.e2
  have k_3 := Hv1.out.e3
  have k_4 := Hv1.out.e4
  have k_5 := Hv1.out.e5
  have k_6 := Hv1.out.e6
  have k_7 := Hv1.out.e7
  have k_8 := Hv1.out.e8
  have k_9 := Hv1.out.e9
  have k_10 := Hv1.out.e10
  have k_11 := Hv1.out.e11
  have k_f := Hv1.out.fz
  have k_l := Hv1.out.lt
  have hwJ : IntKind.i64.wrap ((s.h : Int) - 1) = (s.h : Int) - 1 := IntWalk.i64_in _ ⟨by omega, by omega⟩
  have hwK : IntKind.i64.wrap ((n : Int) - 1) = (n : Int) - 1 := IntWalk.i64_in _ ⟨by omega, by omega⟩
  obtain ⟨n1, hN1⟩ : ∃ n, arg1 xs 1 = n := ⟨_, rfl⟩
  obtain ⟨A1, hA1⟩ : ∃ a, argA xs 1 1 = a := ⟨_, rfl⟩
  have hA1b : -1 ≤ A1 ∧ A1 ≤ 9999 := by rw [← hA1]; exact argA_bd HXR.out (by omega) (by omega)
  have hm1 : max 1 A1 = (n1 : Int) := by rw [← hN1, ← hA1]; unfold arg1; omega
  have hwL : IntKind.i64.wrap ((n1 : Int) - 1) = (n1 : Int) - 1 := IntWalk.i64_in _ ⟨by omega, by omega⟩
  have HN1 := Lib.hid hN1
  have HA1 := Lib.hid hA1
  clear hN1 hA1
  go_upto_region 17 with fail
  obtain ⟨v2, hv2⟩ : ∃ x, v1.setCell ⟨b, 3, none⟩ (.int .i64 (min ((s.h : Int) - 1) ((n : Int) - 1))) = x := ⟨_, rfl⟩
  have Hv2 : Hid (ScrAt lo b 0 ({ s with y := min s.h n - 1 } : Scr) g cc ah dh v2) := Lib.hid (by rw [← hv2]; exact Hv1.out.setv3 (min s.h n - 1) (by omega))
  have HUv2 : Hid (Upd b 0 (0 + 12) (fun k => k = g ∨ k ∈ blkOf ah) w v2) := Lib.hid (by rw [← hv2]; exact HUv1.out.set3 _)
  have HCv2 : Hid (Ch (· = b) v1 v2) := Lib.hid (by rw [← hv2]; exact Ch.set1' _ _ _ _)
  rw [hv2]
  have qnn_0 : v2.cell? ⟨w.heap.size, 0, none⟩ = some (.int .i64 kd) := (HCv2.out.cell (p := ⟨w.heap.size, 0, none⟩) qn_l q_b).trans qn_0
  have qnn_1 : v2.cell? ⟨w.heap.size, 1, none⟩ = some (.int .i64 72) := (HCv2.out.cell (p := ⟨w.heap.size, 1, none⟩) qn_l q_b).trans qn_1
  have qnn_2 : v2.cell? ⟨w.heap.size, 2, none⟩ = some (.bool false) := (HCv2.out.cell (p := ⟨w.heap.size, 2, none⟩) qn_l q_b).trans qn_2
  have qnn_3 : v2.cell? ⟨w.heap.size, 3, none⟩ = some (.slice aa ln ca) := (HCv2.out.cell (p := ⟨w.heap.size, 3, none⟩) qn_l q_b).trans qn_3
  have qnn_4 : v2.cell? ⟨w.heap.size, 4, none⟩ = some (.string tx) := (HCv2.out.cell (p := ⟨w.heap.size, 4, none⟩) qn_l q_b).trans qn_4
  have qnn_l := Nat.lt_of_lt_of_le qn_l HCv2.out.size
  clear qn_0 qn_1 qn_2 qn_3 qn_4 qn_l
  have HA2nn := Lib.hid (Sl.ch HA2n.out HCv2.out HA2_nb)
  clear hv2 k_f k_l k_0 k_1 k_2 k_3 k_4 k_5 k_6 k_7 k_8 k_9 k_10 k_11
  have k_0 := Hv2.out.e0
  have k_1 := Hv2.out.e1
  have k_2 := Hv2.out.e2
  have k_3 : v2.cell? ⟨b, 3, none⟩ = some (.int .i64 ((min s.h n - 1 : Nat) : Int)) := Hv2.out.c3
  have k_4 := Hv2.out.e4
  have k_5 := Hv2.out.e5
  have k_6 := Hv2.out.e6
  have k_7 := Hv2.out.e7
  have k_8 := Hv2.out.e8
  have k_9 := Hv2.out.e9
  have k_10 := Hv2.out.e10
  have k_11 := Hv2.out.e11
  have k_f := Hv2.out.fz
  have k_l := Hv2.out.lt
  have hSc2 := And.intro k_0 (And.intro qnn_0 (And.intro qnn_1 (And.intro qnn_2 (And.intro qnn_3 qnn_4))))
  refine wp_region_G (fun w' => w'.cell? ⟨b, 0, none⟩ = some (.int .i64 (s.w : Int)) ∧ w'.cell? ⟨w.heap.size, 0, none⟩ = some (.int .i64 kd) ∧ w'.cell? ⟨w.heap.size, 1, none⟩ = some (.int .i64 72) ∧ w'.cell? ⟨w.heap.size, 2, none⟩ = some (.bool false) ∧ w'.cell? ⟨w.heap.size, 3, none⟩ = some (.slice aa ln ca) ∧ w'.cell? ⟨w.heap.size, 4, none⟩ = some (.string tx)) (fun i => i == 13) (by kernel_rfl) hSc2 ?_
  refine tW ?_ 0 rfl ?_ ?_; rotate_left
  · intro w' hSw; go_simp; try rfl
  try simp only [Act.put,j1,j2,j3,j4,j5,j6]
  refine tW ?_ 1 rfl ?_ ?_; rotate_left
  · intro w' hSw; go_simp; try rfl
  try simp only [Act.put,j1,j2,j3,j4,j5,j6]
  refine tW ?_ 2 rfl ?_ ?_; rotate_left
  · intro w' hSw; go_simp; try rfl
  try simp only [Act.put,j1,j2,j3,j4,j5,j6]
  refine tW ?_ 3 rfl ?_ ?_; rotate_left
  · intro w' hSw; go_simp; try rfl
  try simp only [Act.put,j1,j2,j3,j4,j5,j6]
  refine tL ?_ 4 rfl hSc2 ?_ ?_; rotate_left
  · intro w' hSw; obtain ⟨s0, s1, s2, s3, s4, s5⟩ := hSw; go_simp; try rfl
  try simp only [Act.put,j1,j2,j3,j4,j5,j6]
  refine tW ?_ 5 rfl ?_ ?_; rotate_left
  · intro w' hSw; go_simp; try rfl
  try simp only [Act.put,j1,j2,j3,j4,j5,j6]
  refine tL ?_ 6 rfl hSc2 ?_ ?_; rotate_left
  · intro w' hSw; obtain ⟨s0, s1, s2, s3, s4, s5⟩ := hSw; go_simp; try rfl
  try simp only [Act.put,j1,j2,j3,j4,j5,j6]
  refine wpAnyG_one (i := 7) (by kernel_rfl) rfl hSc2 (fun K' hK => ?_)
  simp only [j1,j2,j3]
  go_simp
  refine (HCALL 1 1 _ (by omega) (HA2nn.out.keep ((Below.refl _ _).drew))).mono ?_
  rintro e x1 ⟨rfl, hb1⟩
  rw [HA1.out]
  have HB1 : Hid (Below v2.heap.size v2 x1) := Lib.hid (((Below.refl _ _).drew).trans hb1)
  have HX1 := Lib.hid (Hv2.out.below HB1.out)
  have e_0 := HX1.out.c0
  have e_2 := HX1.out.c2
  have e_f := HX1.out.fz
  have e_l := HX1.out.lt
  have hSx : x1.cell? ⟨b, 0, none⟩ = some (.int .i64 (s.w : Int)) ∧ x1.cell? ⟨w.heap.size, 0, none⟩ = some (.int .i64 kd) ∧ x1.cell? ⟨w.heap.size, 1, none⟩ = some (.int .i64 72) ∧ x1.cell? ⟨w.heap.size, 2, none⟩ = some (.bool false) ∧ x1.cell? ⟨w.heap.size, 3, none⟩ = some (.slice aa ln ca) ∧ x1.cell? ⟨w.heap.size, 4, none⟩ = some (.string tx) := ⟨HX1.out.c0, (HB1.out.cell (p := ⟨w.heap.size, 0, none⟩) qnn_l).trans qnn_0, (HB1.out.cell (p := ⟨w.heap.size, 1, none⟩) qnn_l).trans qnn_1, (HB1.out.cell (p := ⟨w.heap.size, 2, none⟩) qnn_l).trans qnn_2, (HB1.out.cell (p := ⟨w.heap.size, 3, none⟩) qnn_l).trans qnn_3, (HB1.out.cell (p := ⟨w.heap.size, 4, none⟩) qnn_l).trans qnn_4⟩
  clear hb1
  refine hK.out _ _ (Or.inr hSx) ?_
  clear hK K'
  try simp only [Act.put,j1,j2,j3,j4,j5,j6]
  refine tW ?_ 8 rfl ?_ ?_; rotate_left
  · intro w' hSw; go_simp; try rfl
  try simp only [Act.put,j1,j2,j3,j4,j5,j6]
  refine tW ?_ 9 rfl ?_ ?_; rotate_left
  · intro w' hSw; go_simp; try rfl
  try simp only [Act.put,j1,j2,j3,j4,j5,j6]
  refine tW ?_ 10 rfl ?_ ?_; rotate_left
  · intro w' hSw; go_simp; try rfl
  try simp only [Act.put,j1,j2,j3,j4,j5,j6]
  refine tW ?_ 11 rfl ?_ ?_; rotate_left
  · intro w' hSw; go_simp; try rfl
  try simp only [Act.put,j1,j2,j3,j4,j5,j6]
  refine tW ?_ 12 rfl ?_ ?_; rotate_left
  · intro w' hSw; go_simp; try rfl
  try simp only [Act.put,j1,j2,j3,j4,j5,j6]
  refine wpAnyG_one (i := 13) (by kernel_rfl) rfl hSx (fun K' hK => ?_)
  simp only [j1,j2,j3]
  go_simp
  refine hK.out _ _ (Or.inl rfl) ?_
  clear hK K'
  try simp only [Act.put,j1,j2,j3,j4,j5,j6]
  refine wpAnyG_done (by kernel_rfl) ?_ _
  go_wp2_with fail
  first | refine bodyPost_end (v := .tuple #[]) (by simp [results, Try.results70]) rfl ?_ | refine bodyPost_ret (v := .tuple #[]) (by simp [results, Try.results70]) rfl ?_
  refine ⟨rfl, ?_⟩
  unfold csiS
  rw [if_neg (by decide), if_neg (by decide), if_neg (by decide), if_neg (by decide), if_pos (by decide)]
  rw [HN.out, HN1.out]
  refine ScrR.mk (cc := cc) (dh := dh) ?_ ?_
  · repeat (with_reducible refine ScrAt.drew ?_)
    exact HX1.out.setv2 _ (by omega)
  · repeat (with_reducible refine Upd.drew ?_)
    exact (HUv2.out.below HB1.out Hv2.out.lt).set2 _
theorem csi102_c (lo b : Nat) (s : Scr) (g cc : Nat) (ah : Option Addr) (dh : Nat) (w : World) (kd : Int) (xs : List Int) (aa : Option Addr) (ca : Nat) (tx : ByteArray) (h : ScrAt lo b 0 s g cc ah dh w) (ok : ScrOK s) (hlo : lo ≤ w.heap.size) (ha : Sl intE 1 w aa xs) (hna : ∀ k ∈ blkOf aa, k ≠ b ∧ k ≠ g ∧ k ∉ blkOf ah) (hx8 : xs.length ≤ 8) (hxr : ∀ x ∈ xs, -1 ≤ x ∧ x ≤ 9999) :
    Calls Try.prog 70 #[.pointer (some ⟨b, 0, none⟩), .agg #[.int .i64 kd, .int .i64 102, .bool false, .slice aa xs.length ca, .string tx]] w fun e w' => e = .returned (.tuple #[]) ∧ ScrR lo b 0 (csiS s 102 xs) g ah w w' := by
  have HS := Lib.hid h
  have HOK := Lib.hid ok
  have HA := Lib.hid ha
  have HNA := Lib.hid hna
  have HXR := Lib.hid hxr
  have HX8 := Lib.hid hx8
  have hw1 := ok.w1
  have hw2 := ok.w2
  have hh1 := ok.h1
  have hh2 := ok.h2
  have hx := ok.hx
  have hy := ok.hy
  have hcur := ok.cur
  have hcn := ok.cn
  have hlt := h.lt
  obtain ⟨n, hn⟩ : ∃ n, arg1 xs 0 = n := ⟨_, rfl⟩
  obtain ⟨A0, hA0⟩ : ∃ a, argA xs 0 1 = a := ⟨_, rfl⟩
  have hAb : -1 ≤ A0 ∧ A0 ≤ 9999 := by rw [← hA0]; exact argA_bd HXR.out (by omega) (by omega)
  have hm : max 1 A0 = (n : Int) := by rw [← hn, ← hA0]; unfold arg1; omega
  have hn1 : 1 ≤ n := by omega
  have hn2 : n ≤ 9999 := by omega
  have HN := Lib.hid hn
  have HA0 := Lib.hid hA0
  obtain ⟨p, hp⟩ : ∃ p, s.y * s.w = p := ⟨_, rfl⟩
  obtain ⟨mx, hmx⟩ : ∃ m, min s.x (s.w - 1) = m := ⟨_, rfl⟩
  obtain ⟨cr, hcr⟩ : ∃ c, curS s = c := ⟨_, rfl⟩
  obtain ⟨pn, hpn⟩ : ∃ q, (s.y + 1) * s.w = q := ⟨_, rfl⟩
  obtain ⟨nn, hnn⟩ : ∃ q, s.w * s.h = q := ⟨_, rfl⟩
  have hpi : (s.y : Int) * (s.w : Int) = (p : Int) := by rw [← hp]; exact (Int.natCast_mul _ _).symm
  have hpni : ((s.y : Int) + 1) * (s.w : Int) = (pn : Int) := by rw [← hpn]; exact (Int.natCast_mul (s.y + 1) s.w).symm
  have hnni : (s.w : Int) * (s.h : Int) = (nn : Int) := by rw [← hnn]; exact (Int.natCast_mul _ _).symm
  have hmi : min (s.x : Int) ((s.w : Int) - 1) = (mx : Int) := by omega
  have hcri : (p : Int) + (mx : Int) = (cr : Int) := by rw [← hcr, ← hp, ← hmx]; unfold curS; omega
  have hn240 : nn ≤ 240 := by rw [← hnn]; exact Nat.mul_le_mul hw2 hh2
  rw [hcr, hp, hpn, hnn] at hcur
  rw [hnn] at hcn
  obtain ⟨hc1, hc2, hc3⟩ := hcur
  have HCN := Lib.hid hcn
  have HP := Lib.hid hp
  have HMX := Lib.hid hmx
  have HCR := Lib.hid hcr
  have HPN := Lib.hid hpn
  have HNN := Lib.hid hnn
  have hwA : IntKind.i64.wrap ((s.w : Int) - 1) = (s.w : Int) - 1 := IntWalk.i64_in _ ⟨by omega, by omega⟩
  have hwB : IntKind.i64.wrap (p : Int) = (p : Int) := IntWalk.i64_in _ ⟨by omega, by omega⟩
  have hwC : IntKind.i64.wrap (cr : Int) = (cr : Int) := IntWalk.i64_in _ ⟨by omega, by omega⟩
  have hwD : IntKind.i64.wrap (pn : Int) = (pn : Int) := IntWalk.i64_in _ ⟨by omega, by omega⟩
  have hwE : IntKind.i64.wrap (nn : Int) = (nn : Int) := IntWalk.i64_in _ ⟨by omega, by omega⟩
  have hwF : IntKind.i64.wrap ((s.y : Int) + 1) = (s.y : Int) + 1 := IntWalk.i64_in _ ⟨by omega, by omega⟩
  have hwG : IntKind.i64.wrap ((cr : Int) + 1) = (cr : Int) + 1 := IntWalk.i64_in _ ⟨by omega, by omega⟩
  obtain ⟨ln, hln⟩ : ∃ l, xs.length = l := ⟨_, rfl⟩
  have HLN := Lib.hid hln
  have HCALL : ∀ (i : Nat) (d : Int) (W : World), i ≤ 7 → Sl intE 1 W aa xs → Calls Try.prog 84 #[.agg #[.int .i64 kd, .int .i64 102, .bool false, .slice aa ln ca, .string tx], .int .i64 i, .int .i64 d] W fun e w' => e = .returned (.int .i64 (argA xs i d)) ∧ Below W.heap.size W w' := fun i d W hi hW => by
    rw [← hln]
    exact l03ArgG_c kd 102 false tx xs aa ca i d W hW hi hx8
  rw [hln]
  clear h ok ha hna hxr hx8 hn hA0 hp hmx hcr hpn hnn hcn hln
  go_enter Try.func70, Try.ntmps70
  go_wp2_with fail
  refine (HCALL 0 1 _ (by omega) (HA.out.alloc _)).mono ?_
  rintro e v0 ⟨rfl, hb0⟩
  rw [HA0.out]
  have HB0 : Hid (Below w.heap.size w v0) := Lib.hid (((Below.refl w.heap.size w).alloc (Nat.le_refl _) _).trans (hb0.mono (by simp)))
  have hz0 := HB0.out.size
  have q_l : w.heap.size < v0.heap.size := by have := hb0.size; simp at this; omega
  have q_0 : v0.cell? ⟨w.heap.size, 0, none⟩ = some (.int .i64 kd) := kC hb0 (by simp) (by simp [go_sem])
  have q_1 : v0.cell? ⟨w.heap.size, 1, none⟩ = some (.int .i64 102) := kC hb0 (by simp) (by simp [go_sem])
  have q_2 : v0.cell? ⟨w.heap.size, 2, none⟩ = some (.bool false) := kC hb0 (by simp) (by simp [go_sem])
  have q_3 : v0.cell? ⟨w.heap.size, 3, none⟩ = some (.slice aa ln ca) := kC hb0 (by simp) (by simp [go_sem])
  have q_4 : v0.cell? ⟨w.heap.size, 4, none⟩ = some (.string tx) := kC hb0 (by simp) (by simp [go_sem])
  clear hb0
  have q_b : ¬ w.heap.size = b := by omega
  have HA_nb : ∀ k ∈ blkOf aa, ¬ k = b := fun k hk => (HNA.out k hk).1
  have Hv0 := Lib.hid (HS.out.below HB0.out)
  have HA2 := Lib.hid (HA.out.keep HB0.out)
  have HUv0 : Hid (Upd b 0 (0 + 12) (fun k => k = g ∨ k ∈ blkOf ah) w v0) := Lib.hid (Upd.refl'.below HB0.out HS.out.lt)
  have HA2_nb := HA_nb
  have k_0 := Hv0.out.e0
  have k_1 := Hv0.out.e1
  have k_2 := Hv0.out.e2
  have k_3 := Hv0.out.e3
  have k_4 := Hv0.out.e4
  have k_5 := Hv0.out.e5
  have k_6 := Hv0.out.e6
  have k_7 := Hv0.out.e7
  have k_8 := Hv0.out.e8
  have k_9 := Hv0.out.e9
  have k_10 := Hv0.out.e10
  have k_11 := Hv0.out.e11
  have k_f := Hv0.out.fz
  have k_l := Hv0.out.lt
  go_upto_region 4 with fail
  have hSc1 := And.intro k_0 (And.intro k_2 k_3)
  refine wp_region_G (fun w' => w'.cell? ⟨b, 0, none⟩ = some (.int .i64 (s.w : Int)) ∧ w'.cell? ⟨b, 2, none⟩ = some (.int .i64 (s.x : Int)) ∧ w'.cell? ⟨b, 3, none⟩ = some (.int .i64 (s.y : Int))) (fun i => false) (by kernel_rfl) hSc1 ?_
  refine tW ?_ 0 rfl ?_ ?_; rotate_left
  · intro w' hSw; go_simp; try rfl
  try simp only [Act.put,j1,j2,j3,j4,j5,j6]
  refine tW ?_ 1 rfl ?_ ?_; rotate_left
  · intro w' hSw; go_simp; try rfl
  try simp only [Act.put,j1,j2,j3,j4,j5,j6]
  refine tW ?_ 2 rfl ?_ ?_; rotate_left
  · intro w' hSw; go_simp; try rfl
  try simp only [Act.put,j1,j2,j3,j4,j5,j6]
  refine tL ?_ 3 rfl hSc1 ?_ ?_; rotate_left
  · intro w' hSw; obtain ⟨s0, s1, s2⟩ := hSw; go_simp; try rfl
  try simp only [Act.put,j1,j2,j3,j4,j5,j6]
  refine tW ?_ 4 rfl ?_ ?_; rotate_left
  · intro w' hSw; go_simp; try rfl
  try simp only [Act.put,j1,j2,j3,j4,j5,j6]
  refine tW ?_ 5 rfl ?_ ?_; rotate_left
  · intro w' hSw; go_simp; try rfl
  try simp only [Act.put,j1,j2,j3,j4,j5,j6]
  refine tW ?_ 6 rfl ?_ ?_; rotate_left
  · intro w' hSw; go_simp; try rfl
  try simp only [Act.put,j1,j2,j3,j4,j5,j6]
  refine tL ?_ 7 rfl hSc1 ?_ ?_; rotate_left
  · intro w' hSw; obtain ⟨s0, s1, s2⟩ := hSw; go_simp; try rfl
  try simp only [Act.put,j1,j2,j3,j4,j5,j6]
  refine tW ?_ 8 rfl ?_ ?_; rotate_left
  · intro w' hSw; go_simp; try rfl
  try simp only [Act.put,j1,j2,j3,j4,j5,j6]
  refine tW ?_ 9 rfl ?_ ?_; rotate_left
  · intro w' hSw; go_simp; try rfl
  try simp only [Act.put,j1,j2,j3,j4,j5,j6]
  refine tW ?_ 10 rfl ?_ ?_; rotate_left
  · intro w' hSw; go_simp; try rfl
  try simp only [Act.put,j1,j2,j3,j4,j5,j6]
  refine tW ?_ 11 rfl ?_ ?_; rotate_left
  · intro w' hSw; go_simp; try rfl
  try simp only [Act.put,j1,j2,j3,j4,j5,j6]
  refine tL ?_ 12 rfl hSc1 ?_ ?_; rotate_left
  · intro w' hSw; obtain ⟨s0, s1, s2⟩ := hSw; go_simp; try rfl
  try simp only [Act.put,j1,j2,j3,j4,j5,j6]
  refine tW ?_ 13 rfl ?_ ?_; rotate_left
  · intro w' hSw; go_simp; try rfl
  try simp only [Act.put,j1,j2,j3,j4,j5,j6]
  refine tW ?_ 14 rfl ?_ ?_; rotate_left
  · intro w' hSw; go_simp; try rfl
  try simp only [Act.put,j1,j2,j3,j4,j5,j6]
  refine tW ?_ 15 rfl ?_ ?_; rotate_left
  · intro w' hSw; go_simp; try rfl
  try simp only [Act.put,j1,j2,j3,j4,j5,j6]
  refine tL ?_ 16 rfl hSc1 ?_ ?_; rotate_left
  · intro w' hSw; obtain ⟨s0, s1, s2⟩ := hSw; go_simp; try rfl
  try simp only [Act.put,j1,j2,j3,j4,j5,j6]
  refine tW ?_ 17 rfl ?_ ?_; rotate_left
  · intro w' hSw; go_simp; try rfl
  try simp only [Act.put,j1,j2,j3,j4,j5,j6]
  refine tW ?_ 18 rfl ?_ ?_; rotate_left
  · intro w' hSw; go_simp; try rfl
  try simp only [Act.put,j1,j2,j3,j4,j5,j6]
  refine tW ?_ 19 rfl ?_ ?_; rotate_left
  · intro w' hSw; go_simp; try rfl
  try simp only [Act.put,j1,j2,j3,j4,j5,j6]
  refine tW ?_ 20 rfl ?_ ?_; rotate_left
  · intro w' hSw; go_simp; try rfl
  try simp only [Act.put,j1,j2,j3,j4,j5,j6]
  refine wpAnyG_done (by kernel_rfl) ?_ _
  obtain ⟨v1, hv1⟩ : ∃ x, v0.drew = x := ⟨_, rfl⟩
  have HBv1 : Hid (Below v0.heap.size v0 v1) := Lib.hid (by rw [← hv1]; exact (Below.refl _ _).drew)
  rw [hv1]
  have hzv1 := HBv1.out.size
  have Hv1 := Lib.hid (Hv0.out.below HBv1.out)
  have HUv1 : Hid (Upd b 0 (0 + 12) (fun k => k = g ∨ k ∈ blkOf ah) w v1) := Lib.hid (HUv0.out.below HBv1.out Hv0.out.lt)
  have qn_0 := kC HBv1.out q_l q_0
  have qn_1 := kC HBv1.out q_l q_1
  have qn_2 := kC HBv1.out q_l q_2
  have qn_3 := kC HBv1.out q_l q_3
  have qn_4 := kC HBv1.out q_l q_4
  have qn_l := Nat.lt_of_lt_of_le q_l HBv1.out.size
  clear q_0 q_1 q_2 q_3 q_4 q_l
  have HA2n := Lib.hid (HA2.out.keep HBv1.out)
  clear k_f k_l k_0 k_1 k_2 k_3 k_4 k_5 k_6 k_7 k_8 k_9 k_10 k_11 hv1 hSc1
  have k_0 := Hv1.out.e0
  have k_1 := Hv1.out.e1
  have k_2 := Hv1.out.e2
  have k_3 := Hv1.out.e3
  have k_4 := Hv1.out.e4
  have k_5 := Hv1.out.e5
  have k_6 := Hv1.out.e6
  have k_7 := Hv1.out.e7
  have k_8 := Hv1.out.e8
  have k_9 := Hv1.out.e9
  have k_10 := Hv1.out.e10
  have k_11 := Hv1.out.e11
  have k_f := Hv1.out.fz
  have k_l := Hv1.out.lt
  have hwJ : IntKind.i64.wrap ((s.h : Int) - 1) = (s.h : Int) - 1 := IntWalk.i64_in _ ⟨by omega, by omega⟩
  have hwK : IntKind.i64.wrap ((n : Int) - 1) = (n : Int) - 1 := IntWalk.i64_in _ ⟨by omega, by omega⟩
  obtain ⟨n1, hN1⟩ : ∃ n, arg1 xs 1 = n := ⟨_, rfl⟩
  obtain ⟨A1, hA1⟩ : ∃ a, argA xs 1 1 = a := ⟨_, rfl⟩
  have hA1b : -1 ≤ A1 ∧ A1 ≤ 9999 := by rw [← hA1]; exact argA_bd HXR.out (by omega) (by omega)
  have hm1 : max 1 A1 = (n1 : Int) := by rw [← hN1, ← hA1]; unfold arg1; omega
  have hwL : IntKind.i64.wrap ((n1 : Int) - 1) = (n1 : Int) - 1 := IntWalk.i64_in _ ⟨by omega, by omega⟩
  have HN1 := Lib.hid hN1
  have HA1 := Lib.hid hA1
  clear hN1 hA1
  go_upto_region 17 with fail
  obtain ⟨v2, hv2⟩ : ∃ x, v1.setCell ⟨b, 3, none⟩ (.int .i64 (min ((s.h : Int) - 1) ((n : Int) - 1))) = x := ⟨_, rfl⟩
  have Hv2 : Hid (ScrAt lo b 0 ({ s with y := min s.h n - 1 } : Scr) g cc ah dh v2) := Lib.hid (by rw [← hv2]; exact Hv1.out.setv3 (min s.h n - 1) (by omega))
  have HUv2 : Hid (Upd b 0 (0 + 12) (fun k => k = g ∨ k ∈ blkOf ah) w v2) := Lib.hid (by rw [← hv2]; exact HUv1.out.set3 _)
  have HCv2 : Hid (Ch (· = b) v1 v2) := Lib.hid (by rw [← hv2]; exact Ch.set1' _ _ _ _)
  rw [hv2]
  have qnn_0 : v2.cell? ⟨w.heap.size, 0, none⟩ = some (.int .i64 kd) := (HCv2.out.cell (p := ⟨w.heap.size, 0, none⟩) qn_l q_b).trans qn_0
  have qnn_1 : v2.cell? ⟨w.heap.size, 1, none⟩ = some (.int .i64 102) := (HCv2.out.cell (p := ⟨w.heap.size, 1, none⟩) qn_l q_b).trans qn_1
  have qnn_2 : v2.cell? ⟨w.heap.size, 2, none⟩ = some (.bool false) := (HCv2.out.cell (p := ⟨w.heap.size, 2, none⟩) qn_l q_b).trans qn_2
  have qnn_3 : v2.cell? ⟨w.heap.size, 3, none⟩ = some (.slice aa ln ca) := (HCv2.out.cell (p := ⟨w.heap.size, 3, none⟩) qn_l q_b).trans qn_3
  have qnn_4 : v2.cell? ⟨w.heap.size, 4, none⟩ = some (.string tx) := (HCv2.out.cell (p := ⟨w.heap.size, 4, none⟩) qn_l q_b).trans qn_4
  have qnn_l := Nat.lt_of_lt_of_le qn_l HCv2.out.size
  clear qn_0 qn_1 qn_2 qn_3 qn_4 qn_l
  have HA2nn := Lib.hid (Sl.ch HA2n.out HCv2.out HA2_nb)
  clear hv2 k_f k_l k_0 k_1 k_2 k_3 k_4 k_5 k_6 k_7 k_8 k_9 k_10 k_11
  have k_0 := Hv2.out.e0
  have k_1 := Hv2.out.e1
  have k_2 := Hv2.out.e2
  have k_3 : v2.cell? ⟨b, 3, none⟩ = some (.int .i64 ((min s.h n - 1 : Nat) : Int)) := Hv2.out.c3
  have k_4 := Hv2.out.e4
  have k_5 := Hv2.out.e5
  have k_6 := Hv2.out.e6
  have k_7 := Hv2.out.e7
  have k_8 := Hv2.out.e8
  have k_9 := Hv2.out.e9
  have k_10 := Hv2.out.e10
  have k_11 := Hv2.out.e11
  have k_f := Hv2.out.fz
  have k_l := Hv2.out.lt
  have hSc2 := And.intro k_0 (And.intro qnn_0 (And.intro qnn_1 (And.intro qnn_2 (And.intro qnn_3 qnn_4))))
  refine wp_region_G (fun w' => w'.cell? ⟨b, 0, none⟩ = some (.int .i64 (s.w : Int)) ∧ w'.cell? ⟨w.heap.size, 0, none⟩ = some (.int .i64 kd) ∧ w'.cell? ⟨w.heap.size, 1, none⟩ = some (.int .i64 102) ∧ w'.cell? ⟨w.heap.size, 2, none⟩ = some (.bool false) ∧ w'.cell? ⟨w.heap.size, 3, none⟩ = some (.slice aa ln ca) ∧ w'.cell? ⟨w.heap.size, 4, none⟩ = some (.string tx)) (fun i => i == 13) (by kernel_rfl) hSc2 ?_
  refine tW ?_ 0 rfl ?_ ?_; rotate_left
  · intro w' hSw; go_simp; try rfl
  try simp only [Act.put,j1,j2,j3,j4,j5,j6]
  refine tW ?_ 1 rfl ?_ ?_; rotate_left
  · intro w' hSw; go_simp; try rfl
  try simp only [Act.put,j1,j2,j3,j4,j5,j6]
  refine tW ?_ 2 rfl ?_ ?_; rotate_left
  · intro w' hSw; go_simp; try rfl
  try simp only [Act.put,j1,j2,j3,j4,j5,j6]
  refine tW ?_ 3 rfl ?_ ?_; rotate_left
  · intro w' hSw; go_simp; try rfl
  try simp only [Act.put,j1,j2,j3,j4,j5,j6]
  refine tL ?_ 4 rfl hSc2 ?_ ?_; rotate_left
  · intro w' hSw; obtain ⟨s0, s1, s2, s3, s4, s5⟩ := hSw; go_simp; try rfl
  try simp only [Act.put,j1,j2,j3,j4,j5,j6]
  refine tW ?_ 5 rfl ?_ ?_; rotate_left
  · intro w' hSw; go_simp; try rfl
  try simp only [Act.put,j1,j2,j3,j4,j5,j6]
  refine tL ?_ 6 rfl hSc2 ?_ ?_; rotate_left
  · intro w' hSw; obtain ⟨s0, s1, s2, s3, s4, s5⟩ := hSw; go_simp; try rfl
  try simp only [Act.put,j1,j2,j3,j4,j5,j6]
  refine wpAnyG_one (i := 7) (by kernel_rfl) rfl hSc2 (fun K' hK => ?_)
  simp only [j1,j2,j3]
  go_simp
  refine (HCALL 1 1 _ (by omega) (HA2nn.out.keep ((Below.refl _ _).drew))).mono ?_
  rintro e x1 ⟨rfl, hb1⟩
  rw [HA1.out]
  have HB1 : Hid (Below v2.heap.size v2 x1) := Lib.hid (((Below.refl _ _).drew).trans hb1)
  have HX1 := Lib.hid (Hv2.out.below HB1.out)
  have e_0 := HX1.out.c0
  have e_2 := HX1.out.c2
  have e_f := HX1.out.fz
  have e_l := HX1.out.lt
  have hSx : x1.cell? ⟨b, 0, none⟩ = some (.int .i64 (s.w : Int)) ∧ x1.cell? ⟨w.heap.size, 0, none⟩ = some (.int .i64 kd) ∧ x1.cell? ⟨w.heap.size, 1, none⟩ = some (.int .i64 102) ∧ x1.cell? ⟨w.heap.size, 2, none⟩ = some (.bool false) ∧ x1.cell? ⟨w.heap.size, 3, none⟩ = some (.slice aa ln ca) ∧ x1.cell? ⟨w.heap.size, 4, none⟩ = some (.string tx) := ⟨HX1.out.c0, (HB1.out.cell (p := ⟨w.heap.size, 0, none⟩) qnn_l).trans qnn_0, (HB1.out.cell (p := ⟨w.heap.size, 1, none⟩) qnn_l).trans qnn_1, (HB1.out.cell (p := ⟨w.heap.size, 2, none⟩) qnn_l).trans qnn_2, (HB1.out.cell (p := ⟨w.heap.size, 3, none⟩) qnn_l).trans qnn_3, (HB1.out.cell (p := ⟨w.heap.size, 4, none⟩) qnn_l).trans qnn_4⟩
  clear hb1
  refine hK.out _ _ (Or.inr hSx) ?_
  clear hK K'
  try simp only [Act.put,j1,j2,j3,j4,j5,j6]
  refine tW ?_ 8 rfl ?_ ?_; rotate_left
  · intro w' hSw; go_simp; try rfl
  try simp only [Act.put,j1,j2,j3,j4,j5,j6]
  refine tW ?_ 9 rfl ?_ ?_; rotate_left
  · intro w' hSw; go_simp; try rfl
  try simp only [Act.put,j1,j2,j3,j4,j5,j6]
  refine tW ?_ 10 rfl ?_ ?_; rotate_left
  · intro w' hSw; go_simp; try rfl
  try simp only [Act.put,j1,j2,j3,j4,j5,j6]
  refine tW ?_ 11 rfl ?_ ?_; rotate_left
  · intro w' hSw; go_simp; try rfl
  try simp only [Act.put,j1,j2,j3,j4,j5,j6]
  refine tW ?_ 12 rfl ?_ ?_; rotate_left
  · intro w' hSw; go_simp; try rfl
  try simp only [Act.put,j1,j2,j3,j4,j5,j6]
  refine wpAnyG_one (i := 13) (by kernel_rfl) rfl hSx (fun K' hK => ?_)
  simp only [j1,j2,j3]
  go_simp
  refine hK.out _ _ (Or.inl rfl) ?_
  clear hK K'
  try simp only [Act.put,j1,j2,j3,j4,j5,j6]
  refine wpAnyG_done (by kernel_rfl) ?_ _
  go_wp2_with fail
  first | refine bodyPost_end (v := .tuple #[]) (by simp [results, Try.results70]) rfl ?_ | refine bodyPost_ret (v := .tuple #[]) (by simp [results, Try.results70]) rfl ?_
  refine ⟨rfl, ?_⟩
  unfold csiS
  rw [if_neg (by decide), if_neg (by decide), if_neg (by decide), if_neg (by decide), if_pos (by decide)]
  rw [HN.out, HN1.out]
  refine ScrR.mk (cc := cc) (dh := dh) ?_ ?_
  · repeat (with_reducible refine ScrAt.drew ?_)
    exact HX1.out.setv2 _ (by omega)
  · repeat (with_reducible refine Upd.drew ?_)
    exact (HUv2.out.below HB1.out Hv2.out.lt).set2 _
end
section
open Go.RowKit
theorem csi74_c (lo b : Nat) (s : Scr) (g cc : Nat) (ah : Option Addr) (dh : Nat) (w : World) (kd : Int) (xs : List Int) (aa : Option Addr) (ca : Nat) (tx : ByteArray) (h : ScrAt lo b 0 s g cc ah dh w) (ok : ScrOK s) (hlo : lo ≤ w.heap.size) (ha : Sl intE 1 w aa xs) (hna : ∀ k ∈ blkOf aa, k ≠ b ∧ k ≠ g ∧ k ∉ blkOf ah) (hx8 : xs.length ≤ 8) (hxr : ∀ x ∈ xs, -1 ≤ x ∧ x ≤ 9999) :
    Calls Try.prog 70 #[.pointer (some ⟨b, 0, none⟩), .agg #[.int .i64 kd, .int .i64 74, .bool false, .slice aa xs.length ca, .string tx]] w fun e w' => e = .returned (.tuple #[]) ∧ ScrR lo b 0 (csiS s 74 xs) g ah w w' := by
  have HS := Lib.hid h
  have HOK := Lib.hid ok
  have HA := Lib.hid ha
  have HNA := Lib.hid hna
  have HXR := Lib.hid hxr
  have HX8 := Lib.hid hx8
  have hw1 := ok.w1
  have hw2 := ok.w2
  have hh1 := ok.h1
  have hh2 := ok.h2
  have hx := ok.hx
  have hy := ok.hy
  have hcur := ok.cur
  have hcn := ok.cn
  have hlt := h.lt
  obtain ⟨n, hn⟩ : ∃ n, arg1 xs 0 = n := ⟨_, rfl⟩
  obtain ⟨A0, hA0⟩ : ∃ a, argA xs 0 1 = a := ⟨_, rfl⟩
  have hAb : -1 ≤ A0 ∧ A0 ≤ 9999 := by rw [← hA0]; exact argA_bd HXR.out (by omega) (by omega)
  have hm : max 1 A0 = (n : Int) := by rw [← hn, ← hA0]; unfold arg1; omega
  have hn1 : 1 ≤ n := by omega
  have hn2 : n ≤ 9999 := by omega
  have HN := Lib.hid hn
  have HA0 := Lib.hid hA0
  obtain ⟨p, hp⟩ : ∃ p, s.y * s.w = p := ⟨_, rfl⟩
  obtain ⟨mx, hmx⟩ : ∃ m, min s.x (s.w - 1) = m := ⟨_, rfl⟩
  obtain ⟨cr, hcr⟩ : ∃ c, curS s = c := ⟨_, rfl⟩
  obtain ⟨pn, hpn⟩ : ∃ q, (s.y + 1) * s.w = q := ⟨_, rfl⟩
  obtain ⟨nn, hnn⟩ : ∃ q, s.w * s.h = q := ⟨_, rfl⟩
  have hpi : (s.y : Int) * (s.w : Int) = (p : Int) := by rw [← hp]; exact (Int.natCast_mul _ _).symm
  have hpni : ((s.y : Int) + 1) * (s.w : Int) = (pn : Int) := by rw [← hpn]; exact (Int.natCast_mul (s.y + 1) s.w).symm
  have hnni : (s.w : Int) * (s.h : Int) = (nn : Int) := by rw [← hnn]; exact (Int.natCast_mul _ _).symm
  have hmi : min (s.x : Int) ((s.w : Int) - 1) = (mx : Int) := by omega
  have hcri : (p : Int) + (mx : Int) = (cr : Int) := by rw [← hcr, ← hp, ← hmx]; unfold curS; omega
  have hn240 : nn ≤ 240 := by rw [← hnn]; exact Nat.mul_le_mul hw2 hh2
  rw [hcr, hp, hpn, hnn] at hcur
  rw [hnn] at hcn
  obtain ⟨hc1, hc2, hc3⟩ := hcur
  have HCN := Lib.hid hcn
  have HP := Lib.hid hp
  have HMX := Lib.hid hmx
  have HCR := Lib.hid hcr
  have HPN := Lib.hid hpn
  have HNN := Lib.hid hnn
  have hwA : IntKind.i64.wrap ((s.w : Int) - 1) = (s.w : Int) - 1 := IntWalk.i64_in _ ⟨by omega, by omega⟩
  have hwB : IntKind.i64.wrap (p : Int) = (p : Int) := IntWalk.i64_in _ ⟨by omega, by omega⟩
  have hwC : IntKind.i64.wrap (cr : Int) = (cr : Int) := IntWalk.i64_in _ ⟨by omega, by omega⟩
  have hwD : IntKind.i64.wrap (pn : Int) = (pn : Int) := IntWalk.i64_in _ ⟨by omega, by omega⟩
  have hwE : IntKind.i64.wrap (nn : Int) = (nn : Int) := IntWalk.i64_in _ ⟨by omega, by omega⟩
  have hwF : IntKind.i64.wrap ((s.y : Int) + 1) = (s.y : Int) + 1 := IntWalk.i64_in _ ⟨by omega, by omega⟩
  have hwG : IntKind.i64.wrap ((cr : Int) + 1) = (cr : Int) + 1 := IntWalk.i64_in _ ⟨by omega, by omega⟩
  obtain ⟨ln, hln⟩ : ∃ l, xs.length = l := ⟨_, rfl⟩
  have HLN := Lib.hid hln
  have HCALL : ∀ (i : Nat) (d : Int) (W : World), i ≤ 7 → Sl intE 1 W aa xs → Calls Try.prog 84 #[.agg #[.int .i64 kd, .int .i64 74, .bool false, .slice aa ln ca, .string tx], .int .i64 i, .int .i64 d] W fun e w' => e = .returned (.int .i64 (argA xs i d)) ∧ Below W.heap.size W w' := fun i d W hi hW => by
    rw [← hln]
    exact l03ArgG_c kd 74 false tx xs aa ca i d W hW hi hx8
  rw [hln]
  clear h ok ha hna hxr hx8 hn hA0 hp hmx hcr hpn hnn hcn hln
  go_enter Try.func70, Try.ntmps70
  go_wp2_with fail
  refine (HCALL 0 1 _ (by omega) (HA.out.alloc _)).mono ?_
  rintro e v0 ⟨rfl, hb0⟩
  rw [HA0.out]
  have HB0 : Hid (Below w.heap.size w v0) := Lib.hid (((Below.refl w.heap.size w).alloc (Nat.le_refl _) _).trans (hb0.mono (by simp)))
  have hz0 := HB0.out.size
  have q_l : w.heap.size < v0.heap.size := by have := hb0.size; simp at this; omega
  have q_0 : v0.cell? ⟨w.heap.size, 0, none⟩ = some (.int .i64 kd) := kC hb0 (by simp) (by simp [go_sem])
  have q_1 : v0.cell? ⟨w.heap.size, 1, none⟩ = some (.int .i64 74) := kC hb0 (by simp) (by simp [go_sem])
  have q_2 : v0.cell? ⟨w.heap.size, 2, none⟩ = some (.bool false) := kC hb0 (by simp) (by simp [go_sem])
  have q_3 : v0.cell? ⟨w.heap.size, 3, none⟩ = some (.slice aa ln ca) := kC hb0 (by simp) (by simp [go_sem])
  have q_4 : v0.cell? ⟨w.heap.size, 4, none⟩ = some (.string tx) := kC hb0 (by simp) (by simp [go_sem])
  clear hb0
  have q_b : ¬ w.heap.size = b := by omega
  have HA_nb : ∀ k ∈ blkOf aa, ¬ k = b := fun k hk => (HNA.out k hk).1
  have Hv0 := Lib.hid (HS.out.below HB0.out)
  have HA2 := Lib.hid (HA.out.keep HB0.out)
  have HUv0 : Hid (Upd b 0 (0 + 12) (fun k => k = g ∨ k ∈ blkOf ah) w v0) := Lib.hid (Upd.refl'.below HB0.out HS.out.lt)
  have HA2_nb := HA_nb
  have k_0 := Hv0.out.e0
  have k_1 := Hv0.out.e1
  have k_2 := Hv0.out.e2
  have k_3 := Hv0.out.e3
  have k_4 := Hv0.out.e4
  have k_5 := Hv0.out.e5
  have k_6 := Hv0.out.e6
  have k_7 := Hv0.out.e7
  have k_8 := Hv0.out.e8
  have k_9 := Hv0.out.e9
  have k_10 := Hv0.out.e10
  have k_11 := Hv0.out.e11
  have k_f := Hv0.out.fz
  have k_l := Hv0.out.lt
  go_upto_region 4 with fail
  have hSc1 := And.intro k_0 (And.intro k_2 k_3)
  refine wp_region_G (fun w' => w'.cell? ⟨b, 0, none⟩ = some (.int .i64 (s.w : Int)) ∧ w'.cell? ⟨b, 2, none⟩ = some (.int .i64 (s.x : Int)) ∧ w'.cell? ⟨b, 3, none⟩ = some (.int .i64 (s.y : Int))) (fun i => false) (by kernel_rfl) hSc1 ?_
  refine tW ?_ 0 rfl ?_ ?_; rotate_left
  · intro w' hSw; go_simp; try rfl
  try simp only [Act.put,j1,j2,j3,j4,j5,j6]
  refine tW ?_ 1 rfl ?_ ?_; rotate_left
  · intro w' hSw; go_simp; try rfl
  try simp only [Act.put,j1,j2,j3,j4,j5,j6]
  refine tW ?_ 2 rfl ?_ ?_; rotate_left
  · intro w' hSw; go_simp; try rfl
  try simp only [Act.put,j1,j2,j3,j4,j5,j6]
  refine tL ?_ 3 rfl hSc1 ?_ ?_; rotate_left
  · intro w' hSw; obtain ⟨s0, s1, s2⟩ := hSw; go_simp; try rfl
  try simp only [Act.put,j1,j2,j3,j4,j5,j6]
  refine tW ?_ 4 rfl ?_ ?_; rotate_left
  · intro w' hSw; go_simp; try rfl
  try simp only [Act.put,j1,j2,j3,j4,j5,j6]
  refine tW ?_ 5 rfl ?_ ?_; rotate_left
  · intro w' hSw; go_simp; try rfl
  try simp only [Act.put,j1,j2,j3,j4,j5,j6]
  refine tW ?_ 6 rfl ?_ ?_; rotate_left
  · intro w' hSw; go_simp; try rfl
  try simp only [Act.put,j1,j2,j3,j4,j5,j6]
  refine tL ?_ 7 rfl hSc1 ?_ ?_; rotate_left
  · intro w' hSw; obtain ⟨s0, s1, s2⟩ := hSw; go_simp; try rfl
  try simp only [Act.put,j1,j2,j3,j4,j5,j6]
  refine tW ?_ 8 rfl ?_ ?_; rotate_left
  · intro w' hSw; go_simp; try rfl
  try simp only [Act.put,j1,j2,j3,j4,j5,j6]
  refine tW ?_ 9 rfl ?_ ?_; rotate_left
  · intro w' hSw; go_simp; try rfl
  try simp only [Act.put,j1,j2,j3,j4,j5,j6]
  refine tW ?_ 10 rfl ?_ ?_; rotate_left
  · intro w' hSw; go_simp; try rfl
  try simp only [Act.put,j1,j2,j3,j4,j5,j6]
  refine tW ?_ 11 rfl ?_ ?_; rotate_left
  · intro w' hSw; go_simp; try rfl
  try simp only [Act.put,j1,j2,j3,j4,j5,j6]
  refine tL ?_ 12 rfl hSc1 ?_ ?_; rotate_left
  · intro w' hSw; obtain ⟨s0, s1, s2⟩ := hSw; go_simp; try rfl
  try simp only [Act.put,j1,j2,j3,j4,j5,j6]
  refine tW ?_ 13 rfl ?_ ?_; rotate_left
  · intro w' hSw; go_simp; try rfl
  try simp only [Act.put,j1,j2,j3,j4,j5,j6]
  refine tW ?_ 14 rfl ?_ ?_; rotate_left
  · intro w' hSw; go_simp; try rfl
  try simp only [Act.put,j1,j2,j3,j4,j5,j6]
  refine tW ?_ 15 rfl ?_ ?_; rotate_left
  · intro w' hSw; go_simp; try rfl
  try simp only [Act.put,j1,j2,j3,j4,j5,j6]
  refine tL ?_ 16 rfl hSc1 ?_ ?_; rotate_left
  · intro w' hSw; obtain ⟨s0, s1, s2⟩ := hSw; go_simp; try rfl
  try simp only [Act.put,j1,j2,j3,j4,j5,j6]
  refine tW ?_ 17 rfl ?_ ?_; rotate_left
  · intro w' hSw; go_simp; try rfl
  try simp only [Act.put,j1,j2,j3,j4,j5,j6]
  refine tW ?_ 18 rfl ?_ ?_; rotate_left
  · intro w' hSw; go_simp; try rfl
  try simp only [Act.put,j1,j2,j3,j4,j5,j6]
  refine tW ?_ 19 rfl ?_ ?_; rotate_left
  · intro w' hSw; go_simp; try rfl
  try simp only [Act.put,j1,j2,j3,j4,j5,j6]
  refine tW ?_ 20 rfl ?_ ?_; rotate_left
  · intro w' hSw; go_simp; try rfl
  try simp only [Act.put,j1,j2,j3,j4,j5,j6]
  refine wpAnyG_done (by kernel_rfl) ?_ _
  obtain ⟨v1, hv1⟩ : ∃ x, v0.drew = x := ⟨_, rfl⟩
  have HBv1 : Hid (Below v0.heap.size v0 v1) := Lib.hid (by rw [← hv1]; exact (Below.refl _ _).drew)
  rw [hv1]
  have hzv1 := HBv1.out.size
  have Hv1 := Lib.hid (Hv0.out.below HBv1.out)
  have HUv1 : Hid (Upd b 0 (0 + 12) (fun k => k = g ∨ k ∈ blkOf ah) w v1) := Lib.hid (HUv0.out.below HBv1.out Hv0.out.lt)
  have qn_0 := kC HBv1.out q_l q_0
  have qn_1 := kC HBv1.out q_l q_1
  have qn_2 := kC HBv1.out q_l q_2
  have qn_3 := kC HBv1.out q_l q_3
  have qn_4 := kC HBv1.out q_l q_4
  have qn_l := Nat.lt_of_lt_of_le q_l HBv1.out.size
  clear q_0 q_1 q_2 q_3 q_4 q_l
  have HA2n := Lib.hid (HA2.out.keep HBv1.out)
  clear k_f k_l k_0 k_1 k_2 k_3 k_4 k_5 k_6 k_7 k_8 k_9 k_10 k_11 hv1 hSc1
  have k_0 := Hv1.out.e0
  have k_1 := Hv1.out.e1
  have k_2 := Hv1.out.e2
  have k_3 := Hv1.out.e3
  have k_4 := Hv1.out.e4
  have k_5 := Hv1.out.e5
  have k_6 := Hv1.out.e6
  have k_7 := Hv1.out.e7
  have k_8 := Hv1.out.e8
  have k_9 := Hv1.out.e9
  have k_10 := Hv1.out.e10
  have k_11 := Hv1.out.e11
  have k_f := Hv1.out.fz
  have k_l := Hv1.out.lt
  obtain ⟨D, hD⟩ : ∃ a, argA xs 0 0 = a := ⟨_, rfl⟩
  have HD := Lib.hid hD
  clear hD
  go_wp2_with fail
  refine (HCALL 0 0 _ (by omega) HA2n.out).mono ?_
  rw [HD.out]
  rintro e v2 ⟨rfl, hbv2⟩
  have HBv2 := Lib.hid hbv2
  have hzv2 := HBv2.out.size
  have Hv2 := Lib.hid (Hv1.out.below HBv2.out)
  have HUv2 : Hid (Upd b 0 (0 + 12) (fun k => k = g ∨ k ∈ blkOf ah) w v2) := Lib.hid (HUv1.out.below HBv2.out Hv1.out.lt)
  have qnn_0 := kC HBv2.out qn_l qn_0
  have qnn_1 := kC HBv2.out qn_l qn_1
  have qnn_2 := kC HBv2.out qn_l qn_2
  have qnn_3 := kC HBv2.out qn_l qn_3
  have qnn_4 := kC HBv2.out qn_l qn_4
  have qnn_l := Nat.lt_of_lt_of_le qn_l HBv2.out.size
  clear qn_0 qn_1 qn_2 qn_3 qn_4 qn_l
  have HA2nn := Lib.hid (HA2n.out.keep HBv2.out)
  clear k_f k_l k_0 k_1 k_2 k_3 k_4 k_5 k_6 k_7 k_8 k_9 k_10 k_11 hbv2
  have k_0 := Hv2.out.e0
  have k_1 := Hv2.out.e1
  have k_2 := Hv2.out.e2
  have k_3 := Hv2.out.e3
  have k_4 := Hv2.out.e4
  have k_5 := Hv2.out.e5
  have k_6 := Hv2.out.e6
  have k_7 := Hv2.out.e7
  have k_8 := Hv2.out.e8
  have k_9 := Hv2.out.e9
  have k_10 := Hv2.out.e10
  have k_11 := Hv2.out.e11
  have k_f := Hv2.out.fz
  have k_l := Hv2.out.lt
  by_cases hd0 : D = 0
  · subst hd0
    go_upto_region 21 with fail
    have hSc2 := And.intro k_0 k_1
    refine wp_region_G (fun w' => w'.cell? ⟨b, 0, none⟩ = some (.int .i64 (s.w : Int)) ∧ w'.cell? ⟨b, 1, none⟩ = some (.int .i64 (s.h : Int))) (fun i => false) (by kernel_rfl) hSc2 ?_
    refine tW ?_ 0 rfl ?_ ?_; rotate_left
    · intro w' hSw; go_simp; try rfl
    try simp only [Act.put,j1,j2,j3,j4,j5,j6]
    refine tW ?_ 1 rfl ?_ ?_; rotate_left
    · intro w' hSw; go_simp; try rfl
    try simp only [Act.put,j1,j2,j3,j4,j5,j6]
    refine tW ?_ 2 rfl ?_ ?_; rotate_left
    · intro w' hSw; go_simp; try rfl
    try simp only [Act.put,j1,j2,j3,j4,j5,j6]
    refine tW ?_ 3 rfl ?_ ?_; rotate_left
    · intro w' hSw; go_simp; try rfl
    try simp only [Act.put,j1,j2,j3,j4,j5,j6]
    refine tW ?_ 4 rfl ?_ ?_; rotate_left
    · intro w' hSw; go_simp; try rfl
    try simp only [Act.put,j1,j2,j3,j4,j5,j6]
    refine tL ?_ 5 rfl hSc2 ?_ ?_; rotate_left
    · intro w' hSw; obtain ⟨s0, s1⟩ := hSw; go_simp; try rfl
    try simp only [Act.put,j1,j2,j3,j4,j5,j6]
    refine tW ?_ 6 rfl ?_ ?_; rotate_left
    · intro w' hSw; go_simp; try rfl
    try simp only [Act.put,j1,j2,j3,j4,j5,j6]
    refine tW ?_ 7 rfl ?_ ?_; rotate_left
    · intro w' hSw; go_simp; try rfl
    try simp only [Act.put,j1,j2,j3,j4,j5,j6]
    refine tW ?_ 8 rfl ?_ ?_; rotate_left
    · intro w' hSw; go_simp; try rfl
    try simp only [Act.put,j1,j2,j3,j4,j5,j6]
    refine tL ?_ 9 rfl hSc2 ?_ ?_; rotate_left
    · intro w' hSw; obtain ⟨s0, s1⟩ := hSw; go_simp; try rfl
    try simp only [Act.put,j1,j2,j3,j4,j5,j6]
    refine tW ?_ 10 rfl ?_ ?_; rotate_left
    · intro w' hSw; go_simp; try rfl
    try simp only [Act.put,j1,j2,j3,j4,j5,j6]
    refine wpAnyG_one (i := 11) (by kernel_rfl) rfl hSc2 (fun K' hK => ?_)
    simp only [j1,j2,j3]
    go_simp
    refine (clear_c lo b s g cc ah dh _ cr nn Hv2.out.drew (by omega) (by rw [HCN.out]; omega) (by rw [HCN.out]; exact hn240)).mono ?_
    rintro e x1 ⟨rfl, hax, hcx⟩
    have HR : Hid (ScrR lo b 0 (clr cr nn s) g ah w x1) := Lib.hid (.mk hax (HUv2.out.drew.transN (Upd.ofCh (S := fun i => i = g) hcx Hv2.out.lt (fun e => HS.out.gb e.symm) (fun i hi => .inl hi)) (fun i hi => .inl (.inl hi))))
    have hSx : x1.cell? ⟨b, 0, none⟩ = some (.int .i64 (s.w : Int)) ∧ x1.cell? ⟨b, 1, none⟩ = some (.int .i64 (s.h : Int)) := ⟨hax.c0, hax.c1⟩
    clear hax hcx
    refine hK.out _ _ (Or.inr hSx) ?_
    clear hK K'
    try simp only [Act.put,j1,j2,j3,j4,j5,j6]
    refine wpAnyG_done (by kernel_rfl) ?_ _
    go_wp2_with fail
    first | refine bodyPost_end (v := .tuple #[]) (by simp [results, Try.results70]) rfl ?_ | refine bodyPost_ret (v := .tuple #[]) (by simp [results, Try.results70]) rfl ?_
    refine ⟨rfl, ?_⟩
    unfold csiS
    rw [if_neg (by decide), if_neg (by decide), if_neg (by decide), if_neg (by decide), if_neg (by decide), if_pos (by decide)]
    have e1 : eraS s 0 0 0 = eraS s 0 0 0 := rfl
    rw [HD.out, HNN.out]
    unfold eraS
    rw [if_pos rfl]
    rw [HCR.out]
    exact HR.out
  by_cases hd1 : D = 1
  · subst hd1
    go_wp2_with fail
    refine (clear_c lo b s g cc ah dh _ 0 (cr + 1) Hv2.out (by omega) (by rw [HCN.out]; omega) (by rw [HCN.out]; exact hn240)).mono ?_
    rintro e x1 ⟨rfl, hax, hcx⟩
    have HR : Hid (ScrR lo b 0 (clr 0 (cr + 1) s) g ah w x1) := Lib.hid (.mk hax (HUv2.out.transN (Upd.ofCh (S := fun i => i = g) hcx Hv2.out.lt (fun e => HS.out.gb e.symm) (fun i hi => .inl hi)) (fun i hi => .inl (.inl hi))))
    clear hax hcx
    go_wp2_with fail
    first | refine bodyPost_end (v := .tuple #[]) (by simp [results, Try.results70]) rfl ?_ | refine bodyPost_ret (v := .tuple #[]) (by simp [results, Try.results70]) rfl ?_
    refine ⟨rfl, ?_⟩
    unfold csiS
    rw [if_neg (by decide), if_neg (by decide), if_neg (by decide), if_neg (by decide), if_neg (by decide), if_pos (by decide)]
    have e1 : eraS s 0 0 0 = eraS s 0 0 0 := rfl
    rw [HD.out, HNN.out]
    unfold eraS
    rw [if_neg (by decide), if_pos rfl]
    rw [HCR.out]
    exact HR.out
  by_cases hd2 : D = 2
  · subst hd2
    go_upto_region 25 with fail
    have hSc2 := And.intro k_0 k_1
    refine wp_region_G (fun w' => w'.cell? ⟨b, 0, none⟩ = some (.int .i64 (s.w : Int)) ∧ w'.cell? ⟨b, 1, none⟩ = some (.int .i64 (s.h : Int))) (fun i => false) (by kernel_rfl) hSc2 ?_
    refine tW ?_ 0 rfl ?_ ?_; rotate_left
    · intro w' hSw; go_simp; try rfl
    try simp only [Act.put,j1,j2,j3,j4,j5,j6]
    refine tW ?_ 1 rfl ?_ ?_; rotate_left
    · intro w' hSw; go_simp; try rfl
    try simp only [Act.put,j1,j2,j3,j4,j5,j6]
    refine tW ?_ 2 rfl ?_ ?_; rotate_left
    · intro w' hSw; go_simp; try rfl
    try simp only [Act.put,j1,j2,j3,j4,j5,j6]
    refine tW ?_ 3 rfl ?_ ?_; rotate_left
    · intro w' hSw; go_simp; try rfl
    try simp only [Act.put,j1,j2,j3,j4,j5,j6]
    refine tL ?_ 4 rfl hSc2 ?_ ?_; rotate_left
    · intro w' hSw; obtain ⟨s0, s1⟩ := hSw; go_simp; try rfl
    try simp only [Act.put,j1,j2,j3,j4,j5,j6]
    refine tW ?_ 5 rfl ?_ ?_; rotate_left
    · intro w' hSw; go_simp; try rfl
    try simp only [Act.put,j1,j2,j3,j4,j5,j6]
    refine tW ?_ 6 rfl ?_ ?_; rotate_left
    · intro w' hSw; go_simp; try rfl
    try simp only [Act.put,j1,j2,j3,j4,j5,j6]
    refine tW ?_ 7 rfl ?_ ?_; rotate_left
    · intro w' hSw; go_simp; try rfl
    try simp only [Act.put,j1,j2,j3,j4,j5,j6]
    refine tL ?_ 8 rfl hSc2 ?_ ?_; rotate_left
    · intro w' hSw; obtain ⟨s0, s1⟩ := hSw; go_simp; try rfl
    try simp only [Act.put,j1,j2,j3,j4,j5,j6]
    refine tW ?_ 9 rfl ?_ ?_; rotate_left
    · intro w' hSw; go_simp; try rfl
    try simp only [Act.put,j1,j2,j3,j4,j5,j6]
    refine wpAnyG_one (i := 10) (by kernel_rfl) rfl hSc2 (fun K' hK => ?_)
    simp only [j1,j2,j3]
    go_simp
    refine (clear_c lo b s g cc ah dh _ 0 nn Hv2.out.drew (by omega) (by rw [HCN.out]; omega) (by rw [HCN.out]; exact hn240)).mono ?_
    rintro e x1 ⟨rfl, hax, hcx⟩
    have HR : Hid (ScrR lo b 0 (clr 0 nn s) g ah w x1) := Lib.hid (.mk hax (HUv2.out.drew.transN (Upd.ofCh (S := fun i => i = g) hcx Hv2.out.lt (fun e => HS.out.gb e.symm) (fun i hi => .inl hi)) (fun i hi => .inl (.inl hi))))
    have hSx : x1.cell? ⟨b, 0, none⟩ = some (.int .i64 (s.w : Int)) ∧ x1.cell? ⟨b, 1, none⟩ = some (.int .i64 (s.h : Int)) := ⟨hax.c0, hax.c1⟩
    clear hax hcx
    refine hK.out _ _ (Or.inr hSx) ?_
    clear hK K'
    try simp only [Act.put,j1,j2,j3,j4,j5,j6]
    refine wpAnyG_done (by kernel_rfl) ?_ _
    go_wp2_with fail
    first | refine bodyPost_end (v := .tuple #[]) (by simp [results, Try.results70]) rfl ?_ | refine bodyPost_ret (v := .tuple #[]) (by simp [results, Try.results70]) rfl ?_
    refine ⟨rfl, ?_⟩
    unfold csiS
    rw [if_neg (by decide), if_neg (by decide), if_neg (by decide), if_neg (by decide), if_neg (by decide), if_pos (by decide)]
    have e1 : eraS s 0 0 0 = eraS s 0 0 0 := rfl
    rw [HD.out, HNN.out]
    unfold eraS
    rw [if_neg (by decide), if_neg (by decide), if_pos rfl]
    exact HR.out
  have r0 : (D == 0) = false := beq_eq_false_iff_ne.2 hd0
  have r1 : (D == 1) = false := beq_eq_false_iff_ne.2 hd1
  have r2 : (D == 2) = false := beq_eq_false_iff_ne.2 hd2
  go_wp2_with fail
  first | refine bodyPost_end (v := .tuple #[]) (by simp [results, Try.results70]) rfl ?_ | refine bodyPost_ret (v := .tuple #[]) (by simp [results, Try.results70]) rfl ?_
  refine ⟨rfl, ?_⟩
  unfold csiS
  rw [if_neg (by decide), if_neg (by decide), if_neg (by decide), if_neg (by decide), if_neg (by decide), if_pos (by decide)]
  rw [HD.out]
  unfold eraS
  rw [if_neg hd0, if_neg hd1, if_neg hd2]
  exact .mk Hv2.out HUv2.out
theorem csi75_c (lo b : Nat) (s : Scr) (g cc : Nat) (ah : Option Addr) (dh : Nat) (w : World) (kd : Int) (xs : List Int) (aa : Option Addr) (ca : Nat) (tx : ByteArray) (h : ScrAt lo b 0 s g cc ah dh w) (ok : ScrOK s) (hlo : lo ≤ w.heap.size) (ha : Sl intE 1 w aa xs) (hna : ∀ k ∈ blkOf aa, k ≠ b ∧ k ≠ g ∧ k ∉ blkOf ah) (hx8 : xs.length ≤ 8) (hxr : ∀ x ∈ xs, -1 ≤ x ∧ x ≤ 9999) :
    Calls Try.prog 70 #[.pointer (some ⟨b, 0, none⟩), .agg #[.int .i64 kd, .int .i64 75, .bool false, .slice aa xs.length ca, .string tx]] w fun e w' => e = .returned (.tuple #[]) ∧ ScrR lo b 0 (csiS s 75 xs) g ah w w' := by
  have HS := Lib.hid h
  have HOK := Lib.hid ok
  have HA := Lib.hid ha
  have HNA := Lib.hid hna
  have HXR := Lib.hid hxr
  have HX8 := Lib.hid hx8
  have hw1 := ok.w1
  have hw2 := ok.w2
  have hh1 := ok.h1
  have hh2 := ok.h2
  have hx := ok.hx
  have hy := ok.hy
  have hcur := ok.cur
  have hcn := ok.cn
  have hlt := h.lt
  obtain ⟨n, hn⟩ : ∃ n, arg1 xs 0 = n := ⟨_, rfl⟩
  obtain ⟨A0, hA0⟩ : ∃ a, argA xs 0 1 = a := ⟨_, rfl⟩
  have hAb : -1 ≤ A0 ∧ A0 ≤ 9999 := by rw [← hA0]; exact argA_bd HXR.out (by omega) (by omega)
  have hm : max 1 A0 = (n : Int) := by rw [← hn, ← hA0]; unfold arg1; omega
  have hn1 : 1 ≤ n := by omega
  have hn2 : n ≤ 9999 := by omega
  have HN := Lib.hid hn
  have HA0 := Lib.hid hA0
  obtain ⟨p, hp⟩ : ∃ p, s.y * s.w = p := ⟨_, rfl⟩
  obtain ⟨mx, hmx⟩ : ∃ m, min s.x (s.w - 1) = m := ⟨_, rfl⟩
  obtain ⟨cr, hcr⟩ : ∃ c, curS s = c := ⟨_, rfl⟩
  obtain ⟨pn, hpn⟩ : ∃ q, (s.y + 1) * s.w = q := ⟨_, rfl⟩
  obtain ⟨nn, hnn⟩ : ∃ q, s.w * s.h = q := ⟨_, rfl⟩
  have hpi : (s.y : Int) * (s.w : Int) = (p : Int) := by rw [← hp]; exact (Int.natCast_mul _ _).symm
  have hpni : ((s.y : Int) + 1) * (s.w : Int) = (pn : Int) := by rw [← hpn]; exact (Int.natCast_mul (s.y + 1) s.w).symm
  have hnni : (s.w : Int) * (s.h : Int) = (nn : Int) := by rw [← hnn]; exact (Int.natCast_mul _ _).symm
  have hmi : min (s.x : Int) ((s.w : Int) - 1) = (mx : Int) := by omega
  have hcri : (p : Int) + (mx : Int) = (cr : Int) := by rw [← hcr, ← hp, ← hmx]; unfold curS; omega
  have hn240 : nn ≤ 240 := by rw [← hnn]; exact Nat.mul_le_mul hw2 hh2
  rw [hcr, hp, hpn, hnn] at hcur
  rw [hnn] at hcn
  obtain ⟨hc1, hc2, hc3⟩ := hcur
  have HCN := Lib.hid hcn
  have HP := Lib.hid hp
  have HMX := Lib.hid hmx
  have HCR := Lib.hid hcr
  have HPN := Lib.hid hpn
  have HNN := Lib.hid hnn
  have hwA : IntKind.i64.wrap ((s.w : Int) - 1) = (s.w : Int) - 1 := IntWalk.i64_in _ ⟨by omega, by omega⟩
  have hwB : IntKind.i64.wrap (p : Int) = (p : Int) := IntWalk.i64_in _ ⟨by omega, by omega⟩
  have hwC : IntKind.i64.wrap (cr : Int) = (cr : Int) := IntWalk.i64_in _ ⟨by omega, by omega⟩
  have hwD : IntKind.i64.wrap (pn : Int) = (pn : Int) := IntWalk.i64_in _ ⟨by omega, by omega⟩
  have hwE : IntKind.i64.wrap (nn : Int) = (nn : Int) := IntWalk.i64_in _ ⟨by omega, by omega⟩
  have hwF : IntKind.i64.wrap ((s.y : Int) + 1) = (s.y : Int) + 1 := IntWalk.i64_in _ ⟨by omega, by omega⟩
  have hwG : IntKind.i64.wrap ((cr : Int) + 1) = (cr : Int) + 1 := IntWalk.i64_in _ ⟨by omega, by omega⟩
  obtain ⟨ln, hln⟩ : ∃ l, xs.length = l := ⟨_, rfl⟩
  have HLN := Lib.hid hln
  have HCALL : ∀ (i : Nat) (d : Int) (W : World), i ≤ 7 → Sl intE 1 W aa xs → Calls Try.prog 84 #[.agg #[.int .i64 kd, .int .i64 75, .bool false, .slice aa ln ca, .string tx], .int .i64 i, .int .i64 d] W fun e w' => e = .returned (.int .i64 (argA xs i d)) ∧ Below W.heap.size W w' := fun i d W hi hW => by
    rw [← hln]
    exact l03ArgG_c kd 75 false tx xs aa ca i d W hW hi hx8
  rw [hln]
  clear h ok ha hna hxr hx8 hn hA0 hp hmx hcr hpn hnn hcn hln
  go_enter Try.func70, Try.ntmps70
  go_wp2_with fail
  refine (HCALL 0 1 _ (by omega) (HA.out.alloc _)).mono ?_
  rintro e v0 ⟨rfl, hb0⟩
  rw [HA0.out]
  have HB0 : Hid (Below w.heap.size w v0) := Lib.hid (((Below.refl w.heap.size w).alloc (Nat.le_refl _) _).trans (hb0.mono (by simp)))
  have hz0 := HB0.out.size
  have q_l : w.heap.size < v0.heap.size := by have := hb0.size; simp at this; omega
  have q_0 : v0.cell? ⟨w.heap.size, 0, none⟩ = some (.int .i64 kd) := kC hb0 (by simp) (by simp [go_sem])
  have q_1 : v0.cell? ⟨w.heap.size, 1, none⟩ = some (.int .i64 75) := kC hb0 (by simp) (by simp [go_sem])
  have q_2 : v0.cell? ⟨w.heap.size, 2, none⟩ = some (.bool false) := kC hb0 (by simp) (by simp [go_sem])
  have q_3 : v0.cell? ⟨w.heap.size, 3, none⟩ = some (.slice aa ln ca) := kC hb0 (by simp) (by simp [go_sem])
  have q_4 : v0.cell? ⟨w.heap.size, 4, none⟩ = some (.string tx) := kC hb0 (by simp) (by simp [go_sem])
  clear hb0
  have q_b : ¬ w.heap.size = b := by omega
  have HA_nb : ∀ k ∈ blkOf aa, ¬ k = b := fun k hk => (HNA.out k hk).1
  have Hv0 := Lib.hid (HS.out.below HB0.out)
  have HA2 := Lib.hid (HA.out.keep HB0.out)
  have HUv0 : Hid (Upd b 0 (0 + 12) (fun k => k = g ∨ k ∈ blkOf ah) w v0) := Lib.hid (Upd.refl'.below HB0.out HS.out.lt)
  have HA2_nb := HA_nb
  have k_0 := Hv0.out.e0
  have k_1 := Hv0.out.e1
  have k_2 := Hv0.out.e2
  have k_3 := Hv0.out.e3
  have k_4 := Hv0.out.e4
  have k_5 := Hv0.out.e5
  have k_6 := Hv0.out.e6
  have k_7 := Hv0.out.e7
  have k_8 := Hv0.out.e8
  have k_9 := Hv0.out.e9
  have k_10 := Hv0.out.e10
  have k_11 := Hv0.out.e11
  have k_f := Hv0.out.fz
  have k_l := Hv0.out.lt
  go_upto_region 4 with fail
  have hSc1 := And.intro k_0 (And.intro k_2 k_3)
  refine wp_region_G (fun w' => w'.cell? ⟨b, 0, none⟩ = some (.int .i64 (s.w : Int)) ∧ w'.cell? ⟨b, 2, none⟩ = some (.int .i64 (s.x : Int)) ∧ w'.cell? ⟨b, 3, none⟩ = some (.int .i64 (s.y : Int))) (fun i => false) (by kernel_rfl) hSc1 ?_
  refine tW ?_ 0 rfl ?_ ?_; rotate_left
  · intro w' hSw; go_simp; try rfl
  try simp only [Act.put,j1,j2,j3,j4,j5,j6]
  refine tW ?_ 1 rfl ?_ ?_; rotate_left
  · intro w' hSw; go_simp; try rfl
  try simp only [Act.put,j1,j2,j3,j4,j5,j6]
  refine tW ?_ 2 rfl ?_ ?_; rotate_left
  · intro w' hSw; go_simp; try rfl
  try simp only [Act.put,j1,j2,j3,j4,j5,j6]
  refine tL ?_ 3 rfl hSc1 ?_ ?_; rotate_left
  · intro w' hSw; obtain ⟨s0, s1, s2⟩ := hSw; go_simp; try rfl
  try simp only [Act.put,j1,j2,j3,j4,j5,j6]
  refine tW ?_ 4 rfl ?_ ?_; rotate_left
  · intro w' hSw; go_simp; try rfl
  try simp only [Act.put,j1,j2,j3,j4,j5,j6]
  refine tW ?_ 5 rfl ?_ ?_; rotate_left
  · intro w' hSw; go_simp; try rfl
  try simp only [Act.put,j1,j2,j3,j4,j5,j6]
  refine tW ?_ 6 rfl ?_ ?_; rotate_left
  · intro w' hSw; go_simp; try rfl
  try simp only [Act.put,j1,j2,j3,j4,j5,j6]
  refine tL ?_ 7 rfl hSc1 ?_ ?_; rotate_left
  · intro w' hSw; obtain ⟨s0, s1, s2⟩ := hSw; go_simp; try rfl
  try simp only [Act.put,j1,j2,j3,j4,j5,j6]
  refine tW ?_ 8 rfl ?_ ?_; rotate_left
  · intro w' hSw; go_simp; try rfl
  try simp only [Act.put,j1,j2,j3,j4,j5,j6]
  refine tW ?_ 9 rfl ?_ ?_; rotate_left
  · intro w' hSw; go_simp; try rfl
  try simp only [Act.put,j1,j2,j3,j4,j5,j6]
  refine tW ?_ 10 rfl ?_ ?_; rotate_left
  · intro w' hSw; go_simp; try rfl
  try simp only [Act.put,j1,j2,j3,j4,j5,j6]
  refine tW ?_ 11 rfl ?_ ?_; rotate_left
  · intro w' hSw; go_simp; try rfl
  try simp only [Act.put,j1,j2,j3,j4,j5,j6]
  refine tL ?_ 12 rfl hSc1 ?_ ?_; rotate_left
  · intro w' hSw; obtain ⟨s0, s1, s2⟩ := hSw; go_simp; try rfl
  try simp only [Act.put,j1,j2,j3,j4,j5,j6]
  refine tW ?_ 13 rfl ?_ ?_; rotate_left
  · intro w' hSw; go_simp; try rfl
  try simp only [Act.put,j1,j2,j3,j4,j5,j6]
  refine tW ?_ 14 rfl ?_ ?_; rotate_left
  · intro w' hSw; go_simp; try rfl
  try simp only [Act.put,j1,j2,j3,j4,j5,j6]
  refine tW ?_ 15 rfl ?_ ?_; rotate_left
  · intro w' hSw; go_simp; try rfl
  try simp only [Act.put,j1,j2,j3,j4,j5,j6]
  refine tL ?_ 16 rfl hSc1 ?_ ?_; rotate_left
  · intro w' hSw; obtain ⟨s0, s1, s2⟩ := hSw; go_simp; try rfl
  try simp only [Act.put,j1,j2,j3,j4,j5,j6]
  refine tW ?_ 17 rfl ?_ ?_; rotate_left
  · intro w' hSw; go_simp; try rfl
  try simp only [Act.put,j1,j2,j3,j4,j5,j6]
  refine tW ?_ 18 rfl ?_ ?_; rotate_left
  · intro w' hSw; go_simp; try rfl
  try simp only [Act.put,j1,j2,j3,j4,j5,j6]
  refine tW ?_ 19 rfl ?_ ?_; rotate_left
  · intro w' hSw; go_simp; try rfl
  try simp only [Act.put,j1,j2,j3,j4,j5,j6]
  refine tW ?_ 20 rfl ?_ ?_; rotate_left
  · intro w' hSw; go_simp; try rfl
  try simp only [Act.put,j1,j2,j3,j4,j5,j6]
  refine wpAnyG_done (by kernel_rfl) ?_ _
  obtain ⟨v1, hv1⟩ : ∃ x, v0.drew = x := ⟨_, rfl⟩
  have HBv1 : Hid (Below v0.heap.size v0 v1) := Lib.hid (by rw [← hv1]; exact (Below.refl _ _).drew)
  rw [hv1]
  have hzv1 := HBv1.out.size
  have Hv1 := Lib.hid (Hv0.out.below HBv1.out)
  have HUv1 : Hid (Upd b 0 (0 + 12) (fun k => k = g ∨ k ∈ blkOf ah) w v1) := Lib.hid (HUv0.out.below HBv1.out Hv0.out.lt)
  have qn_0 := kC HBv1.out q_l q_0
  have qn_1 := kC HBv1.out q_l q_1
  have qn_2 := kC HBv1.out q_l q_2
  have qn_3 := kC HBv1.out q_l q_3
  have qn_4 := kC HBv1.out q_l q_4
  have qn_l := Nat.lt_of_lt_of_le q_l HBv1.out.size
  clear q_0 q_1 q_2 q_3 q_4 q_l
  have HA2n := Lib.hid (HA2.out.keep HBv1.out)
  clear k_f k_l k_0 k_1 k_2 k_3 k_4 k_5 k_6 k_7 k_8 k_9 k_10 k_11 hv1 hSc1
  have k_0 := Hv1.out.e0
  have k_1 := Hv1.out.e1
  have k_2 := Hv1.out.e2
  have k_3 := Hv1.out.e3
  have k_4 := Hv1.out.e4
  have k_5 := Hv1.out.e5
  have k_6 := Hv1.out.e6
  have k_7 := Hv1.out.e7
  have k_8 := Hv1.out.e8
  have k_9 := Hv1.out.e9
  have k_10 := Hv1.out.e10
  have k_11 := Hv1.out.e11
  have k_f := Hv1.out.fz
  have k_l := Hv1.out.lt
  obtain ⟨D, hD⟩ : ∃ a, argA xs 0 0 = a := ⟨_, rfl⟩
  have HD := Lib.hid hD
  clear hD
  go_wp2_with fail
  refine (HCALL 0 0 _ (by omega) HA2n.out).mono ?_
  rw [HD.out]
  rintro e v2 ⟨rfl, hbv2⟩
  have HBv2 := Lib.hid hbv2
  have hzv2 := HBv2.out.size
  have Hv2 := Lib.hid (Hv1.out.below HBv2.out)
  have HUv2 : Hid (Upd b 0 (0 + 12) (fun k => k = g ∨ k ∈ blkOf ah) w v2) := Lib.hid (HUv1.out.below HBv2.out Hv1.out.lt)
  have qnn_0 := kC HBv2.out qn_l qn_0
  have qnn_1 := kC HBv2.out qn_l qn_1
  have qnn_2 := kC HBv2.out qn_l qn_2
  have qnn_3 := kC HBv2.out qn_l qn_3
  have qnn_4 := kC HBv2.out qn_l qn_4
  have qnn_l := Nat.lt_of_lt_of_le qn_l HBv2.out.size
  clear qn_0 qn_1 qn_2 qn_3 qn_4 qn_l
  have HA2nn := Lib.hid (HA2n.out.keep HBv2.out)
  clear k_f k_l k_0 k_1 k_2 k_3 k_4 k_5 k_6 k_7 k_8 k_9 k_10 k_11 hbv2
  have k_0 := Hv2.out.e0
  have k_1 := Hv2.out.e1
  have k_2 := Hv2.out.e2
  have k_3 := Hv2.out.e3
  have k_4 := Hv2.out.e4
  have k_5 := Hv2.out.e5
  have k_6 := Hv2.out.e6
  have k_7 := Hv2.out.e7
  have k_8 := Hv2.out.e8
  have k_9 := Hv2.out.e9
  have k_10 := Hv2.out.e10
  have k_11 := Hv2.out.e11
  have k_f := Hv2.out.fz
  have k_l := Hv2.out.lt
  by_cases hd0 : D = 0
  · subst hd0
    go_upto_region 29 with fail
    have hSc2 := And.intro k_0 k_3
    refine wp_region_G (fun w' => w'.cell? ⟨b, 0, none⟩ = some (.int .i64 (s.w : Int)) ∧ w'.cell? ⟨b, 3, none⟩ = some (.int .i64 (s.y : Int))) (fun i => false) (by kernel_rfl) hSc2 ?_
    refine tW ?_ 0 rfl ?_ ?_; rotate_left
    · intro w' hSw; go_simp; try rfl
    try simp only [Act.put,j1,j2,j3,j4,j5,j6]
    refine tW ?_ 1 rfl ?_ ?_; rotate_left
    · intro w' hSw; go_simp; try rfl
    try simp only [Act.put,j1,j2,j3,j4,j5,j6]
    refine tW ?_ 2 rfl ?_ ?_; rotate_left
    · intro w' hSw; go_simp; try rfl
    try simp only [Act.put,j1,j2,j3,j4,j5,j6]
    refine tW ?_ 3 rfl ?_ ?_; rotate_left
    · intro w' hSw; go_simp; try rfl
    try simp only [Act.put,j1,j2,j3,j4,j5,j6]
    refine tW ?_ 4 rfl ?_ ?_; rotate_left
    · intro w' hSw; go_simp; try rfl
    try simp only [Act.put,j1,j2,j3,j4,j5,j6]
    refine tL ?_ 5 rfl hSc2 ?_ ?_; rotate_left
    · intro w' hSw; obtain ⟨s0, s1⟩ := hSw; go_simp; try rfl
    try simp only [Act.put,j1,j2,j3,j4,j5,j6]
    refine tW ?_ 6 rfl ?_ ?_; rotate_left
    · intro w' hSw; go_simp; try rfl
    try simp only [Act.put,j1,j2,j3,j4,j5,j6]
    refine tW ?_ 7 rfl ?_ ?_; rotate_left
    · intro w' hSw; go_simp; try rfl
    try simp only [Act.put,j1,j2,j3,j4,j5,j6]
    refine tW ?_ 8 rfl ?_ ?_; rotate_left
    · intro w' hSw; go_simp; try rfl
    try simp only [Act.put,j1,j2,j3,j4,j5,j6]
    refine tW ?_ 9 rfl ?_ ?_; rotate_left
    · intro w' hSw; go_simp; try rfl
    try simp only [Act.put,j1,j2,j3,j4,j5,j6]
    refine tL ?_ 10 rfl hSc2 ?_ ?_; rotate_left
    · intro w' hSw; obtain ⟨s0, s1⟩ := hSw; go_simp; try rfl
    try simp only [Act.put,j1,j2,j3,j4,j5,j6]
    refine tW ?_ 11 rfl ?_ ?_; rotate_left
    · intro w' hSw; go_simp; try rfl
    try simp only [Act.put,j1,j2,j3,j4,j5,j6]
    refine wpAnyG_one (i := 12) (by kernel_rfl) rfl hSc2 (fun K' hK => ?_)
    simp only [j1,j2,j3]
    go_simp
    refine (clear_c lo b s g cc ah dh _ cr pn Hv2.out.drew (by omega) (by rw [HCN.out]; omega) (by rw [HCN.out]; exact hn240)).mono ?_
    rintro e x1 ⟨rfl, hax, hcx⟩
    have HR : Hid (ScrR lo b 0 (clr cr pn s) g ah w x1) := Lib.hid (.mk hax (HUv2.out.drew.transN (Upd.ofCh (S := fun i => i = g) hcx Hv2.out.lt (fun e => HS.out.gb e.symm) (fun i hi => .inl hi)) (fun i hi => .inl (.inl hi))))
    have hSx : x1.cell? ⟨b, 0, none⟩ = some (.int .i64 (s.w : Int)) ∧ x1.cell? ⟨b, 3, none⟩ = some (.int .i64 (s.y : Int)) := ⟨hax.c0, hax.c3⟩
    clear hax hcx
    refine hK.out _ _ (Or.inr hSx) ?_
    clear hK K'
    try simp only [Act.put,j1,j2,j3,j4,j5,j6]
    refine wpAnyG_done (by kernel_rfl) ?_ _
    go_wp2_with fail
    first | refine bodyPost_end (v := .tuple #[]) (by simp [results, Try.results70]) rfl ?_ | refine bodyPost_ret (v := .tuple #[]) (by simp [results, Try.results70]) rfl ?_
    refine ⟨rfl, ?_⟩
    unfold csiS
    rw [if_neg (by decide), if_neg (by decide), if_neg (by decide), if_neg (by decide), if_neg (by decide), if_neg (by decide), if_pos (by decide)]
    have e1 : eraS s 0 0 0 = eraS s 0 0 0 := rfl
    rw [HD.out, HP.out, HPN.out]
    unfold eraS
    rw [if_pos rfl]
    rw [HCR.out]
    exact HR.out
  by_cases hd1 : D = 1
  · subst hd1
    go_upto_region 31 with fail
    have hSc2 := And.intro k_0 k_3
    refine wp_region_G (fun w' => w'.cell? ⟨b, 0, none⟩ = some (.int .i64 (s.w : Int)) ∧ w'.cell? ⟨b, 3, none⟩ = some (.int .i64 (s.y : Int))) (fun i => false) (by kernel_rfl) hSc2 ?_
    refine tW ?_ 0 rfl ?_ ?_; rotate_left
    · intro w' hSw; go_simp; try rfl
    try simp only [Act.put,j1,j2,j3,j4,j5,j6]
    refine tW ?_ 1 rfl ?_ ?_; rotate_left
    · intro w' hSw; go_simp; try rfl
    try simp only [Act.put,j1,j2,j3,j4,j5,j6]
    refine tW ?_ 2 rfl ?_ ?_; rotate_left
    · intro w' hSw; go_simp; try rfl
    try simp only [Act.put,j1,j2,j3,j4,j5,j6]
    refine tW ?_ 3 rfl ?_ ?_; rotate_left
    · intro w' hSw; go_simp; try rfl
    try simp only [Act.put,j1,j2,j3,j4,j5,j6]
    refine tL ?_ 4 rfl hSc2 ?_ ?_; rotate_left
    · intro w' hSw; obtain ⟨s0, s1⟩ := hSw; go_simp; try rfl
    try simp only [Act.put,j1,j2,j3,j4,j5,j6]
    refine tW ?_ 5 rfl ?_ ?_; rotate_left
    · intro w' hSw; go_simp; try rfl
    try simp only [Act.put,j1,j2,j3,j4,j5,j6]
    refine tW ?_ 6 rfl ?_ ?_; rotate_left
    · intro w' hSw; go_simp; try rfl
    try simp only [Act.put,j1,j2,j3,j4,j5,j6]
    refine tW ?_ 7 rfl ?_ ?_; rotate_left
    · intro w' hSw; go_simp; try rfl
    try simp only [Act.put,j1,j2,j3,j4,j5,j6]
    refine tL ?_ 8 rfl hSc2 ?_ ?_; rotate_left
    · intro w' hSw; obtain ⟨s0, s1⟩ := hSw; go_simp; try rfl
    try simp only [Act.put,j1,j2,j3,j4,j5,j6]
    refine tW ?_ 9 rfl ?_ ?_; rotate_left
    · intro w' hSw; go_simp; try rfl
    try simp only [Act.put,j1,j2,j3,j4,j5,j6]
    refine tW ?_ 10 rfl ?_ ?_; rotate_left
    · intro w' hSw; go_simp; try rfl
    try simp only [Act.put,j1,j2,j3,j4,j5,j6]
    refine tW ?_ 11 rfl ?_ ?_; rotate_left
    · intro w' hSw; go_simp; try rfl
    try simp only [Act.put,j1,j2,j3,j4,j5,j6]
    refine wpAnyG_one (i := 12) (by kernel_rfl) rfl hSc2 (fun K' hK => ?_)
    simp only [j1,j2,j3]
    go_simp
    refine (clear_c lo b s g cc ah dh _ p (cr + 1) Hv2.out.drew (by omega) (by rw [HCN.out]; omega) (by rw [HCN.out]; exact hn240)).mono ?_
    rintro e x1 ⟨rfl, hax, hcx⟩
    have HR : Hid (ScrR lo b 0 (clr p (cr + 1) s) g ah w x1) := Lib.hid (.mk hax (HUv2.out.drew.transN (Upd.ofCh (S := fun i => i = g) hcx Hv2.out.lt (fun e => HS.out.gb e.symm) (fun i hi => .inl hi)) (fun i hi => .inl (.inl hi))))
    have hSx : x1.cell? ⟨b, 0, none⟩ = some (.int .i64 (s.w : Int)) ∧ x1.cell? ⟨b, 3, none⟩ = some (.int .i64 (s.y : Int)) := ⟨hax.c0, hax.c3⟩
    clear hax hcx
    refine hK.out _ _ (Or.inr hSx) ?_
    clear hK K'
    try simp only [Act.put,j1,j2,j3,j4,j5,j6]
    refine wpAnyG_done (by kernel_rfl) ?_ _
    go_wp2_with fail
    first | refine bodyPost_end (v := .tuple #[]) (by simp [results, Try.results70]) rfl ?_ | refine bodyPost_ret (v := .tuple #[]) (by simp [results, Try.results70]) rfl ?_
    refine ⟨rfl, ?_⟩
    unfold csiS
    rw [if_neg (by decide), if_neg (by decide), if_neg (by decide), if_neg (by decide), if_neg (by decide), if_neg (by decide), if_pos (by decide)]
    have e1 : eraS s 0 0 0 = eraS s 0 0 0 := rfl
    rw [HD.out, HP.out, HPN.out]
    unfold eraS
    rw [if_neg (by decide), if_pos rfl]
    rw [HCR.out]
    exact HR.out
  by_cases hd2 : D = 2
  · subst hd2
    go_upto_region 33 with fail
    have hSc2 := And.intro k_0 k_3
    refine wp_region_G (fun w' => w'.cell? ⟨b, 0, none⟩ = some (.int .i64 (s.w : Int)) ∧ w'.cell? ⟨b, 3, none⟩ = some (.int .i64 (s.y : Int))) (fun i => false) (by kernel_rfl) hSc2 ?_
    refine tW ?_ 0 rfl ?_ ?_; rotate_left
    · intro w' hSw; go_simp; try rfl
    try simp only [Act.put,j1,j2,j3,j4,j5,j6]
    refine tW ?_ 1 rfl ?_ ?_; rotate_left
    · intro w' hSw; go_simp; try rfl
    try simp only [Act.put,j1,j2,j3,j4,j5,j6]
    refine tW ?_ 2 rfl ?_ ?_; rotate_left
    · intro w' hSw; go_simp; try rfl
    try simp only [Act.put,j1,j2,j3,j4,j5,j6]
    refine tW ?_ 3 rfl ?_ ?_; rotate_left
    · intro w' hSw; go_simp; try rfl
    try simp only [Act.put,j1,j2,j3,j4,j5,j6]
    refine tL ?_ 4 rfl hSc2 ?_ ?_; rotate_left
    · intro w' hSw; obtain ⟨s0, s1⟩ := hSw; go_simp; try rfl
    try simp only [Act.put,j1,j2,j3,j4,j5,j6]
    refine tW ?_ 5 rfl ?_ ?_; rotate_left
    · intro w' hSw; go_simp; try rfl
    try simp only [Act.put,j1,j2,j3,j4,j5,j6]
    refine tW ?_ 6 rfl ?_ ?_; rotate_left
    · intro w' hSw; go_simp; try rfl
    try simp only [Act.put,j1,j2,j3,j4,j5,j6]
    refine tW ?_ 7 rfl ?_ ?_; rotate_left
    · intro w' hSw; go_simp; try rfl
    try simp only [Act.put,j1,j2,j3,j4,j5,j6]
    refine tL ?_ 8 rfl hSc2 ?_ ?_; rotate_left
    · intro w' hSw; obtain ⟨s0, s1⟩ := hSw; go_simp; try rfl
    try simp only [Act.put,j1,j2,j3,j4,j5,j6]
    refine tW ?_ 9 rfl ?_ ?_; rotate_left
    · intro w' hSw; go_simp; try rfl
    try simp only [Act.put,j1,j2,j3,j4,j5,j6]
    refine tW ?_ 10 rfl ?_ ?_; rotate_left
    · intro w' hSw; go_simp; try rfl
    try simp only [Act.put,j1,j2,j3,j4,j5,j6]
    refine tW ?_ 11 rfl ?_ ?_; rotate_left
    · intro w' hSw; go_simp; try rfl
    try simp only [Act.put,j1,j2,j3,j4,j5,j6]
    refine tW ?_ 12 rfl ?_ ?_; rotate_left
    · intro w' hSw; go_simp; try rfl
    try simp only [Act.put,j1,j2,j3,j4,j5,j6]
    refine tL ?_ 13 rfl hSc2 ?_ ?_; rotate_left
    · intro w' hSw; obtain ⟨s0, s1⟩ := hSw; go_simp; try rfl
    try simp only [Act.put,j1,j2,j3,j4,j5,j6]
    refine tW ?_ 14 rfl ?_ ?_; rotate_left
    · intro w' hSw; go_simp; try rfl
    try simp only [Act.put,j1,j2,j3,j4,j5,j6]
    refine tW ?_ 15 rfl ?_ ?_; rotate_left
    · intro w' hSw; go_simp; try rfl
    try simp only [Act.put,j1,j2,j3,j4,j5,j6]
    refine tW ?_ 16 rfl ?_ ?_; rotate_left
    · intro w' hSw; go_simp; try rfl
    try simp only [Act.put,j1,j2,j3,j4,j5,j6]
    refine tW ?_ 17 rfl ?_ ?_; rotate_left
    · intro w' hSw; go_simp; try rfl
    try simp only [Act.put,j1,j2,j3,j4,j5,j6]
    refine tL ?_ 18 rfl hSc2 ?_ ?_; rotate_left
    · intro w' hSw; obtain ⟨s0, s1⟩ := hSw; go_simp; try rfl
    try simp only [Act.put,j1,j2,j3,j4,j5,j6]
    refine tW ?_ 19 rfl ?_ ?_; rotate_left
    · intro w' hSw; go_simp; try rfl
    try simp only [Act.put,j1,j2,j3,j4,j5,j6]
    refine wpAnyG_one (i := 20) (by kernel_rfl) rfl hSc2 (fun K' hK => ?_)
    simp only [j1,j2,j3]
    go_simp
    refine (clear_c lo b s g cc ah dh _ p pn Hv2.out.drew (by omega) (by rw [HCN.out]; omega) (by rw [HCN.out]; exact hn240)).mono ?_
    rintro e x1 ⟨rfl, hax, hcx⟩
    have HR : Hid (ScrR lo b 0 (clr p pn s) g ah w x1) := Lib.hid (.mk hax (HUv2.out.drew.transN (Upd.ofCh (S := fun i => i = g) hcx Hv2.out.lt (fun e => HS.out.gb e.symm) (fun i hi => .inl hi)) (fun i hi => .inl (.inl hi))))
    have hSx : x1.cell? ⟨b, 0, none⟩ = some (.int .i64 (s.w : Int)) ∧ x1.cell? ⟨b, 3, none⟩ = some (.int .i64 (s.y : Int)) := ⟨hax.c0, hax.c3⟩
    clear hax hcx
    refine hK.out _ _ (Or.inr hSx) ?_
    clear hK K'
    try simp only [Act.put,j1,j2,j3,j4,j5,j6]
    refine wpAnyG_done (by kernel_rfl) ?_ _
    go_wp2_with fail
    first | refine bodyPost_end (v := .tuple #[]) (by simp [results, Try.results70]) rfl ?_ | refine bodyPost_ret (v := .tuple #[]) (by simp [results, Try.results70]) rfl ?_
    refine ⟨rfl, ?_⟩
    unfold csiS
    rw [if_neg (by decide), if_neg (by decide), if_neg (by decide), if_neg (by decide), if_neg (by decide), if_neg (by decide), if_pos (by decide)]
    have e1 : eraS s 0 0 0 = eraS s 0 0 0 := rfl
    rw [HD.out, HP.out, HPN.out]
    unfold eraS
    rw [if_neg (by decide), if_neg (by decide), if_pos rfl]
    exact HR.out
  have r0 : (D == 0) = false := beq_eq_false_iff_ne.2 hd0
  have r1 : (D == 1) = false := beq_eq_false_iff_ne.2 hd1
  have r2 : (D == 2) = false := beq_eq_false_iff_ne.2 hd2
  go_wp2_with fail
  first | refine bodyPost_end (v := .tuple #[]) (by simp [results, Try.results70]) rfl ?_ | refine bodyPost_ret (v := .tuple #[]) (by simp [results, Try.results70]) rfl ?_
  refine ⟨rfl, ?_⟩
  unfold csiS
  rw [if_neg (by decide), if_neg (by decide), if_neg (by decide), if_neg (by decide), if_neg (by decide), if_neg (by decide), if_pos (by decide)]
  rw [HD.out]
  unfold eraS
  rw [if_neg hd0, if_neg hd1, if_neg hd2]
  exact .mk Hv2.out HUv2.out
end
end Go.Proofs.Ytjmpgeffkdjpdaa
