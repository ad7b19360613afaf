/- Frames read from bytes: impl.readFrames, spec.l02Frames. No conditions but sizes. -/
import Derived.Test.YtmdjcoeijlnloaaRd2
import Derived.Test.YtmdjcoeijlnloaaCrc
import Derived.Deep.RegionLaw
import Derived.Laws.IdiomStrings
namespace Go.Proofs.Ytmdjcoeijlnloaa
set_option linter.unusedVariables false
set_option linter.unusedSimpArgs false
open Go.RowKit
/-- The frames of a list of bytes, how many bytes they take, and a code. -/
def frF : Nat → List UInt8 → List ByteArray × Nat × Int
  | 0, _ => ([], 0, 0)
  | n + 1, l =>
    if l = [] then ([], 0, 0) else if l.length < 7 then ([], 0, 14)
    else if bn (l.take 3) < 1 ∨ 65536 < bn (l.take 3) then ([], 0, 8)
    else if l.length < 7 + bn (l.take 3) then ([], 0, 14)
    else if bn ((l.drop 3).take 4) ≠ crc (l.take 3 ++ (l.drop 7).take (bn (l.take 3))) then ([], 0, 8)
    else (strOf ((l.drop 7).take (bn (l.take 3))) :: (frF n (l.drop (7 + bn (l.take 3)))).1, 7 + bn (l.take 3) + (frF n (l.drop (7 + bn (l.take 3)))).2.1, (frF n (l.drop (7 + bn (l.take 3)))).2.2)
def frs (l : List UInt8) : List ByteArray × Nat × Int := frF l.length l
/-- How the loop's state and the rest make the whole. -/
def frJ (L : List ByteArray) (A : Nat) (x : List ByteArray × Nat × Int) : List ByteArray × Nat × Int := (L ++ x.1, A + x.2.1, x.2.2)
def FrsR (x : List ByteArray × Nat × Int) (w : World) (e : Ending) (w' : World) : Prop :=
  ∃ a c, e = .returned (.tuple #[.slice a x.1.length c, .int .i64 x.2.1, .int .i64 x.2.2]) ∧ Fresh strE 9 1 w.heap.size (.slice a x.1.length c) x.1 w' ∧ Below w.heap.size w w'
theorem FrsR.of {x : List ByteArray × Nat × Int} {L : List ByteArray} {A : Nat} {cd : Int} {a : Option Addr} {c : Nat} {w w' : World} (h : frJ L A ([], 0, cd) = x) (hf : Fresh strE 9 1 w.heap.size (.slice a L.length c) L w') (hb : Below w.heap.size w w') :
    FrsR x w (.returned (.tuple #[.slice a L.length c, .int .i64 A, .int .i64 cd])) w' := by
  subst h
  refine ⟨a, c, ?_, ?_, hb⟩
  · simp [frJ]
  · simpa [frJ] using hf
theorem frF_nil (n : Nat) : frF n [] = ([], 0, 0) := by cases n <;> rfl
section
variable {n : Nat} {l : List UInt8}
theorem frF_short (h0 : 0 < l.length) (h : l.length < 7) : frF (n + 1) l = ([], 0, 14) := by
  rw [frF, if_neg (fun h => by rw [h] at h0; simp at h0), if_pos h]
theorem frF_long (h0 : 7 ≤ l.length) (h : bn (l.take 3) < 1 ∨ 65536 < bn (l.take 3)) : frF (n + 1) l = ([], 0, 8) := by
  rw [frF, if_neg (fun h => by rw [h] at h0; simp at h0), if_neg (by omega), if_pos h]
theorem frF_cut (h0 : 7 ≤ l.length) (h : 1 ≤ bn (l.take 3) ∧ bn (l.take 3) ≤ 65536) (h2 : l.length < 7 + bn (l.take 3)) : frF (n + 1) l = ([], 0, 14) := by
  rw [frF, if_neg (fun h => by rw [h] at h0; simp at h0), if_neg (by omega), if_neg (by omega), if_pos h2]
theorem frF_sum (h0 : 7 ≤ l.length) (h : 1 ≤ bn (l.take 3) ∧ bn (l.take 3) ≤ 65536) (h2 : 7 + bn (l.take 3) ≤ l.length) (h3 : bn ((l.drop 3).take 4) ≠ crc (l.take 3 ++ (l.drop 7).take (bn (l.take 3)))) : frF (n + 1) l = ([], 0, 8) := by
  rw [frF, if_neg (fun h => by rw [h] at h0; simp at h0), if_neg (by omega), if_neg (by omega), if_neg (by omega), if_pos h3]
theorem frF_ok (h0 : 7 ≤ l.length) (h : 1 ≤ bn (l.take 3) ∧ bn (l.take 3) ≤ 65536) (h2 : 7 + bn (l.take 3) ≤ l.length) (h3 : bn ((l.drop 3).take 4) = crc (l.take 3 ++ (l.drop 7).take (bn (l.take 3)))) :
    frF (n + 1) l = (strOf ((l.drop 7).take (bn (l.take 3))) :: (frF n (l.drop (7 + bn (l.take 3)))).1, 7 + bn (l.take 3) + (frF n (l.drop (7 + bn (l.take 3)))).2.1, (frF n (l.drop (7 + bn (l.take 3)))).2.2) := by
  rw [frF, if_neg (fun h => by rw [h] at h0; simp at h0), if_neg (by omega), if_neg (by omega), if_neg (by omega), if_neg (fun h => h h3)]
end
/-- What '[]byte(s)' leaves. -/
noncomputable def cvC (s : ByteArray) (w : World) : Nat := grownCap w s.size 0 5
noncomputable def cvW (s : ByteArray) (w : World) : World := w.drew.alloc (.cells (bytesRow s (cvC s w)) 5 ((bytesRow s (cvC s w)).size, (bytesRow s (cvC s w)).size + 1))
theorem cv_run (s : ByteArray) (w : World) : (convert 9 41 (.string s)).run Try.prog w = .ok (.slice (some ⟨w.heap.size, 0, none⟩) s.size (cvC s w)) (cvW s w) :=
  run_bytes_of_string w 9 41 5 s Try.underlying9 Try.underlying41 Try.underlying5
theorem cvW_below (s : ByteArray) (w : World) {B : Nat} (h : B ≤ w.heap.size) : Below B w (cvW s w) := ((Below.refl B w).drew).alloc h _
theorem cvW_sl (s : ByteArray) (w : World) : Sl byteE 1 (cvW s w) (some ⟨w.heap.size, 0, none⟩) s.data.toList := by
  refine .inr ⟨w.heap.size, 0, rfl, by simp [cvW], fun i hi j hj => ?_⟩
  obtain rfl : j = 0 := by omega
  have h1 : (cvW s w).cell? ⟨w.heap.size, 0 + i * 1 + 0, none⟩ = (bytesRow s (cvC s w))[0 + i * 1 + 0]? :=
    cell_of_row (cvW s w) w.heap.size _ _ _ _ (heap_alloc_new w.drew _)
  rw [h1]
  have h2 := bytesRow_at s (cvC s w) i (by simpa using hi)
  simp only [Nat.zero_add, Nat.mul_one, Nat.add_zero]
  rw [h2]
  simp [byteE]
end Go.Proofs.Ytmdjcoeijlnloaa
