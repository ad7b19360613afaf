/- spec.l07Write. No conditions but sizes. -/
import Derived.Test.YtmkgmecpjppgcaaWr
import Derived.Deep.RegionWith
namespace Go.Proofs.Ytmkgmecpjppgcaa
set_option linter.unusedVariables false
set_option linter.unusedSimpArgs false
open Go.RowKit
def wrOut (o : Option (List UInt8)) (D : ByteArray) (n : Int) : Prop := match o with
  | some l => D = strOf l ∧ n = 0
  | none => n = 7
set_option maxRecDepth 100000 in
set_option maxHeartbeats 4000000 in
theorem l07Write_c (d : ByteArray) (s : Int) (a : Option Addr) (ca : Nat) (xs : List ByteArray) (w : World) (hd : d.size ≤ 60000) (ha : Sl strE 1 w a xs) (la : xs.length ≤ 4096) (hs : ∀ r ∈ xs, r.size ≤ 1000) :
    Calls Try.prog 77 #[.agg #[.string d, .int .i64 s], .slice a xs.length ca] w fun e w' => (∃ D : ByteArray, ∃ n : Int, e = .returned (.tuple #[.agg #[.string D, .int .i64 s], .int .i64 n]) ∧ wrOut (wrF d.data.toList xs) D n) ∧ Below w.heap.size w w' := by
  have HS := Lib.hid hs
  clear hs
  go_enter Try.func77, Try.ntmps77
  go_wp2_with fail
  go_loopw [6] (fun i wr => ∃ (k : Nat) (L : List UInt8), k ≤ xs.length ∧ L.length ≤ 60000 ∧ i = .int .i64 k ∧ Hid (wrF L (xs.drop k) = wrF d.data.toList xs) ∧ wr.cell? ⟨w.heap.size, 0, none⟩ = some (.string (strOf L)) ∧ wr.cell? ⟨w.heap.size, 1, none⟩ = some (.int .i64 s) ∧
    wr.cell? ⟨w.heap.size + 1, 0, none⟩ = some (.string ⟨#[]⟩) ∧ wr.cell? ⟨w.heap.size + 1, 1, none⟩ = some (.int .i64 0) ∧ wr.frozen? ⟨w.heap.size, 0, none⟩ = false ∧ wr.frozen? ⟨w.heap.size + 1, 0, none⟩ = false ∧ wr.frozen? ⟨w.heap.size + 1, 1, none⟩ = false ∧ w.heap.size + 2 ≤ wr.heap.size ∧ Below w.heap.size w wr) (fun i _ => xs.length - (intOf i).toNat)
  case atStart => exact ⟨0, d.data.toList, Nat.zero_le _, hd, rfl, rfl, by simp [go_sem, strOf_data], by simp [go_sem], by simp [go_sem], by simp [go_sem], by simp [go_sem], by simp [go_sem], by simp [go_sem], by simp, (by repeat (first | exact Below.refl _ _ | (refine Below.alloc ?_ (by (try simp) <;> (try omega)) _) | (refine Below.setCell ?_ (by (try simp) <;> (try omega)) _) | (refine Below.drew ?_) | (refine Below.trans ?_ (Below.mono (by assumption) (by (try simp) <;> (try omega))))))⟩
  case round =>
    obtain ⟨k, L, hk, hL, rfl, hT, q0, q1, r0, r1, f0, f1, f2, hz, hbel⟩ := hrel
    have HBE := Lib.hid hbel
    clear hbel
    by_cases hlt : k < xs.length
    · obtain ⟨b1, o1, rfl, hb1, hc1⟩ := (ha.keep HBE.out).at hlt
      have c1 := hc1 k hlt 0 (by omega)
      simp only [strE, Nat.mul_one, Nat.add_zero, List.getElem?_cons_zero] at c1
      have hsz := HS.out xs[k] (List.getElem_mem _)
      have HW := Lib.hid (wrF_cons (d := L) hlt)
      have hfl := frmL_length xs[k]
      have hfl2 : (frmL xs[k]).length ≤ 1007 := by omega
      have HFL := Lib.hid hfl
      have hsL : (strOf L).size ≤ 60000 := hL
      have hi0 : (0 : Int) ≤ (k : Int) := by omega
      have hi1 : (k : Int) < (xs.length : Int) := by omega
      clear hc1 hfl
      go_wp2_with fail
      go_region_with
        (first
          | (go_at_call 72
             refine (l02Frame_c xs[k] _ (by omega)).mono ?_
             rintro e w5 ⟨v5, rfl, hf5, hb5⟩
             obtain ⟨a5, c5, rfl, hc5, ho5⟩ := id hf5
             have hz5 := hb5.size
             simp at hz5
             have hcv := fun c => conv_sl (ca := c) (hf5.here.sl fun _ => rfl)
             have g0 : w5.cell? ⟨w.heap.size, 0, none⟩ = some (.string (strOf L)) := by
               rw [hb5.cell (p := ⟨w.heap.size, 0, none⟩) (by show w.heap.size < _; simp; omega)]
               simpa using q0
             have g1 : w5.cell? ⟨w.heap.size, 1, none⟩ = some (.int .i64 s) := by
               rw [hb5.cell (p := ⟨w.heap.size, 1, none⟩) (by show w.heap.size < _; simp; omega)]
               simpa using q1
             have g2 : w5.cell? ⟨w.heap.size + 1, 0, none⟩ = some (.string ⟨#[]⟩) := by
               rw [hb5.cell (p := ⟨w.heap.size + 1, 0, none⟩) (by show w.heap.size + 1 < _; simp; omega)]
               simpa using r0
             have g3 : w5.cell? ⟨w.heap.size + 1, 1, none⟩ = some (.int .i64 0) := by
               rw [hb5.cell (p := ⟨w.heap.size + 1, 1, none⟩) (by show w.heap.size + 1 < _; simp; omega)]
               simpa using r1
             have g4 : w5.frozen? ⟨w.heap.size, 0, none⟩ = false := by
               rw [hb5.frozen (p := ⟨w.heap.size, 0, none⟩) (by show w.heap.size < _; simp; omega)]
               simpa using f0
             have g5 : w5.frozen? ⟨w.heap.size + 1, 0, none⟩ = false := by
               rw [hb5.frozen (p := ⟨w.heap.size + 1, 0, none⟩) (by show w.heap.size + 1 < _; simp; omega)]
               simpa using f1
             have g6 : w5.frozen? ⟨w.heap.size + 1, 1, none⟩ = false := by
               rw [hb5.frozen (p := ⟨w.heap.size + 1, 1, none⟩) (by show w.heap.size + 1 < _; simp; omega)]
               simpa using f2
             have g7 : w5.cell? ⟨b1, o1 + k, none⟩ = some (.string xs[k]) := by
               rw [hb5.cell (p := ⟨b1, o1 + k, none⟩) (by show b1 < _; simp; omega)]
               simpa using c1
             have HB5 : Hid (Below w.heap.size w w5) := (HBE.out.drew).trans (hb5.mono (by simp; omega))
             have hs5 : (strOf (frmL xs[k])).size ≤ 1007 := hfl2
             clear hf5 ho5 hb5))
      all_goals
        rw [strOf_append]
        have hLl : (L ++ frmL xs[k]).length ≤ 61007 := by rw [List.length_append]; omega
        clear hcv hc5
        generalize hM : L ++ frmL xs[k] = M at *
        have HM := Lib.hid hM
        clear hM
        have hsM : (strOf M).size = M.length := rfl
        by_cases hbig : 60000 < M.length
        · have hbig' : 60000 < (strOf M).size := hbig
          have hres : wrF d.data.toList xs = none := by rw [← hT.out, HW.out, if_pos hbig]
          have HR := Lib.hid hres
          clear hres hsM
          go_wp2_with fail
          refine bodyPost_ret (v := .tuple #[.agg #[.string (strOf M), .int .i64 s], .int .i64 7]) (by simp [results, Try.results77, go_sem, g0, g1, g2, g3, g4, g5, g6]) rfl ?_
          exact ⟨⟨_, _, rfl, by rw [HR.out]; rfl⟩, ((HB5.out.setCell (by simp) _).setCell (by simp) _).setCell (by simp) _⟩
        · have hbig' : (strOf M).size ≤ 60000 := by omega
          clear hsM
          go_wp2_with fail
          go_roundw
          case rel => exact ⟨k + 1, M, by omega, by omega, by go_num, by show _ = _; rw [← hT.out, HW.out, if_neg hbig], by simp [go_sem, g0], by simp [go_sem, g1], by simp [go_sem, g2], by simp [go_sem, g3], by simp [go_sem, g4], by simp [go_sem, g5], by simp [go_sem, g6], by simp; omega, HB5.out.setCell (by simp) _⟩
          case measure => simp [intOf]; omega
    · obtain rfl : k = xs.length := by omega
      have hres : wrF d.data.toList xs = some L := by rw [← hT.out, List.drop_length]; rfl
      have HR := Lib.hid hres
      clear hres
      go_wp2_with fail
      refine bodyPost_ret (v := .tuple #[.agg #[.string (strOf L), .int .i64 s], .int .i64 0]) (by simp [results, Try.results77, go_sem, q0, q1, r0, r1, f1, f2]) rfl ?_
      exact ⟨⟨_, _, rfl, by rw [HR.out]; exact ⟨rfl, rfl⟩⟩, (HBE.out.setCell (by simp) _).setCell (by simp) _⟩
end Go.Proofs.Ytmkgmecpjppgcaa
