/- WriteRecords: both append the records' frames, all or none. No conditions but sizes. -/
import Derived.Test.YtmdjcoeijlnloaaBldS
import Derived.Test.YtmdjcoeijlnloaaCut
import Derived.Test.YtmdjcoeijlnloaaStore
import Derived.Deep.RegionHeld3
namespace Go.Proofs.Ytmdjcoeijlnloaa
set_option linter.unusedVariables false
set_option linter.unusedSimpArgs false
open Go.RowKit
def wrF : List UInt8 → List ByteArray → Option (List UInt8)
  | d, [] => some d
  | d, r :: l => if 60000 < (d ++ frmL r).length then none else wrF (d ++ frmL r) l
def shortP (r : ByteArray) : Bool := !inB r.size 1 1000
def okV (o : Option (List UInt8)) (s : Int) : Value := match o with
  | some l => .tuple #[.agg #[.string (strOf l), .int .i64 s], .bool true]
  | none => .tuple #[.agg #[.string ⟨#[]⟩, .int .i64 0], .bool false]
theorem wrF_cons {d : List UInt8} {xs : List ByteArray} {k : Nat} (hk : k < xs.length) : wrF d (xs.drop k) = if 60000 < (d ++ frmL xs[k]).length then none else wrF (d ++ frmL xs[k]) (xs.drop (k + 1)) := by
  rw [List.drop_eq_getElem_cons hk]
  rfl
set_option maxRecDepth 100000 in
set_option maxHeartbeats 4000000 in
theorem written_c (d : ByteArray) (s : Int) (a : Option Addr) (ca : Nat) (xs : List ByteArray) (w : World) (hd : d.size ≤ 60000) (ha : Sl strE 1 w a xs) (la : xs.length ≤ 4096) (hs : ∀ r ∈ xs, r.size ≤ 1000) :
    Calls Try.prog 92 #[.agg #[.string d, .int .i64 s], .slice a xs.length ca] w fun e w' => e = .returned (okV (wrF d.data.toList xs) s) ∧ Below w.heap.size w w' := by
  have HS := Lib.hid hs
  clear hs
  go_enter Try.func92, Try.ntmps92
  go_wp2_with fail
  refine Calls.mono (writeString_c (w.heap.size + 2) (w.heap.size + 1 + 1) [] d _ ?_ ?_ ?_ ?_) ?_
  · have := bld_new ((w.alloc (.cells #[.string d, .int .i64 s] 51)).alloc (.cells #[.string ⟨#[]⟩, .int .i64 0] 51)) (w.heap.size + 2) (by simp)
    simp only [World.size_alloc] at this
    exact this
  · simp
  · omega
  · simp
  rintro e w1 ⟨rfl, hB1, hb1⟩
  have hz1 := hb1.size
  simp only [World.size_alloc] at hz1
  have q1 : ∀ o, w1.cell? ⟨w.heap.size, o, none⟩ = (#[.string d, .int .i64 s] : Array Value)[o]? := fun o => by
    rw [hb1.cell (p := ⟨w.heap.size, o, none⟩) (by show w.heap.size < _; omega)]
    rw [World.cell?_alloc_lt _ _ _ (by show w.heap.size < _; simp; omega), World.cell?_alloc_lt _ _ _ (by simp), World.cell?_alloc_new]
  have q2 : ∀ o, w1.cell? ⟨w.heap.size + 1, o, none⟩ = (#[.string ⟨#[]⟩, .int .i64 0] : Array Value)[o]? := fun o => by
    rw [hb1.cell (p := ⟨w.heap.size + 1, o, none⟩) (by show w.heap.size + 1 < _; omega)]
    rw [World.cell?_alloc_lt _ _ _ (by show w.heap.size + 1 < _; simp)]
    simp
  have qf : ∀ o, w1.frozen? ⟨w.heap.size + 1, o, none⟩ = false := fun o => by
    rw [hb1.frozen (p := ⟨w.heap.size + 1, o, none⟩) (by show w.heap.size + 1 < _; omega)]
    simp [go_sem]
  have HQ1 := Lib.hid q1
  have HQ2 := Lib.hid q2
  have HQF := Lib.hid qf
  have HB1 : Hid (Below w.heap.size w w1) := (((((Below.refl _ _).alloc (Nat.le_refl _) _).alloc (by simp) _).alloc (by simp; omega) _).trans (hb1.mono (by omega)))
  have HBL := Lib.hid hB1
  clear q1 q2 qf hb1 hB1
  go_wp2_with fail
  go_loopw [8, 14] (fun _ i wr => ∃ (k : Nat) (L : List UInt8), k ≤ xs.length ∧ L.length ≤ 60000 ∧ i = .int .i64 k ∧ Hid (wrF L (xs.drop k) = wrF d.data.toList xs) ∧ Bld (w.heap.size + 2) (w.heap.size + 1 + 1) L wr ∧ Below (w.heap.size + 2) w1 wr) (fun _ i _ => xs.length - (intOf i).toNat)
  case atStart => exact ⟨0, d.data.toList, Nat.zero_le _, hd, rfl, rfl, by simpa using HBL.out, Below.refl _ _⟩
  case round =>
    obtain ⟨k, L, hk, hL, rfl, hT, hBL, hbel⟩ := hrel
    have HBE := Lib.hid hbel
    have HBK := Lib.hid hBL
    have hz := hbel.size
    have HBW : Hid (Below w.heap.size w wr) := HB1.out.trans (hbel.mono (by omega))
    clear hBL hbel
    by_cases hlt : k < xs.length
    · obtain ⟨b1, o1, rfl, hb1, hc1⟩ := (ha.keep HBW.out).at hlt
      have c1 := hc1 k hlt 0 (by omega)
      simp only [strE, Nat.mul_one, Nat.add_zero, List.getElem?_cons_zero] at c1
      have hsz := HS.out xs[k] (List.getElem_mem _)
      have HW := Lib.hid (wrF_cons (d := L) hlt)
      have hfl := frmL_length xs[k]
      have HFL := Lib.hid hfl
      have hbs : (frmB xs[k]).size ≤ 1007 := by show (frmL xs[k]).length ≤ _; omega
      clear hc1 hfl
      go_wp2_with fail
      refine (frameOf_c xs[k] _ (by omega)).mono ?_
      rintro e w2 ⟨rfl, hb2⟩
      have hz2 := hb2.size
      have HB2 := Lib.hid hb2
      have HBK2 := Lib.hid (HBK.out.below hb2)
      clear hb2
      go_wp2_with fail
      refine (writeString_c (w.heap.size + 2) (w.heap.size + 1 + 1) L (frmB xs[k]) _ HBK2.out (by omega) (by omega) (by omega)).mono ?_
      rintro e w3 ⟨rfl, hB3, hb3⟩
      have hz3 := hb3.size
      have HB3 := Lib.hid hb3
      have hLl : (L ++ frmL xs[k]).length ≤ 61007 := by rw [List.length_append, HFL.out]; omega
      have HBW3 : Hid (Below (w.heap.size + 2) w1 w3) := (HBE.out.trans (HB2.out.mono (by omega))).trans HB3.out
      rw [show (frmB xs[k]).data.toList = frmL xs[k] from rfl] at hB3
      generalize hM : L ++ frmL xs[k] = M at *
      have HM := Lib.hid hM
      have HBK3 := Lib.hid hB3
      clear hM hB3 hb3
      go_wp2_with fail
      refine (bldLen_c _ _ M _ HBK3.out).mono ?_
      rintro e w4 ⟨rfl, rfl⟩
      have r1 : w3.cell? ⟨w.heap.size + 1, 0, none⟩ = some (.string ⟨#[]⟩) := by
        rw [HBW3.out.cell (p := ⟨w.heap.size + 1, 0, none⟩) (by show w.heap.size + 1 < _; omega), HQ2.out]; rfl
      have r2 : w3.cell? ⟨w.heap.size + 1, 1, none⟩ = some (.int .i64 0) := by
        rw [HBW3.out.cell (p := ⟨w.heap.size + 1, 1, none⟩) (by show w.heap.size + 1 < _; omega), HQ2.out]; rfl
      have f1 : w3.frozen? ⟨w.heap.size + 1, 0, none⟩ = false := by
        rw [HBW3.out.frozen (p := ⟨w.heap.size + 1, 0, none⟩) (by show w.heap.size + 1 < _; omega), HQF.out]
      have f2 : w3.frozen? ⟨w.heap.size + 1, 1, none⟩ = false := by
        rw [HBW3.out.frozen (p := ⟨w.heap.size + 1, 1, none⟩) (by show w.heap.size + 1 < _; omega), HQF.out]
      by_cases hbig : 60000 < M.length
      · have hres : wrF d.data.toList xs = none := by rw [← hT.out, HW.out, if_pos hbig]
        have HR := Lib.hid hres
        clear hres
        go_wp2_with fail
        refine bodyPost_ret (v := .tuple #[.agg #[.string ⟨#[]⟩, .int .i64 0], .bool false]) (by simp [results, Try.results92, go_sem, r1, r2, f1, f2]) rfl ?_
        exact ⟨by rw [HR.out]; rfl, ((HB1.out.trans (HBW3.out.mono (by omega))).setCell (by simp) _).setCell (by simp) _⟩
      · go_wp2_with fail
        go_roundw
        case rel => exact ⟨k + 1, M, by omega, by omega, by go_num, by show _ = _; rw [← hT.out, HW.out, if_neg hbig], HBK3.out, HBW3.out⟩
        case measure => simp [intOf]; omega
    · obtain rfl : k = xs.length := by omega
      have hres : wrF d.data.toList xs = some L := by rw [← hT.out, List.drop_length]; rfl
      have HR := Lib.hid hres
      have r1 : wr.cell? ⟨w.heap.size + 1, 0, none⟩ = some (.string ⟨#[]⟩) := by
        rw [HBE.out.cell (p := ⟨w.heap.size + 1, 0, none⟩) (by show w.heap.size + 1 < _; omega), HQ2.out]; rfl
      have r2 : wr.cell? ⟨w.heap.size + 1, 1, none⟩ = some (.int .i64 0) := by
        rw [HBE.out.cell (p := ⟨w.heap.size + 1, 1, none⟩) (by show w.heap.size + 1 < _; omega), HQ2.out]; rfl
      have r3 : wr.cell? ⟨w.heap.size, 1, none⟩ = some (.int .i64 s) := by
        rw [HBE.out.cell (p := ⟨w.heap.size, 1, none⟩) (by show w.heap.size < _; omega), HQ1.out]; rfl
      clear hres
      go_wp2_with fail
      have f1 : wr.frozen? ⟨w.heap.size + 1, 0, none⟩ = false := by
        rw [HBE.out.frozen (p := ⟨w.heap.size + 1, 0, none⟩) (by show w.heap.size + 1 < _; omega), HQF.out]
      have f2 : wr.frozen? ⟨w.heap.size + 1, 1, none⟩ = false := by
        rw [HBE.out.frozen (p := ⟨w.heap.size + 1, 1, none⟩) (by show w.heap.size + 1 < _; omega), HQF.out]
      go_region_held3 (fun w' => w'.cell? ⟨w.heap.size, 1, none⟩ = some (.int .i64 s))
        (first | go_keep | assumption)
        (first
          | (go_at_call 153
             refine (bldString_c (w.heap.size + 2) (w.heap.size + 1 + 1) L _ (HBK.out.below ((Below.refl _ _).drew)) (by simp; omega)).mono ?_
             rintro e w5 ⟨rfl, hb5⟩
             have g1 : w5.cell? ⟨w.heap.size + 1, 0, none⟩ = some (.string ⟨#[]⟩) := by
               rw [hb5.cell (p := ⟨w.heap.size + 1, 0, none⟩) (by show w.heap.size + 1 < _; omega)]
               simpa using r1
             have g2 : w5.cell? ⟨w.heap.size + 1, 1, none⟩ = some (.int .i64 0) := by
               rw [hb5.cell (p := ⟨w.heap.size + 1, 1, none⟩) (by show w.heap.size + 1 < _; omega)]
               simpa using r2
             have g3 : w5.cell? ⟨w.heap.size, 1, none⟩ = some (.int .i64 s) := by
               rw [hb5.cell (p := ⟨w.heap.size, 1, none⟩) (by show w.heap.size < _; omega)]
               simpa using r3
             have g4 : w5.frozen? ⟨w.heap.size + 1, 0, none⟩ = false := by
               rw [hb5.frozen (p := ⟨w.heap.size + 1, 0, none⟩) (by show w.heap.size + 1 < _; omega)]
               simpa using f1
             have g5 : w5.frozen? ⟨w.heap.size + 1, 1, none⟩ = false := by
               rw [hb5.frozen (p := ⟨w.heap.size + 1, 1, none⟩) (by show w.heap.size + 1 < _; omega)]
               simpa using f2))
      go_wp2_with fail
      refine bodyPost_ret (v := .tuple #[.agg #[.string (strOf L), .int .i64 s], .bool true]) (by simp [results, Try.results92, go_sem, g1, g2, g4, g5]) rfl ?_
      exact ⟨by rw [HR.out]; rfl, ((((HBW.out.drew).trans (hb5.mono (by omega))).setCell (by simp) _).setCell (by simp) _)⟩
end Go.Proofs.Ytmdjcoeijlnloaa
