/- impl.applied: what a record does to a state. No conditions but sizes. -/
import Derived.Test.YtckaccadgbcohaaOwnS
import Derived.Test.YtckaccadgbcohaaRd3
import Derived.Test.YtckaccadgbcohaaRec3
import Derived.Deep.RegionHeld3
import Derived.Deep.CutBlock
import Derived.Deep.DeepCutAuto
import Derived.Deep.RegionLaw
namespace Go.Proofs.Ytckaccadgbcohaa
set_option linter.unusedVariables false
set_option linter.unusedSimpArgs false
section
open Go.RowKit
theorem FreshIn.take {α : Type} {enc : α → List Value} {sz : Nat} {e : TypeId} {lo hi cap : Nat} {a : Option Addr} {xs : List α} {w : World} (hs : ∀ x, (enc x).length = sz) (h : FreshIn enc e sz lo hi (.slice a xs.length cap) xs w) (k : Nat) (hk : k ≤ xs.length) :
    FreshIn enc e sz lo hi (.slice a k cap) (xs.take k) w := by
  obtain ⟨⟨a', c', hv, hc, hl, ho⟩, hrow⟩ := h
  cases hv
  have hn : (xs.take k).length = k := by simp; omega
  have hlen : ((xs.take k).flatMap enc).length = k * sz := by rw [flat_length enc sz hs, hn]
  refine ⟨⟨a, cap, by rw [hn], by rw [hn]; omega, by rw [hn]; exact hlen, ?_⟩, fun g hg => hrow g (by cases a <;> simp_all [Value.ownBlock])⟩
  rcases ho with ⟨hv, h0⟩ | ⟨g, cap', cur, hv, hb, hh, h1, h2, h3, h4⟩
  · simp only [Value.slice.injEq] at hv
    obtain ⟨rfl, hv2, rfl⟩ := hv
    have hk0 : k = 0 := by omega
    subst hk0
    exact .inl ⟨by simp, by simp⟩
  · cases hv
    refine .inr ⟨g, cap, cur, by rw [hn], hb, hh, by rw [hn]; omega, h2, h3, ?_⟩
    rw [hn]
    have h5 : xs.flatMap enc = (xs.take k).flatMap enc ++ (xs.drop k).flatMap enc := by rw [← List.flatMap_append, List.take_append_drop]
    have h6 : cur.toList.take (k * sz) = (cur.toList.take (xs.length * sz)).take (k * sz) := by
      rw [List.take_take, Nat.min_eq_left (Nat.mul_le_mul_right sz hk)]
    rw [h6, h4, h5, List.take_left' hlen]
theorem FreshIn.setHi {α : Type} {enc : α → List Value} {sz : Nat} {e : TypeId} {lo hi : Nat} {v : Value} {xs : List α} {w : World} (h : FreshIn enc e sz lo hi v xs w) {p : Addr} (hp : hi ≤ p.block) (u : Value) : FreshIn enc e sz lo hi v xs (w.setCell p u) := by
  obtain ⟨⟨a', c', rfl, hc, hl, ho⟩, hrow⟩ := h
  refine ⟨⟨a', c', rfl, hc, hl, ?_⟩, hrow⟩
  rcases ho with ho | ⟨g, cap, cur, hv, hb, hh, r⟩
  · exact .inl ho
  · refine .inr ⟨g, cap, cur, hv, hb, ?_, r⟩
    have : g < hi := hrow g (by cases hv; rfl)
    rw [Below.heap_setCell _ _ _ _ (by omega)]
    exact hh
theorem rdF_size : ∀ (n : Nat) (l : List UInt8) (F : List ByteArray), rdF n l = some F → ∀ s ∈ F, s.size ≤ l.length
  | 0, l, F, h => by
    unfold rdF at h
    split at h <;> simp at h
    subst h
    simp
  | n + 1, l, F, h => by
    unfold rdF at h
    split at h
    · simp at h
    split at h
    · simp at h
    split at h
    · simp at h
    next h3 =>
    cases hr : rdF n (l.drop (2 + bn (l.take 2))) with
    | none => rw [hr] at h; simp at h
    | some G =>
      rw [hr] at h
      simp at h
      subst h
      intro s hs
      rcases List.mem_cons.1 hs with rfl | hs
      · show ((l.drop 2).take (bn (l.take 2))).length ≤ _
        simp; omega
      · have := rdF_size n _ G hr s hs
        simp at this; omega
theorem rdAll_size (l : List UInt8) (F : List ByteArray) (h : rdAll l = some F) : ∀ s ∈ F, s.size ≤ l.length := by
  cases l with
  | nil => simp [rdAll] at h
  | cons c r =>
    by_cases hc : 60 < c.toNat
    · rw [rdAll, if_pos hc] at h
      cases h
    · rw [rdAll, if_neg hc] at h
      intro s hs
      have := rdF_size _ _ _ h s hs
      simp; omega
def n0F (f : ByteArray) : Int := (bn (f.data.toList.take 3) : Int) - 1
def n1F (f : ByteArray) : Int := (bn ((f.data.toList.drop 3).take 3) : Int) - 1
noncomputable def chkS (t v : Int) (xs : List Ent) : Option (Int × Int × List Ent) := if stOK t v xs = true then some (t, v, xs) else none
noncomputable def apC (t v : Int) (xs : List Ent) (f0 f1 : ByteArray) (rest : List ByteArray) : Option (Int × Int × List Ent) :=
  if f0 = str1 116 then (if f1.size = 6 ∧ rest = [] ∧ t ≤ n0F f1 then chkS (n0F f1) (n1F f1) xs else none)
  else if f1.size = 3 then
    (if f0 = str1 99 ∧ rest = [] ∧ inB (n0F f1) 0 ((xs.length : Int) - 1) = true then chkS t v (xs.take (n0F f1).toNat)
     else if f0 = str1 101 ∧ rest.length = 1 then chkS t v (xs ++ [(n0F f1, rest.headD (str1 0))]) else none)
  else none
noncomputable def apV (t v : Int) (xs : List Ent) : Option (List ByteArray) → Option (Int × Int × List Ent)
  | some (f0 :: f1 :: rest) => apC t v xs f0 f1 rest
  | _ => none
def AppR (o : Option (Int × Int × List Ent)) (w : World) (e : Ending) (w' : World) : Prop :=
  ∃ t1 v1 a c L, e = .returned (.tuple #[.agg #[.int .i64 t1, .int .i64 v1, .slice a L.length c], .bool o.isSome]) ∧ (∀ x, o = some x → x = (t1, v1, L) ∧ Fresh entE 76 2 w.heap.size (.slice a L.length c) L w') ∧ Below w.heap.size w w'
end
section
open Go.RowKit
theorem chkS_isSome (t v : Int) (xs : List Ent) : (chkS t v xs).isSome = stOK t v xs := by
  unfold chkS
  cases stOK t v xs <;> simp
theorem chkS_some {t v : Int} {xs : List Ent} {x : Int × Int × List Ent} (h : chkS t v xs = some x) : x = (t, v, xs) := by
  unfold chkS at h
  split at h
  · simpa using h.symm
  · cases h
theorem str1_ne {f : ByteArray} {c : UInt8} (h : f ≠ str1 c) : (f.toList == [c]) = false := by
  cases hb : (f.toList == [c])
  · rfl
  · exact absurd (by
      have h1 : f.toList = [c] := by simpa using hb
      have h2 : f.toList = (str1 c).toList := by rw [h1]; exact (strOf_toL _).symm
      exact (toList_eq _ _).1 h2) h
theorem str1_is {f : ByteArray} {c : UInt8} (h : f = str1 c) : (f.toList == [c]) = true := by
  subst h
  rw [str1, strOf_toL]
  simp
theorem str1_other {f : ByteArray} {c d : UInt8} (h : f = str1 c) (hd : c ≠ d) : (f.toList == [d]) = false := by
  subst h
  rw [str1, strOf_toL]
  simpa using hd
theorem someT_c (f : ByteArray) (w : World) (h : f.size = 6) (hl : f.size ≤ 65536) : Calls Try.prog 115 #[.string f, .int .i64 2] w (NumsR (some [n0F f, n1F f]) w) := by
  have h1 := someNumbers_c f.data.toList 2 w (by show f.data.toList.length ≤ _; have : f.data.toList.length = f.size := rfl; omega) (by decide)
  have h2 : someN f.data.toList 2 = some [n0F f, n1F f] := by
    unfold someN
    rw [if_pos (by show f.size = _; omega)]
    rfl
  rw [h2] at h1
  exact h1
theorem someT0_c (f : ByteArray) (w : World) (h : f.size ≠ 6) (hl : f.size ≤ 65536) : Calls Try.prog 115 #[.string f, .int .i64 2] w (NumsR none w) := by
  have h1 := someNumbers_c f.data.toList 2 w (by show f.data.toList.length ≤ _; have : f.data.toList.length = f.size := rfl; omega) (by decide)
  have h2 : someN f.data.toList 2 = none := by
    unfold someN
    rw [if_neg (by show ¬ (f.size = _); omega)]
  rw [h2] at h1
  exact h1
theorem someX_c (f : ByteArray) (w : World) (h : f.size = 3) (hl : f.size ≤ 65536) : Calls Try.prog 115 #[.string f, .int .i64 1] w (NumsR (some [n0F f]) w) := by
  have h1 := someNumbers_c f.data.toList 1 w (by show f.data.toList.length ≤ _; have : f.data.toList.length = f.size := rfl; omega) (by decide)
  have h2 : someN f.data.toList 1 = some [n0F f] := by
    unfold someN
    rw [if_pos (by show f.size = _; omega)]
    rfl
  rw [h2] at h1
  exact h1
theorem someX0_c (f : ByteArray) (w : World) (h : f.size ≠ 3) (hl : f.size ≤ 65536) : Calls Try.prog 115 #[.string f, .int .i64 1] w (NumsR none w) := by
  have h1 := someNumbers_c f.data.toList 1 w (by show f.data.toList.length ≤ _; have : f.data.toList.length = f.size := rfl; omega) (by decide)
  have h2 : someN f.data.toList 1 = none := by
    unfold someN
    rw [if_neg (by show ¬ (f.size = _); omega)]
  rw [h2] at h1
  exact h1
set_option maxRecDepth 100000 in
set_option maxHeartbeats 16000000 in
theorem implApp_short (a : Option Addr) (ca : Nat) (xs : List Ent) (t v : Int) (l0 : List UInt8) (w : World) (ha : Sl entE 2 w a xs) (lx : xs.length ≤ 60) (hs : ∀ e ∈ xs, e.2.size ≤ 65536) (h0 : l0.length ≤ 65536) (F0 : Option (List ByteArray)) (ho : rdAll l0 = F0) (hF : ∀ F, F0 = some F → F.length < 2) :
    Calls Try.prog 102 #[.agg #[.int .i64 t, .int .i64 v, .slice a xs.length ca], .string (strOf l0)] w (AppR none w) := by
  have HO := Lib.hid ho
  have HF := Lib.hid hF
  clear hs ho hF
  go_enter Try.func102, Try.ntmps102
  go_wp2_with fail
  refine (readFields_c l0 _ h0).mono ?_
  rw [HO.out]
  rintro e w1 ⟨aF, cF, F, rfl, hfF, hF, hb1⟩
  have hz1' := hb1.size
  simp only [World.size_alloc] at hz1'
  have HB1 : Hid (Below w.heap.size w w1) := (by repeat (first | exact Below.refl _ _ | (refine Below.alloc ?_ (by (try simp) <;> (try omega)) _) | (refine Below.setCell ?_ (by (try simp) <;> (try omega)) _) | (refine Below.drew ?_) | (refine Below.trans ?_ (Below.mono (by assumption) (by (try simp) <;> (try omega))))))
  have r1_0 : w1.cell? ⟨w.heap.size + 1, 0, none⟩ = some (.int .i64 0) := by
    rw [hb1.cell (p := ⟨w.heap.size + 1, 0, none⟩) (show w.heap.size + 1 < _ by (try simp) <;> (try omega))]
    first | assumption | (simp [go_sem, *])
  have r1_1 : w1.cell? ⟨w.heap.size + 1, 1, none⟩ = some (.int .i64 0) := by
    rw [hb1.cell (p := ⟨w.heap.size + 1, 1, none⟩) (show w.heap.size + 1 < _ by (try simp) <;> (try omega))]
    first | assumption | (simp [go_sem, *])
  have r1_2 : w1.cell? ⟨w.heap.size + 1, 2, none⟩ = some (.slice none 0 0) := by
    rw [hb1.cell (p := ⟨w.heap.size + 1, 2, none⟩) (show w.heap.size + 1 < _ by (try simp) <;> (try omega))]
    first | assumption | (simp [go_sem, *])
  have rf1 : ∀ o, w1.frozen? ⟨w.heap.size + 1, o, none⟩ = false := fun o => by
    rw [hb1.frozen (p := ⟨w.heap.size + 1, o, none⟩) (show w.heap.size + 1 < _ by (try simp) <;> (try omega))]
    simp [go_sem]
  have rl1 : w.heap.size + 1 < w1.heap.size := by omega
  cases F0 with
  | none =>
    go_wp2_with fail
    refine bodyPost_ret (v := .tuple #[.agg #[.int .i64 0, .int .i64 0, .slice none 0 0], .bool false]) (by simp [results, Try.results102, go_sem, r1_0, r1_1, r1_2]) rfl ?_
    exact ⟨0, 0, none, 0, [], rfl, (fun _ h => by cases h), (((HB1.out).setCell (by simp) _).setCell (by simp) _).setCell (by simp) _⟩
  | some F' =>
    have hlt : (F.length : Int) < 2 := by
      have h1 := HF.out F' rfl
      rw [hF F' rfl]
      omega
    clear hF
    go_wp2_with fail
    refine bodyPost_ret (v := .tuple #[.agg #[.int .i64 0, .int .i64 0, .slice none 0 0], .bool false]) (by simp [results, Try.results102, go_sem, r1_0, r1_1, r1_2]) rfl ?_
    exact ⟨0, 0, none, 0, [], rfl, (fun _ h => by cases h), (((HB1.out).setCell (by simp) _).setCell (by simp) _).setCell (by simp) _⟩
set_option maxRecDepth 100000 in
set_option maxHeartbeats 16000000 in
theorem implApp_Tsz (a : Option Addr) (ca : Nat) (xs : List Ent) (t v : Int) (l0 : List UInt8) (w : World) (ha : Sl entE 2 w a xs) (lx : xs.length ≤ 60) (hs : ∀ e ∈ xs, e.2.size ≤ 65536) (h0 : l0.length ≤ 65536) (f0 f1 : ByteArray) (rest : List ByteArray) (ho : rdAll l0 = some (f0 :: f1 :: rest)) (hT : f0 = str1 116) (hsz : f1.size ≠ 6) :
    Calls Try.prog 102 #[.agg #[.int .i64 t, .int .i64 v, .slice a xs.length ca], .string (strOf l0)] w (AppR (none) w) := by
  obtain ⟨i0, hi, hz0, hz1, hz2⟩ := info_parts Try.infoEntry
  have HS := Lib.hid hs
  have HO := Lib.hid ho
  have HFZ := Lib.hid (rdAll_size l0 _ ho)
  have hF1 := HFZ.out f1 (by simp)
  have HF2 : Hid (∀ s ∈ rest, s.size ≤ l0.length) := Lib.hid fun s (hs : s ∈ rest) => HFZ.out s (by simp [hs])
  clear hs ho HFZ
  have HT := Lib.hid hT
  clear hT
  go_enter Try.func102, Try.ntmps102
  go_wp2_with fail
  refine (readFields_c l0 _ h0).mono ?_
  rw [HO.out]
  rintro e w1 ⟨aF, cF, F, rfl, hfF, hF, hb1⟩
  have hF' := hF _ rfl
  have hSF : Sl strE 1 w1 aF F := hfF.sl (fun _ => rfl)
  rw [hF'] at hSF
  have hnF : F.length = rest.length + 2 := by rw [hF']; rfl
  clear hfF hF hF'
  generalize F.length = nF at *
  obtain ⟨bF, oF, rfl, hbF, hcF⟩ := hSF.at (i := 0) (by simp)
  have d1_0 : w1.cell? ⟨bF, oF, none⟩ = some (.string f0) := by
    have := hcF 0 (by simp) 0 (by omega)
    simpa [strE] using this
  have d1_1 : w1.cell? ⟨bF, oF + 1, none⟩ = some (.string f1) := by
    have := hcF 1 (by simp) 0 (by omega)
    simpa [strE] using this
  have D1 : Hid (∀ f2 r', rest = f2 :: r' → w1.cell? ⟨bF, oF + 2, none⟩ = some (.string f2)) := Lib.hid fun f2 r' h => by
    subst h
    have := hcF 2 (by simp) 0 (by omega)
    simpa [strE] using this
  clear hcF hSF
  have hz1' := hb1.size
  simp only [World.size_alloc] at hz1'
  have HB1 : Hid (Below w.heap.size w w1) := (by repeat (first | exact Below.refl _ _ | (refine Below.alloc ?_ (by (try simp) <;> (try omega)) _) | (refine Below.setCell ?_ (by (try simp) <;> (try omega)) _) | (refine Below.drew ?_) | (refine Below.trans ?_ (Below.mono (by assumption) (by (try simp) <;> (try omega))))))
  have HA1 := Lib.hid (ha.keep HB1.out)
  have q1_0 : w1.cell? ⟨w.heap.size, 0, none⟩ = some (.int .i64 t) := by
    rw [hb1.cell (p := ⟨w.heap.size, 0, none⟩) (show w.heap.size < _ by (try simp) <;> (try omega))]
    first | assumption | (simp [go_sem, *])
  have q1_1 : w1.cell? ⟨w.heap.size, 1, none⟩ = some (.int .i64 v) := by
    rw [hb1.cell (p := ⟨w.heap.size, 1, none⟩) (show w.heap.size < _ by (try simp) <;> (try omega))]
    first | assumption | (simp [go_sem, *])
  have q1_2 : w1.cell? ⟨w.heap.size, 2, none⟩ = some (.slice a xs.length ca) := by
    rw [hb1.cell (p := ⟨w.heap.size, 2, none⟩) (show w.heap.size < _ by (try simp) <;> (try omega))]
    first | assumption | (simp [go_sem, *])
  have ql1 : w.heap.size < w1.heap.size := by omega
  have r1_0 : w1.cell? ⟨w.heap.size + 1, 0, none⟩ = some (.int .i64 0) := by
    rw [hb1.cell (p := ⟨w.heap.size + 1, 0, none⟩) (show w.heap.size + 1 < _ by (try simp) <;> (try omega))]
    first | assumption | (simp [go_sem, *])
  have r1_1 : w1.cell? ⟨w.heap.size + 1, 1, none⟩ = some (.int .i64 0) := by
    rw [hb1.cell (p := ⟨w.heap.size + 1, 1, none⟩) (show w.heap.size + 1 < _ by (try simp) <;> (try omega))]
    first | assumption | (simp [go_sem, *])
  have r1_2 : w1.cell? ⟨w.heap.size + 1, 2, none⟩ = some (.slice none 0 0) := by
    rw [hb1.cell (p := ⟨w.heap.size + 1, 2, none⟩) (show w.heap.size + 1 < _ by (try simp) <;> (try omega))]
    first | assumption | (simp [go_sem, *])
  have rf1 : ∀ o, w1.frozen? ⟨w.heap.size + 1, o, none⟩ = false := fun o => by
    rw [hb1.frozen (p := ⟨w.heap.size + 1, o, none⟩) (show w.heap.size + 1 < _ by (try simp) <;> (try omega))]
    simp [go_sem]
  have rl1 : w.heap.size + 1 < w1.heap.size := by omega
  clear hb1
  have hlt : decide ((nF : Int) < 2) = false := by simp; omega
  have hlt2 : ¬ ((nF : Int) < 2) := by omega
  have hi0' : (0 : Int) < (nF : Int) := by omega
  have hi1' : (1 : Int) < (nF : Int) := by omega
  have HNF := Lib.hid hnF
  clear hnF
  go_wp2_with fail
  refine (cloneState_c a ca xs t v _ HA1.out (by omega)).mono ?_
  rintro e w2 ⟨a2, c2, rfl, hf2, hb2⟩
  have hz2' := hb2.size
  have q2_0 : w2.cell? ⟨w.heap.size, 0, none⟩ = some (.int .i64 t) := by
    rw [hb2.cell (p := ⟨w.heap.size, 0, none⟩) (show w.heap.size < _ by (try simp) <;> (try omega))]
    first | assumption | (simp [go_sem, *])
  have q2_1 : w2.cell? ⟨w.heap.size, 1, none⟩ = some (.int .i64 v) := by
    rw [hb2.cell (p := ⟨w.heap.size, 1, none⟩) (show w.heap.size < _ by (try simp) <;> (try omega))]
    first | assumption | (simp [go_sem, *])
  have q2_2 : w2.cell? ⟨w.heap.size, 2, none⟩ = some (.slice a xs.length ca) := by
    rw [hb2.cell (p := ⟨w.heap.size, 2, none⟩) (show w.heap.size < _ by (try simp) <;> (try omega))]
    first | assumption | (simp [go_sem, *])
  have ql2 : w.heap.size < w2.heap.size := by omega
  have r2_0 : w2.cell? ⟨w.heap.size + 1, 0, none⟩ = some (.int .i64 0) := by
    rw [hb2.cell (p := ⟨w.heap.size + 1, 0, none⟩) (show w.heap.size + 1 < _ by (try simp) <;> (try omega))]
    first | assumption | (simp [go_sem, *])
  have r2_1 : w2.cell? ⟨w.heap.size + 1, 1, none⟩ = some (.int .i64 0) := by
    rw [hb2.cell (p := ⟨w.heap.size + 1, 1, none⟩) (show w.heap.size + 1 < _ by (try simp) <;> (try omega))]
    first | assumption | (simp [go_sem, *])
  have r2_2 : w2.cell? ⟨w.heap.size + 1, 2, none⟩ = some (.slice none 0 0) := by
    rw [hb2.cell (p := ⟨w.heap.size + 1, 2, none⟩) (show w.heap.size + 1 < _ by (try simp) <;> (try omega))]
    first | assumption | (simp [go_sem, *])
  have rf2 : ∀ o, w2.frozen? ⟨w.heap.size + 1, o, none⟩ = false := fun o => by
    rw [hb2.frozen (p := ⟨w.heap.size + 1, o, none⟩) (show w.heap.size + 1 < _ by (try simp) <;> (try omega))]
    first | exact rf1 o | (simp [go_sem]; done) | (rw [((Below.refl _ _).alloc (Nat.le_refl _) _ : Below _ _ _).frozen (p := ⟨w.heap.size + 1, o, none⟩) (show w.heap.size + 1 < _ by omega)]; exact rf1 o)
  have rl2 : w.heap.size + 1 < w2.heap.size := by omega
  have d2_0 : w2.cell? ⟨bF, oF, none⟩ = some (.string f0) := by
    rw [hb2.cell (p := ⟨bF, oF, none⟩) (by show bF < _; omega)]
    exact d1_0
  have d2_1 : w2.cell? ⟨bF, oF + 1, none⟩ = some (.string f1) := by
    rw [hb2.cell (p := ⟨bF, oF + 1, none⟩) (by show bF < _; omega)]
    exact d1_1
  have D2 : Hid (∀ f2 r', rest = f2 :: r' → w2.cell? ⟨bF, oF + 2, none⟩ = some (.string f2)) := Lib.hid (fun f2 r' h => by
    rw [hb2.cell (p := ⟨bF, oF + 2, none⟩) (by show bF < _; omega)]
    exact D1.out f2 r' h)
  have HB2 : Hid (Below w.heap.size w w2) := HB1.out.trans (hb2.mono (by omega))
  have HL2 := Lib.hid (hf2.here.alloc (.cells #[.int .i64 t, .int .i64 v, .slice a2 xs.length c2] 60))
  have hbF2 : bF < w2.heap.size := by omega
  clear hb2 hf2 d1_0 d1_1 D1 HB1 HA1 q1_0 q1_1 q1_2 r1_0 r1_1 r1_2 rf1
  have e0 : (f0.toList == [116]) = true := str1_is HT.out
  go_wp2_with fail
  refine (someT0_c f1 _ hsz (by omega)).mono ?_
  rintro e w3 ⟨aN, cN, N, rfl, hfN, hN, hb3⟩
  have hz3' := hb3.size
  simp only [World.size_alloc] at hz3'
  have HB3 : Hid (Below w.heap.size w w3) := (HB2.out.alloc (by omega) (.cells #[.int .i64 t, .int .i64 v, .slice a2 xs.length c2] 60)).trans (hb3.mono (by (try simp) <;> (try omega)))
  have q3_0 : w3.cell? ⟨w.heap.size, 0, none⟩ = some (.int .i64 t) := by
    rw [hb3.cell (p := ⟨w.heap.size, 0, none⟩) (show w.heap.size < _ by (try simp) <;> (try omega))]
    first | assumption | (simp [go_sem, *])
  have q3_1 : w3.cell? ⟨w.heap.size, 1, none⟩ = some (.int .i64 v) := by
    rw [hb3.cell (p := ⟨w.heap.size, 1, none⟩) (show w.heap.size < _ by (try simp) <;> (try omega))]
    first | assumption | (simp [go_sem, *])
  have q3_2 : w3.cell? ⟨w.heap.size, 2, none⟩ = some (.slice a xs.length ca) := by
    rw [hb3.cell (p := ⟨w.heap.size, 2, none⟩) (show w.heap.size < _ by (try simp) <;> (try omega))]
    first | assumption | (simp [go_sem, *])
  have ql3 : w.heap.size < w3.heap.size := by omega
  have r3_0 : w3.cell? ⟨w.heap.size + 1, 0, none⟩ = some (.int .i64 0) := by
    rw [hb3.cell (p := ⟨w.heap.size + 1, 0, none⟩) (show w.heap.size + 1 < _ by (try simp) <;> (try omega))]
    first | assumption | (simp [go_sem, *])
  have r3_1 : w3.cell? ⟨w.heap.size + 1, 1, none⟩ = some (.int .i64 0) := by
    rw [hb3.cell (p := ⟨w.heap.size + 1, 1, none⟩) (show w.heap.size + 1 < _ by (try simp) <;> (try omega))]
    first | assumption | (simp [go_sem, *])
  have r3_2 : w3.cell? ⟨w.heap.size + 1, 2, none⟩ = some (.slice none 0 0) := by
    rw [hb3.cell (p := ⟨w.heap.size + 1, 2, none⟩) (show w.heap.size + 1 < _ by (try simp) <;> (try omega))]
    first | assumption | (simp [go_sem, *])
  have rf3 : ∀ o, w3.frozen? ⟨w.heap.size + 1, o, none⟩ = false := fun o => by
    rw [hb3.frozen (p := ⟨w.heap.size + 1, o, none⟩) (show w.heap.size + 1 < _ by (try simp) <;> (try omega))]
    first | exact rf2 o | (simp [go_sem]; done) | (rw [((Below.refl _ _).alloc (Nat.le_refl _) _ : Below _ _ _).frozen (p := ⟨w.heap.size + 1, o, none⟩) (show w.heap.size + 1 < _ by omega)]; exact rf2 o)
  have rl3 : w.heap.size + 1 < w3.heap.size := by omega
  have s3_0 : w3.cell? ⟨w2.heap.size, 0, none⟩ = some (.int .i64 t) := by
    rw [hb3.cell (p := ⟨w2.heap.size, 0, none⟩) (show w2.heap.size < _ by (try simp) <;> (try omega))]
    first | assumption | (simp [go_sem, *])
  have s3_1 : w3.cell? ⟨w2.heap.size, 1, none⟩ = some (.int .i64 v) := by
    rw [hb3.cell (p := ⟨w2.heap.size, 1, none⟩) (show w2.heap.size < _ by (try simp) <;> (try omega))]
    first | assumption | (simp [go_sem, *])
  have s3_2 : w3.cell? ⟨w2.heap.size, 2, none⟩ = some (.slice a2 xs.length c2) := by
    rw [hb3.cell (p := ⟨w2.heap.size, 2, none⟩) (show w2.heap.size < _ by (try simp) <;> (try omega))]
    first | assumption | (simp [go_sem, *])
  have sf3 : ∀ o, w3.frozen? ⟨w2.heap.size, o, none⟩ = false := fun o => by
    rw [hb3.frozen (p := ⟨w2.heap.size, o, none⟩) (show w2.heap.size < _ by (try simp) <;> (try omega))]
    first | exact sf2 o | (simp [go_sem]; done) | (rw [((Below.refl _ _).alloc (Nat.le_refl _) _ : Below _ _ _).frozen (p := ⟨w2.heap.size, o, none⟩) (show w2.heap.size < _ by omega)]; exact sf2 o)
  have sl3 : w2.heap.size < w3.heap.size := by omega
  have d3_0 : w3.cell? ⟨bF, oF, none⟩ = some (.string f0) := by
    rw [hb3.cell (p := ⟨bF, oF, none⟩) (by show bF < _; simp; omega), World.cell?_alloc_lt _ _ _ (by show bF < _; omega)]
    exact d2_0
  have D3 : Hid (∀ f2 r', rest = f2 :: r' → w3.cell? ⟨bF, oF + 2, none⟩ = some (.string f2)) := Lib.hid (fun f2 r' h => by
    rw [hb3.cell (p := ⟨bF, oF + 2, none⟩) (by show bF < _; simp; omega), World.cell?_alloc_lt _ _ _ (by show bF < _; omega)]
    exact D2.out f2 r' h)
  have HL3 := Lib.hid (HL2.out.below hb3)
  have hbF3 : bF < w3.heap.size := by omega
  clear hb3 d2_0 d2_1 D2 HB2 HL2 q2_0 q2_1 q2_2 r2_0 r2_1 r2_2 rf2
  clear hfN hN
  go_wp2_with fail
  refine bodyPost_ret (v := .tuple #[.agg #[.int .i64 0, .int .i64 0, .slice none 0 0], .bool false]) (by simp [results, Try.results102, go_sem, r3_0, r3_1, r3_2]) rfl ?_
  exact ⟨0, 0, none, 0, [], rfl, (fun _ h => by cases h), (((HB3.out).setCell (by simp) _).setCell (by simp) _).setCell (by simp) _⟩
end
section
open Go.RowKit
set_option maxRecDepth 100000 in
set_option maxHeartbeats 16000000 in
theorem implApp_Tok (a : Option Addr) (ca : Nat) (xs : List Ent) (t v : Int) (l0 : List UInt8) (w : World) (ha : Sl entE 2 w a xs) (lx : xs.length ≤ 60) (hs : ∀ e ∈ xs, e.2.size ≤ 65536) (h0 : l0.length ≤ 65536) (f0 f1 : ByteArray) (rest : List ByteArray) (ho : rdAll l0 = some (f0 :: f1 :: rest)) (hT : f0 = str1 116) (hsz : f1.size = 6) (hr : rest.length = 0) (hle : t ≤ n0F f1) :
    Calls Try.prog 102 #[.agg #[.int .i64 t, .int .i64 v, .slice a xs.length ca], .string (strOf l0)] w (AppR (chkS (n0F f1) (n1F f1) xs) w) := by
  obtain ⟨i0, hi, hz0, hz1, hz2⟩ := info_parts Try.infoEntry
  have HS := Lib.hid hs
  have HO := Lib.hid ho
  have HFZ := Lib.hid (rdAll_size l0 _ ho)
  have hF1 := HFZ.out f1 (by simp)
  have HF2 : Hid (∀ s ∈ rest, s.size ≤ l0.length) := Lib.hid fun s (hs : s ∈ rest) => HFZ.out s (by simp [hs])
  clear hs ho HFZ
  have HT := Lib.hid hT
  clear hT
  go_enter Try.func102, Try.ntmps102
  go_wp2_with fail
  refine (readFields_c l0 _ h0).mono ?_
  rw [HO.out]
  rintro e w1 ⟨aF, cF, F, rfl, hfF, hF, hb1⟩
  have hF' := hF _ rfl
  have hSF : Sl strE 1 w1 aF F := hfF.sl (fun _ => rfl)
  rw [hF'] at hSF
  have hnF : F.length = rest.length + 2 := by rw [hF']; rfl
  clear hfF hF hF'
  generalize F.length = nF at *
  obtain ⟨bF, oF, rfl, hbF, hcF⟩ := hSF.at (i := 0) (by simp)
  have d1_0 : w1.cell? ⟨bF, oF, none⟩ = some (.string f0) := by
    have := hcF 0 (by simp) 0 (by omega)
    simpa [strE] using this
  have d1_1 : w1.cell? ⟨bF, oF + 1, none⟩ = some (.string f1) := by
    have := hcF 1 (by simp) 0 (by omega)
    simpa [strE] using this
  have D1 : Hid (∀ f2 r', rest = f2 :: r' → w1.cell? ⟨bF, oF + 2, none⟩ = some (.string f2)) := Lib.hid fun f2 r' h => by
    subst h
    have := hcF 2 (by simp) 0 (by omega)
    simpa [strE] using this
  clear hcF hSF
  have hz1' := hb1.size
  simp only [World.size_alloc] at hz1'
  have HB1 : Hid (Below w.heap.size w w1) := (by repeat (first | exact Below.refl _ _ | (refine Below.alloc ?_ (by (try simp) <;> (try omega)) _) | (refine Below.setCell ?_ (by (try simp) <;> (try omega)) _) | (refine Below.drew ?_) | (refine Below.trans ?_ (Below.mono (by assumption) (by (try simp) <;> (try omega))))))
  have HA1 := Lib.hid (ha.keep HB1.out)
  have q1_0 : w1.cell? ⟨w.heap.size, 0, none⟩ = some (.int .i64 t) := by
    rw [hb1.cell (p := ⟨w.heap.size, 0, none⟩) (show w.heap.size < _ by (try simp) <;> (try omega))]
    first | assumption | (simp [go_sem, *])
  have q1_1 : w1.cell? ⟨w.heap.size, 1, none⟩ = some (.int .i64 v) := by
    rw [hb1.cell (p := ⟨w.heap.size, 1, none⟩) (show w.heap.size < _ by (try simp) <;> (try omega))]
    first | assumption | (simp [go_sem, *])
  have q1_2 : w1.cell? ⟨w.heap.size, 2, none⟩ = some (.slice a xs.length ca) := by
    rw [hb1.cell (p := ⟨w.heap.size, 2, none⟩) (show w.heap.size < _ by (try simp) <;> (try omega))]
    first | assumption | (simp [go_sem, *])
  have ql1 : w.heap.size < w1.heap.size := by omega
  have r1_0 : w1.cell? ⟨w.heap.size + 1, 0, none⟩ = some (.int .i64 0) := by
    rw [hb1.cell (p := ⟨w.heap.size + 1, 0, none⟩) (show w.heap.size + 1 < _ by (try simp) <;> (try omega))]
    first | assumption | (simp [go_sem, *])
  have r1_1 : w1.cell? ⟨w.heap.size + 1, 1, none⟩ = some (.int .i64 0) := by
    rw [hb1.cell (p := ⟨w.heap.size + 1, 1, none⟩) (show w.heap.size + 1 < _ by (try simp) <;> (try omega))]
    first | assumption | (simp [go_sem, *])
  have r1_2 : w1.cell? ⟨w.heap.size + 1, 2, none⟩ = some (.slice none 0 0) := by
    rw [hb1.cell (p := ⟨w.heap.size + 1, 2, none⟩) (show w.heap.size + 1 < _ by (try simp) <;> (try omega))]
    first | assumption | (simp [go_sem, *])
  have rf1 : ∀ o, w1.frozen? ⟨w.heap.size + 1, o, none⟩ = false := fun o => by
    rw [hb1.frozen (p := ⟨w.heap.size + 1, o, none⟩) (show w.heap.size + 1 < _ by (try simp) <;> (try omega))]
    simp [go_sem]
  have rl1 : w.heap.size + 1 < w1.heap.size := by omega
  clear hb1
  have hlt : decide ((nF : Int) < 2) = false := by simp; omega
  have hlt2 : ¬ ((nF : Int) < 2) := by omega
  have hi0' : (0 : Int) < (nF : Int) := by omega
  have hi1' : (1 : Int) < (nF : Int) := by omega
  have HNF := Lib.hid hnF
  clear hnF
  go_wp2_with fail
  refine (cloneState_c a ca xs t v _ HA1.out (by omega)).mono ?_
  rintro e w2 ⟨a2, c2, rfl, hf2, hb2⟩
  have hz2' := hb2.size
  have q2_0 : w2.cell? ⟨w.heap.size, 0, none⟩ = some (.int .i64 t) := by
    rw [hb2.cell (p := ⟨w.heap.size, 0, none⟩) (show w.heap.size < _ by (try simp) <;> (try omega))]
    first | assumption | (simp [go_sem, *])
  have q2_1 : w2.cell? ⟨w.heap.size, 1, none⟩ = some (.int .i64 v) := by
    rw [hb2.cell (p := ⟨w.heap.size, 1, none⟩) (show w.heap.size < _ by (try simp) <;> (try omega))]
    first | assumption | (simp [go_sem, *])
  have q2_2 : w2.cell? ⟨w.heap.size, 2, none⟩ = some (.slice a xs.length ca) := by
    rw [hb2.cell (p := ⟨w.heap.size, 2, none⟩) (show w.heap.size < _ by (try simp) <;> (try omega))]
    first | assumption | (simp [go_sem, *])
  have ql2 : w.heap.size < w2.heap.size := by omega
  have r2_0 : w2.cell? ⟨w.heap.size + 1, 0, none⟩ = some (.int .i64 0) := by
    rw [hb2.cell (p := ⟨w.heap.size + 1, 0, none⟩) (show w.heap.size + 1 < _ by (try simp) <;> (try omega))]
    first | assumption | (simp [go_sem, *])
  have r2_1 : w2.cell? ⟨w.heap.size + 1, 1, none⟩ = some (.int .i64 0) := by
    rw [hb2.cell (p := ⟨w.heap.size + 1, 1, none⟩) (show w.heap.size + 1 < _ by (try simp) <;> (try omega))]
    first | assumption | (simp [go_sem, *])
  have r2_2 : w2.cell? ⟨w.heap.size + 1, 2, none⟩ = some (.slice none 0 0) := by
    rw [hb2.cell (p := ⟨w.heap.size + 1, 2, none⟩) (show w.heap.size + 1 < _ by (try simp) <;> (try omega))]
    first | assumption | (simp [go_sem, *])
  have rf2 : ∀ o, w2.frozen? ⟨w.heap.size + 1, o, none⟩ = false := fun o => by
    rw [hb2.frozen (p := ⟨w.heap.size + 1, o, none⟩) (show w.heap.size + 1 < _ by (try simp) <;> (try omega))]
    first | exact rf1 o | (simp [go_sem]; done) | (rw [((Below.refl _ _).alloc (Nat.le_refl _) _ : Below _ _ _).frozen (p := ⟨w.heap.size + 1, o, none⟩) (show w.heap.size + 1 < _ by omega)]; exact rf1 o)
  have rl2 : w.heap.size + 1 < w2.heap.size := by omega
  have d2_0 : w2.cell? ⟨bF, oF, none⟩ = some (.string f0) := by
    rw [hb2.cell (p := ⟨bF, oF, none⟩) (by show bF < _; omega)]
    exact d1_0
  have d2_1 : w2.cell? ⟨bF, oF + 1, none⟩ = some (.string f1) := by
    rw [hb2.cell (p := ⟨bF, oF + 1, none⟩) (by show bF < _; omega)]
    exact d1_1
  have D2 : Hid (∀ f2 r', rest = f2 :: r' → w2.cell? ⟨bF, oF + 2, none⟩ = some (.string f2)) := Lib.hid (fun f2 r' h => by
    rw [hb2.cell (p := ⟨bF, oF + 2, none⟩) (by show bF < _; omega)]
    exact D1.out f2 r' h)
  have HB2 : Hid (Below w.heap.size w w2) := HB1.out.trans (hb2.mono (by omega))
  have HL2 := Lib.hid (hf2.here.alloc (.cells #[.int .i64 t, .int .i64 v, .slice a2 xs.length c2] 60))
  have hbF2 : bF < w2.heap.size := by omega
  clear hb2 hf2 d1_0 d1_1 D1 HB1 HA1 q1_0 q1_1 q1_2 r1_0 r1_1 r1_2 rf1
  have e0 : (f0.toList == [116]) = true := str1_is HT.out
  go_wp2_with fail
  refine (someT_c f1 _ hsz (by omega)).mono ?_
  rintro e w3 ⟨aN, cN, N, rfl, hfN, hN, hb3⟩
  have hz3' := hb3.size
  simp only [World.size_alloc] at hz3'
  have HB3 : Hid (Below w.heap.size w w3) := (HB2.out.alloc (by omega) (.cells #[.int .i64 t, .int .i64 v, .slice a2 xs.length c2] 60)).trans (hb3.mono (by (try simp) <;> (try omega)))
  have q3_0 : w3.cell? ⟨w.heap.size, 0, none⟩ = some (.int .i64 t) := by
    rw [hb3.cell (p := ⟨w.heap.size, 0, none⟩) (show w.heap.size < _ by (try simp) <;> (try omega))]
    first | assumption | (simp [go_sem, *])
  have q3_1 : w3.cell? ⟨w.heap.size, 1, none⟩ = some (.int .i64 v) := by
    rw [hb3.cell (p := ⟨w.heap.size, 1, none⟩) (show w.heap.size < _ by (try simp) <;> (try omega))]
    first | assumption | (simp [go_sem, *])
  have q3_2 : w3.cell? ⟨w.heap.size, 2, none⟩ = some (.slice a xs.length ca) := by
    rw [hb3.cell (p := ⟨w.heap.size, 2, none⟩) (show w.heap.size < _ by (try simp) <;> (try omega))]
    first | assumption | (simp [go_sem, *])
  have ql3 : w.heap.size < w3.heap.size := by omega
  have r3_0 : w3.cell? ⟨w.heap.size + 1, 0, none⟩ = some (.int .i64 0) := by
    rw [hb3.cell (p := ⟨w.heap.size + 1, 0, none⟩) (show w.heap.size + 1 < _ by (try simp) <;> (try omega))]
    first | assumption | (simp [go_sem, *])
  have r3_1 : w3.cell? ⟨w.heap.size + 1, 1, none⟩ = some (.int .i64 0) := by
    rw [hb3.cell (p := ⟨w.heap.size + 1, 1, none⟩) (show w.heap.size + 1 < _ by (try simp) <;> (try omega))]
    first | assumption | (simp [go_sem, *])
  have r3_2 : w3.cell? ⟨w.heap.size + 1, 2, none⟩ = some (.slice none 0 0) := by
    rw [hb3.cell (p := ⟨w.heap.size + 1, 2, none⟩) (show w.heap.size + 1 < _ by (try simp) <;> (try omega))]
    first | assumption | (simp [go_sem, *])
  have rf3 : ∀ o, w3.frozen? ⟨w.heap.size + 1, o, none⟩ = false := fun o => by
    rw [hb3.frozen (p := ⟨w.heap.size + 1, o, none⟩) (show w.heap.size + 1 < _ by (try simp) <;> (try omega))]
    first | exact rf2 o | (simp [go_sem]; done) | (rw [((Below.refl _ _).alloc (Nat.le_refl _) _ : Below _ _ _).frozen (p := ⟨w.heap.size + 1, o, none⟩) (show w.heap.size + 1 < _ by omega)]; exact rf2 o)
  have rl3 : w.heap.size + 1 < w3.heap.size := by omega
  have s3_0 : w3.cell? ⟨w2.heap.size, 0, none⟩ = some (.int .i64 t) := by
    rw [hb3.cell (p := ⟨w2.heap.size, 0, none⟩) (show w2.heap.size < _ by (try simp) <;> (try omega))]
    first | assumption | (simp [go_sem, *])
  have s3_1 : w3.cell? ⟨w2.heap.size, 1, none⟩ = some (.int .i64 v) := by
    rw [hb3.cell (p := ⟨w2.heap.size, 1, none⟩) (show w2.heap.size < _ by (try simp) <;> (try omega))]
    first | assumption | (simp [go_sem, *])
  have s3_2 : w3.cell? ⟨w2.heap.size, 2, none⟩ = some (.slice a2 xs.length c2) := by
    rw [hb3.cell (p := ⟨w2.heap.size, 2, none⟩) (show w2.heap.size < _ by (try simp) <;> (try omega))]
    first | assumption | (simp [go_sem, *])
  have sf3 : ∀ o, w3.frozen? ⟨w2.heap.size, o, none⟩ = false := fun o => by
    rw [hb3.frozen (p := ⟨w2.heap.size, o, none⟩) (show w2.heap.size < _ by (try simp) <;> (try omega))]
    first | exact sf2 o | (simp [go_sem]; done) | (rw [((Below.refl _ _).alloc (Nat.le_refl _) _ : Below _ _ _).frozen (p := ⟨w2.heap.size, o, none⟩) (show w2.heap.size < _ by omega)]; exact sf2 o)
  have sl3 : w2.heap.size < w3.heap.size := by omega
  have d3_0 : w3.cell? ⟨bF, oF, none⟩ = some (.string f0) := by
    rw [hb3.cell (p := ⟨bF, oF, none⟩) (by show bF < _; simp; omega), World.cell?_alloc_lt _ _ _ (by show bF < _; omega)]
    exact d2_0
  have D3 : Hid (∀ f2 r', rest = f2 :: r' → w3.cell? ⟨bF, oF + 2, none⟩ = some (.string f2)) := Lib.hid (fun f2 r' h => by
    rw [hb3.cell (p := ⟨bF, oF + 2, none⟩) (by show bF < _; simp; omega), World.cell?_alloc_lt _ _ _ (by show bF < _; omega)]
    exact D2.out f2 r' h)
  have HL3 := Lib.hid (HL2.out.below hb3)
  have hbF3 : bF < w3.heap.size := by omega
  clear hb3 d2_0 d2_1 D2 HB2 HL2 q2_0 q2_1 q2_2 r2_0 r2_1 r2_2 rf2
  have hN' := hN _ rfl
  have hSN : Sl intE 1 w3 aN N := hfN.sl (fun _ => rfl)
  rw [hN'] at hSN
  have hnN : N.length = 2 := by rw [hN']; rfl
  clear hfN hN hN'
  generalize N.length = nN at *
  obtain ⟨bN, oN, rfl, hbN, hcN⟩ := hSN.at (i := 0) (by simp)
  have g3_0 : w3.cell? ⟨bN, oN, none⟩ = some (.int .i64 (n0F f1)) := by
    have := hcN 0 (by simp) 0 (by omega)
    simpa [intE] using this
  have g3_1 : w3.cell? ⟨bN, oN + 1, none⟩ = some (.int .i64 (n1F f1)) := by
    have := hcN 1 (by simp) 0 (by omega)
    simpa [intE] using this
  have hj1' : (1 : Int) < (nN : Int) := by omega
  have hj0' : (0 : Int) < (nN : Int) := by omega
  have HNN := Lib.hid hnN
  clear hcN hSN hnN
  generalize n0F f1 = n0 at *
  generalize n1F f1 = n1 at *
  have h1 := HNF.out
  have e1 : decide ((nF : Int) = 2) = true := by simp; omega
  have e1b : decide (nF = 2) = true := by simp; omega
  have e1c : ((nF : Int) == 2) = true := by simp; omega
  have e2 : decide (t ≤ n0) = true := by simp; exact hle
  clear h1
  have hne1 : ¬ w2.heap.size = w.heap.size + 1 := by omega
  have hne2 : ¬ w.heap.size + 1 = w2.heap.size := by omega
  go_upto_block 0 with fail
  go_cut [5] (fun s wx => s = .bool false ∧ wx.cell? ⟨w2.heap.size, 0, none⟩ = some (.int .i64 n0) ∧ wx.cell? ⟨w2.heap.size, 1, none⟩ = some (.int .i64 n1) ∧ wx.cell? ⟨w2.heap.size, 2, none⟩ = some (.slice a2 xs.length c2) ∧ wx.cell? ⟨w.heap.size + 1, 0, none⟩ = some (.int .i64 0) ∧ wx.cell? ⟨w.heap.size + 1, 1, none⟩ = some (.int .i64 0) ∧ wx.cell? ⟨w.heap.size + 1, 2, none⟩ = some (.slice none 0 0) ∧ (∀ o, wx.frozen? ⟨w.heap.size + 1, o, none⟩ = false) ∧ FreshIn entE 76 2 w1.heap.size w2.heap.size (.slice a2 xs.length c2) (xs) wx ∧ Below w.heap.size w wx ∧ w2.heap.size < wx.heap.size)
  case first =>
    go_wp2_with fail
    go_quiet (fail)
    go_wp2_with fail
    go_region
    all_goals
      go_wp2_with fail
      go_meet
      refine ⟨rfl, ?_, ?_, ?_, ?_, ?_, ?_, ?_, ?_, ?_, ?_⟩
      · simp [go_sem, *]
      · simp [go_sem, *]
      · simp [go_sem, *]
      · simp [go_sem, *]
      · simp [go_sem, *]
      · simp [go_sem, *]
      · intro o
        simp [go_sem, *]
      · repeat (first | exact HL3.out.below (below_drewN _ _ _) | (refine FreshIn.setHi ?_ (Nat.le_refl _) _) | (refine FreshIn.drew ?_))
      · repeat (first | exact HB3.out.trans (below_drewN _ _ _) | (refine Below.setCell ?_ (by show w.heap.size ≤ w2.heap.size; omega) _) | (refine Below.drew ?_))
      · simp; omega
  case rest =>
    have hlL : xs.length ≤ 1048576 := by omega
    have HSL : Hid (∀ s ∈ xs, s.2.size ≤ 1048576) := Lib.hid fun s hs => by have := HS.out s hs; omega
    obtain ⟨rfl, s4_0, s4_1, s4_2, r4_0, r4_1, r4_2, rf4, hfL, hbw, hsw⟩ := hcut
    obtain ⟨w4, hw4⟩ : ∃ x, x = wc := ⟨_, rfl⟩
    subst hw4
    have HLL := Lib.hid hfL
    have HBW := Lib.hid hbw
    clear hfL hbw
    go_wp2_with fail
    go_region_held3 (fun w' => w'.cell? ⟨w2.heap.size, 0, none⟩ = some (.int .i64 n0) ∧ w'.cell? ⟨w2.heap.size, 1, none⟩ = some (.int .i64 n1) ∧ w'.cell? ⟨w2.heap.size, 2, none⟩ = some (.slice a2 xs.length c2))
      (first | ((repeat' apply And.intro) <;> (simp [go_sem, *]; done)) | go_keep)
      (first
        | (go_at_call 100
           refine (isState_c a2 c2 xs n0 n1 _ (HLL.out.drew.sl fun _ => rfl) hlL HSL.out).mono ?_
           rintro e w9 ⟨rfl, hb9⟩
           have hz9 := hb9.size
           try simp at hz9
           have s9_0 : w9.cell? ⟨w2.heap.size, 0, none⟩ = some (.int .i64 n0) := by
             rw [hb9.cell (p := ⟨w2.heap.size, 0, none⟩) (show w2.heap.size < _ by (try simp) <;> (try omega))]
             first | assumption | (simp [go_sem, *])
           have s9_1 : w9.cell? ⟨w2.heap.size, 1, none⟩ = some (.int .i64 n1) := by
             rw [hb9.cell (p := ⟨w2.heap.size, 1, none⟩) (show w2.heap.size < _ by (try simp) <;> (try omega))]
             first | assumption | (simp [go_sem, *])
           have s9_2 : w9.cell? ⟨w2.heap.size, 2, none⟩ = some (.slice a2 xs.length c2) := by
             rw [hb9.cell (p := ⟨w2.heap.size, 2, none⟩) (show w2.heap.size < _ by (try simp) <;> (try omega))]
             first | assumption | (simp [go_sem, *])
           have rf9 : ∀ o, w9.frozen? ⟨w.heap.size + 1, o, none⟩ = false := fun o => by
             rw [hb9.frozen (p := ⟨w.heap.size + 1, o, none⟩) (show w.heap.size + 1 < _ by (try simp) <;> (try omega))]
             first | exact rf4 o | (simp [go_sem, rf4])
           have r9_0 : w9.cell? ⟨w.heap.size + 1, 0, none⟩ = some (.int .i64 0) := by
             rw [hb9.cell (p := ⟨w.heap.size + 1, 0, none⟩) (show w.heap.size + 1 < _ by (try simp) <;> (try omega))]
             exact r4_0
           have r9_1 : w9.cell? ⟨w.heap.size + 1, 1, none⟩ = some (.int .i64 0) := by
             rw [hb9.cell (p := ⟨w.heap.size + 1, 1, none⟩) (show w.heap.size + 1 < _ by (try simp) <;> (try omega))]
             exact r4_1
           have r9_2 : w9.cell? ⟨w.heap.size + 1, 2, none⟩ = some (.slice none 0 0) := by
             rw [hb9.cell (p := ⟨w.heap.size + 1, 2, none⟩) (show w.heap.size + 1 < _ by (try simp) <;> (try omega))]
             exact r4_2
           have HL9 := Lib.hid (HLL.out.drew.below hb9)
           have HB9 : Hid (Below w.heap.size w w9) := HBW.out.drew.trans (hb9.mono (by (try simp) <;> (try omega)))))
    all_goals
      go_wp2_with fail
      refine bodyPost_ret (v := .tuple #[.agg #[.int .i64 n0, .int .i64 n1, .slice a2 xs.length c2], .bool (stOK n0 n1 xs)]) (by simp [results, Try.results102, go_sem, s9_0, s9_1, s9_2, r9_0, r9_1, r9_2, rf9]) rfl ?_
      refine ⟨n0, n1, _, _, xs, by rw [chkS_isSome], fun x hx => ⟨chkS_some hx, ?_⟩, ?_⟩
      · exact (((HL9.out.setCell (by show _ < _; omega) _).setCell (by show _ < _; omega) _).setCell (by show _ < _; omega) _).1.mono (by omega)
      · exact (((HB9.out.setCell (by (try simp) <;> (try omega)) _).setCell (by (try simp) <;> (try omega)) _).setCell (by (try simp) <;> (try omega)) _)
end
section
open Go.RowKit
set_option maxRecDepth 100000 in
set_option maxHeartbeats 16000000 in
theorem implApp_Trest (a : Option Addr) (ca : Nat) (xs : List Ent) (t v : Int) (l0 : List UInt8) (w : World) (ha : Sl entE 2 w a xs) (lx : xs.length ≤ 60) (hs : ∀ e ∈ xs, e.2.size ≤ 65536) (h0 : l0.length ≤ 65536) (f0 f1 : ByteArray) (rest : List ByteArray) (ho : rdAll l0 = some (f0 :: f1 :: rest)) (hT : f0 = str1 116) (hsz : f1.size = 6) (hr : rest.length ≠ 0) :
    Calls Try.prog 102 #[.agg #[.int .i64 t, .int .i64 v, .slice a xs.length ca], .string (strOf l0)] w (AppR (none) w) := by
  obtain ⟨i0, hi, hz0, hz1, hz2⟩ := info_parts Try.infoEntry
  have HS := Lib.hid hs
  have HO := Lib.hid ho
  have HFZ := Lib.hid (rdAll_size l0 _ ho)
  have hF1 := HFZ.out f1 (by simp)
  have HF2 : Hid (∀ s ∈ rest, s.size ≤ l0.length) := Lib.hid fun s (hs : s ∈ rest) => HFZ.out s (by simp [hs])
  clear hs ho HFZ
  have HT := Lib.hid hT
  clear hT
  go_enter Try.func102, Try.ntmps102
  go_wp2_with fail
  refine (readFields_c l0 _ h0).mono ?_
  rw [HO.out]
  rintro e w1 ⟨aF, cF, F, rfl, hfF, hF, hb1⟩
  have hF' := hF _ rfl
  have hSF : Sl strE 1 w1 aF F := hfF.sl (fun _ => rfl)
  rw [hF'] at hSF
  have hnF : F.length = rest.length + 2 := by rw [hF']; rfl
  clear hfF hF hF'
  generalize F.length = nF at *
  obtain ⟨bF, oF, rfl, hbF, hcF⟩ := hSF.at (i := 0) (by simp)
  have d1_0 : w1.cell? ⟨bF, oF, none⟩ = some (.string f0) := by
    have := hcF 0 (by simp) 0 (by omega)
    simpa [strE] using this
  have d1_1 : w1.cell? ⟨bF, oF + 1, none⟩ = some (.string f1) := by
    have := hcF 1 (by simp) 0 (by omega)
    simpa [strE] using this
  have D1 : Hid (∀ f2 r', rest = f2 :: r' → w1.cell? ⟨bF, oF + 2, none⟩ = some (.string f2)) := Lib.hid fun f2 r' h => by
    subst h
    have := hcF 2 (by simp) 0 (by omega)
    simpa [strE] using this
  clear hcF hSF
  have hz1' := hb1.size
  simp only [World.size_alloc] at hz1'
  have HB1 : Hid (Below w.heap.size w w1) := (by repeat (first | exact Below.refl _ _ | (refine Below.alloc ?_ (by (try simp) <;> (try omega)) _) | (refine Below.setCell ?_ (by (try simp) <;> (try omega)) _) | (refine Below.drew ?_) | (refine Below.trans ?_ (Below.mono (by assumption) (by (try simp) <;> (try omega))))))
  have HA1 := Lib.hid (ha.keep HB1.out)
  have q1_0 : w1.cell? ⟨w.heap.size, 0, none⟩ = some (.int .i64 t) := by
    rw [hb1.cell (p := ⟨w.heap.size, 0, none⟩) (show w.heap.size < _ by (try simp) <;> (try omega))]
    first | assumption | (simp [go_sem, *])
  have q1_1 : w1.cell? ⟨w.heap.size, 1, none⟩ = some (.int .i64 v) := by
    rw [hb1.cell (p := ⟨w.heap.size, 1, none⟩) (show w.heap.size < _ by (try simp) <;> (try omega))]
    first | assumption | (simp [go_sem, *])
  have q1_2 : w1.cell? ⟨w.heap.size, 2, none⟩ = some (.slice a xs.length ca) := by
    rw [hb1.cell (p := ⟨w.heap.size, 2, none⟩) (show w.heap.size < _ by (try simp) <;> (try omega))]
    first | assumption | (simp [go_sem, *])
  have ql1 : w.heap.size < w1.heap.size := by omega
  have r1_0 : w1.cell? ⟨w.heap.size + 1, 0, none⟩ = some (.int .i64 0) := by
    rw [hb1.cell (p := ⟨w.heap.size + 1, 0, none⟩) (show w.heap.size + 1 < _ by (try simp) <;> (try omega))]
    first | assumption | (simp [go_sem, *])
  have r1_1 : w1.cell? ⟨w.heap.size + 1, 1, none⟩ = some (.int .i64 0) := by
    rw [hb1.cell (p := ⟨w.heap.size + 1, 1, none⟩) (show w.heap.size + 1 < _ by (try simp) <;> (try omega))]
    first | assumption | (simp [go_sem, *])
  have r1_2 : w1.cell? ⟨w.heap.size + 1, 2, none⟩ = some (.slice none 0 0) := by
    rw [hb1.cell (p := ⟨w.heap.size + 1, 2, none⟩) (show w.heap.size + 1 < _ by (try simp) <;> (try omega))]
    first | assumption | (simp [go_sem, *])
  have rf1 : ∀ o, w1.frozen? ⟨w.heap.size + 1, o, none⟩ = false := fun o => by
    rw [hb1.frozen (p := ⟨w.heap.size + 1, o, none⟩) (show w.heap.size + 1 < _ by (try simp) <;> (try omega))]
    simp [go_sem]
  have rl1 : w.heap.size + 1 < w1.heap.size := by omega
  clear hb1
  have hlt : decide ((nF : Int) < 2) = false := by simp; omega
  have hlt2 : ¬ ((nF : Int) < 2) := by omega
  have hi0' : (0 : Int) < (nF : Int) := by omega
  have hi1' : (1 : Int) < (nF : Int) := by omega
  have HNF := Lib.hid hnF
  clear hnF
  go_wp2_with fail
  refine (cloneState_c a ca xs t v _ HA1.out (by omega)).mono ?_
  rintro e w2 ⟨a2, c2, rfl, hf2, hb2⟩
  have hz2' := hb2.size
  have q2_0 : w2.cell? ⟨w.heap.size, 0, none⟩ = some (.int .i64 t) := by
    rw [hb2.cell (p := ⟨w.heap.size, 0, none⟩) (show w.heap.size < _ by (try simp) <;> (try omega))]
    first | assumption | (simp [go_sem, *])
  have q2_1 : w2.cell? ⟨w.heap.size, 1, none⟩ = some (.int .i64 v) := by
    rw [hb2.cell (p := ⟨w.heap.size, 1, none⟩) (show w.heap.size < _ by (try simp) <;> (try omega))]
    first | assumption | (simp [go_sem, *])
  have q2_2 : w2.cell? ⟨w.heap.size, 2, none⟩ = some (.slice a xs.length ca) := by
    rw [hb2.cell (p := ⟨w.heap.size, 2, none⟩) (show w.heap.size < _ by (try simp) <;> (try omega))]
    first | assumption | (simp [go_sem, *])
  have ql2 : w.heap.size < w2.heap.size := by omega
  have r2_0 : w2.cell? ⟨w.heap.size + 1, 0, none⟩ = some (.int .i64 0) := by
    rw [hb2.cell (p := ⟨w.heap.size + 1, 0, none⟩) (show w.heap.size + 1 < _ by (try simp) <;> (try omega))]
    first | assumption | (simp [go_sem, *])
  have r2_1 : w2.cell? ⟨w.heap.size + 1, 1, none⟩ = some (.int .i64 0) := by
    rw [hb2.cell (p := ⟨w.heap.size + 1, 1, none⟩) (show w.heap.size + 1 < _ by (try simp) <;> (try omega))]
    first | assumption | (simp [go_sem, *])
  have r2_2 : w2.cell? ⟨w.heap.size + 1, 2, none⟩ = some (.slice none 0 0) := by
    rw [hb2.cell (p := ⟨w.heap.size + 1, 2, none⟩) (show w.heap.size + 1 < _ by (try simp) <;> (try omega))]
    first | assumption | (simp [go_sem, *])
  have rf2 : ∀ o, w2.frozen? ⟨w.heap.size + 1, o, none⟩ = false := fun o => by
    rw [hb2.frozen (p := ⟨w.heap.size + 1, o, none⟩) (show w.heap.size + 1 < _ by (try simp) <;> (try omega))]
    first | exact rf1 o | (simp [go_sem]; done) | (rw [((Below.refl _ _).alloc (Nat.le_refl _) _ : Below _ _ _).frozen (p := ⟨w.heap.size + 1, o, none⟩) (show w.heap.size + 1 < _ by omega)]; exact rf1 o)
  have rl2 : w.heap.size + 1 < w2.heap.size := by omega
  have d2_0 : w2.cell? ⟨bF, oF, none⟩ = some (.string f0) := by
    rw [hb2.cell (p := ⟨bF, oF, none⟩) (by show bF < _; omega)]
    exact d1_0
  have d2_1 : w2.cell? ⟨bF, oF + 1, none⟩ = some (.string f1) := by
    rw [hb2.cell (p := ⟨bF, oF + 1, none⟩) (by show bF < _; omega)]
    exact d1_1
  have D2 : Hid (∀ f2 r', rest = f2 :: r' → w2.cell? ⟨bF, oF + 2, none⟩ = some (.string f2)) := Lib.hid (fun f2 r' h => by
    rw [hb2.cell (p := ⟨bF, oF + 2, none⟩) (by show bF < _; omega)]
    exact D1.out f2 r' h)
  have HB2 : Hid (Below w.heap.size w w2) := HB1.out.trans (hb2.mono (by omega))
  have HL2 := Lib.hid (hf2.here.alloc (.cells #[.int .i64 t, .int .i64 v, .slice a2 xs.length c2] 60))
  have hbF2 : bF < w2.heap.size := by omega
  clear hb2 hf2 d1_0 d1_1 D1 HB1 HA1 q1_0 q1_1 q1_2 r1_0 r1_1 r1_2 rf1
  have e0 : (f0.toList == [116]) = true := str1_is HT.out
  go_wp2_with fail
  refine (someT_c f1 _ hsz (by omega)).mono ?_
  rintro e w3 ⟨aN, cN, N, rfl, hfN, hN, hb3⟩
  have hz3' := hb3.size
  simp only [World.size_alloc] at hz3'
  have HB3 : Hid (Below w.heap.size w w3) := (HB2.out.alloc (by omega) (.cells #[.int .i64 t, .int .i64 v, .slice a2 xs.length c2] 60)).trans (hb3.mono (by (try simp) <;> (try omega)))
  have q3_0 : w3.cell? ⟨w.heap.size, 0, none⟩ = some (.int .i64 t) := by
    rw [hb3.cell (p := ⟨w.heap.size, 0, none⟩) (show w.heap.size < _ by (try simp) <;> (try omega))]
    first | assumption | (simp [go_sem, *])
  have q3_1 : w3.cell? ⟨w.heap.size, 1, none⟩ = some (.int .i64 v) := by
    rw [hb3.cell (p := ⟨w.heap.size, 1, none⟩) (show w.heap.size < _ by (try simp) <;> (try omega))]
    first | assumption | (simp [go_sem, *])
  have q3_2 : w3.cell? ⟨w.heap.size, 2, none⟩ = some (.slice a xs.length ca) := by
    rw [hb3.cell (p := ⟨w.heap.size, 2, none⟩) (show w.heap.size < _ by (try simp) <;> (try omega))]
    first | assumption | (simp [go_sem, *])
  have ql3 : w.heap.size < w3.heap.size := by omega
  have r3_0 : w3.cell? ⟨w.heap.size + 1, 0, none⟩ = some (.int .i64 0) := by
    rw [hb3.cell (p := ⟨w.heap.size + 1, 0, none⟩) (show w.heap.size + 1 < _ by (try simp) <;> (try omega))]
    first | assumption | (simp [go_sem, *])
  have r3_1 : w3.cell? ⟨w.heap.size + 1, 1, none⟩ = some (.int .i64 0) := by
    rw [hb3.cell (p := ⟨w.heap.size + 1, 1, none⟩) (show w.heap.size + 1 < _ by (try simp) <;> (try omega))]
    first | assumption | (simp [go_sem, *])
  have r3_2 : w3.cell? ⟨w.heap.size + 1, 2, none⟩ = some (.slice none 0 0) := by
    rw [hb3.cell (p := ⟨w.heap.size + 1, 2, none⟩) (show w.heap.size + 1 < _ by (try simp) <;> (try omega))]
    first | assumption | (simp [go_sem, *])
  have rf3 : ∀ o, w3.frozen? ⟨w.heap.size + 1, o, none⟩ = false := fun o => by
    rw [hb3.frozen (p := ⟨w.heap.size + 1, o, none⟩) (show w.heap.size + 1 < _ by (try simp) <;> (try omega))]
    first | exact rf2 o | (simp [go_sem]; done) | (rw [((Below.refl _ _).alloc (Nat.le_refl _) _ : Below _ _ _).frozen (p := ⟨w.heap.size + 1, o, none⟩) (show w.heap.size + 1 < _ by omega)]; exact rf2 o)
  have rl3 : w.heap.size + 1 < w3.heap.size := by omega
  have s3_0 : w3.cell? ⟨w2.heap.size, 0, none⟩ = some (.int .i64 t) := by
    rw [hb3.cell (p := ⟨w2.heap.size, 0, none⟩) (show w2.heap.size < _ by (try simp) <;> (try omega))]
    first | assumption | (simp [go_sem, *])
  have s3_1 : w3.cell? ⟨w2.heap.size, 1, none⟩ = some (.int .i64 v) := by
    rw [hb3.cell (p := ⟨w2.heap.size, 1, none⟩) (show w2.heap.size < _ by (try simp) <;> (try omega))]
    first | assumption | (simp [go_sem, *])
  have s3_2 : w3.cell? ⟨w2.heap.size, 2, none⟩ = some (.slice a2 xs.length c2) := by
    rw [hb3.cell (p := ⟨w2.heap.size, 2, none⟩) (show w2.heap.size < _ by (try simp) <;> (try omega))]
    first | assumption | (simp [go_sem, *])
  have sf3 : ∀ o, w3.frozen? ⟨w2.heap.size, o, none⟩ = false := fun o => by
    rw [hb3.frozen (p := ⟨w2.heap.size, o, none⟩) (show w2.heap.size < _ by (try simp) <;> (try omega))]
    first | exact sf2 o | (simp [go_sem]; done) | (rw [((Below.refl _ _).alloc (Nat.le_refl _) _ : Below _ _ _).frozen (p := ⟨w2.heap.size, o, none⟩) (show w2.heap.size < _ by omega)]; exact sf2 o)
  have sl3 : w2.heap.size < w3.heap.size := by omega
  have d3_0 : w3.cell? ⟨bF, oF, none⟩ = some (.string f0) := by
    rw [hb3.cell (p := ⟨bF, oF, none⟩) (by show bF < _; simp; omega), World.cell?_alloc_lt _ _ _ (by show bF < _; omega)]
    exact d2_0
  have D3 : Hid (∀ f2 r', rest = f2 :: r' → w3.cell? ⟨bF, oF + 2, none⟩ = some (.string f2)) := Lib.hid (fun f2 r' h => by
    rw [hb3.cell (p := ⟨bF, oF + 2, none⟩) (by show bF < _; simp; omega), World.cell?_alloc_lt _ _ _ (by show bF < _; omega)]
    exact D2.out f2 r' h)
  have HL3 := Lib.hid (HL2.out.below hb3)
  have hbF3 : bF < w3.heap.size := by omega
  clear hb3 d2_0 d2_1 D2 HB2 HL2 q2_0 q2_1 q2_2 r2_0 r2_1 r2_2 rf2
  have hN' := hN _ rfl
  have hSN : Sl intE 1 w3 aN N := hfN.sl (fun _ => rfl)
  rw [hN'] at hSN
  have hnN : N.length = 2 := by rw [hN']; rfl
  clear hfN hN hN'
  generalize N.length = nN at *
  obtain ⟨bN, oN, rfl, hbN, hcN⟩ := hSN.at (i := 0) (by simp)
  have g3_0 : w3.cell? ⟨bN, oN, none⟩ = some (.int .i64 (n0F f1)) := by
    have := hcN 0 (by simp) 0 (by omega)
    simpa [intE] using this
  have g3_1 : w3.cell? ⟨bN, oN + 1, none⟩ = some (.int .i64 (n1F f1)) := by
    have := hcN 1 (by simp) 0 (by omega)
    simpa [intE] using this
  have hj1' : (1 : Int) < (nN : Int) := by omega
  have hj0' : (0 : Int) < (nN : Int) := by omega
  have HNN := Lib.hid hnN
  clear hcN hSN hnN
  generalize n0F f1 = n0 at *
  generalize n1F f1 = n1 at *
  have h1 := HNF.out
  have e1 : decide ((nF : Int) = 2) = false := by simp; omega
  have e1b : decide (nF = 2) = false := by simp; omega
  have e1c : ((nF : Int) == 2) = false := by simp; omega
  have e2 : (f0.toList == [99]) = false := str1_other HT.out (by decide)
  have e3 : (f0.toList == [101]) = false := str1_other HT.out (by decide)
  clear h1
  go_wp2_with fail
  go_quiet (fail)
  go_wp2_with fail
  go_quiet (fail)
  go_wp2_with fail
  refine bodyPost_ret (v := .tuple #[.agg #[.int .i64 0, .int .i64 0, .slice none 0 0], .bool false]) (by simp [results, Try.results102, go_sem, r3_0, r3_1, r3_2]) rfl ?_
  exact ⟨0, 0, none, 0, [], rfl, (fun _ h => by cases h), (((HB3.out.trans (below_drewN _ _ _)).setCell (by simp) _).setCell (by simp) _).setCell (by simp) _⟩
set_option maxRecDepth 100000 in
set_option maxHeartbeats 16000000 in
theorem implApp_Tless (a : Option Addr) (ca : Nat) (xs : List Ent) (t v : Int) (l0 : List UInt8) (w : World) (ha : Sl entE 2 w a xs) (lx : xs.length ≤ 60) (hs : ∀ e ∈ xs, e.2.size ≤ 65536) (h0 : l0.length ≤ 65536) (f0 f1 : ByteArray) (rest : List ByteArray) (ho : rdAll l0 = some (f0 :: f1 :: rest)) (hT : f0 = str1 116) (hsz : f1.size = 6) (hr : rest.length = 0) (hle : ¬ t ≤ n0F f1) :
    Calls Try.prog 102 #[.agg #[.int .i64 t, .int .i64 v, .slice a xs.length ca], .string (strOf l0)] w (AppR (none) w) := by
  obtain ⟨i0, hi, hz0, hz1, hz2⟩ := info_parts Try.infoEntry
  have HS := Lib.hid hs
  have HO := Lib.hid ho
  have HFZ := Lib.hid (rdAll_size l0 _ ho)
  have hF1 := HFZ.out f1 (by simp)
  have HF2 : Hid (∀ s ∈ rest, s.size ≤ l0.length) := Lib.hid fun s (hs : s ∈ rest) => HFZ.out s (by simp [hs])
  clear hs ho HFZ
  have HT := Lib.hid hT
  clear hT
  go_enter Try.func102, Try.ntmps102
  go_wp2_with fail
  refine (readFields_c l0 _ h0).mono ?_
  rw [HO.out]
  rintro e w1 ⟨aF, cF, F, rfl, hfF, hF, hb1⟩
  have hF' := hF _ rfl
  have hSF : Sl strE 1 w1 aF F := hfF.sl (fun _ => rfl)
  rw [hF'] at hSF
  have hnF : F.length = rest.length + 2 := by rw [hF']; rfl
  clear hfF hF hF'
  generalize F.length = nF at *
  obtain ⟨bF, oF, rfl, hbF, hcF⟩ := hSF.at (i := 0) (by simp)
  have d1_0 : w1.cell? ⟨bF, oF, none⟩ = some (.string f0) := by
    have := hcF 0 (by simp) 0 (by omega)
    simpa [strE] using this
  have d1_1 : w1.cell? ⟨bF, oF + 1, none⟩ = some (.string f1) := by
    have := hcF 1 (by simp) 0 (by omega)
    simpa [strE] using this
  have D1 : Hid (∀ f2 r', rest = f2 :: r' → w1.cell? ⟨bF, oF + 2, none⟩ = some (.string f2)) := Lib.hid fun f2 r' h => by
    subst h
    have := hcF 2 (by simp) 0 (by omega)
    simpa [strE] using this
  clear hcF hSF
  have hz1' := hb1.size
  simp only [World.size_alloc] at hz1'
  have HB1 : Hid (Below w.heap.size w w1) := (by repeat (first | exact Below.refl _ _ | (refine Below.alloc ?_ (by (try simp) <;> (try omega)) _) | (refine Below.setCell ?_ (by (try simp) <;> (try omega)) _) | (refine Below.drew ?_) | (refine Below.trans ?_ (Below.mono (by assumption) (by (try simp) <;> (try omega))))))
  have HA1 := Lib.hid (ha.keep HB1.out)
  have q1_0 : w1.cell? ⟨w.heap.size, 0, none⟩ = some (.int .i64 t) := by
    rw [hb1.cell (p := ⟨w.heap.size, 0, none⟩) (show w.heap.size < _ by (try simp) <;> (try omega))]
    first | assumption | (simp [go_sem, *])
  have q1_1 : w1.cell? ⟨w.heap.size, 1, none⟩ = some (.int .i64 v) := by
    rw [hb1.cell (p := ⟨w.heap.size, 1, none⟩) (show w.heap.size < _ by (try simp) <;> (try omega))]
    first | assumption | (simp [go_sem, *])
  have q1_2 : w1.cell? ⟨w.heap.size, 2, none⟩ = some (.slice a xs.length ca) := by
    rw [hb1.cell (p := ⟨w.heap.size, 2, none⟩) (show w.heap.size < _ by (try simp) <;> (try omega))]
    first | assumption | (simp [go_sem, *])
  have ql1 : w.heap.size < w1.heap.size := by omega
  have r1_0 : w1.cell? ⟨w.heap.size + 1, 0, none⟩ = some (.int .i64 0) := by
    rw [hb1.cell (p := ⟨w.heap.size + 1, 0, none⟩) (show w.heap.size + 1 < _ by (try simp) <;> (try omega))]
    first | assumption | (simp [go_sem, *])
  have r1_1 : w1.cell? ⟨w.heap.size + 1, 1, none⟩ = some (.int .i64 0) := by
    rw [hb1.cell (p := ⟨w.heap.size + 1, 1, none⟩) (show w.heap.size + 1 < _ by (try simp) <;> (try omega))]
    first | assumption | (simp [go_sem, *])
  have r1_2 : w1.cell? ⟨w.heap.size + 1, 2, none⟩ = some (.slice none 0 0) := by
    rw [hb1.cell (p := ⟨w.heap.size + 1, 2, none⟩) (show w.heap.size + 1 < _ by (try simp) <;> (try omega))]
    first | assumption | (simp [go_sem, *])
  have rf1 : ∀ o, w1.frozen? ⟨w.heap.size + 1, o, none⟩ = false := fun o => by
    rw [hb1.frozen (p := ⟨w.heap.size + 1, o, none⟩) (show w.heap.size + 1 < _ by (try simp) <;> (try omega))]
    simp [go_sem]
  have rl1 : w.heap.size + 1 < w1.heap.size := by omega
  clear hb1
  have hlt : decide ((nF : Int) < 2) = false := by simp; omega
  have hlt2 : ¬ ((nF : Int) < 2) := by omega
  have hi0' : (0 : Int) < (nF : Int) := by omega
  have hi1' : (1 : Int) < (nF : Int) := by omega
  have HNF := Lib.hid hnF
  clear hnF
  go_wp2_with fail
  refine (cloneState_c a ca xs t v _ HA1.out (by omega)).mono ?_
  rintro e w2 ⟨a2, c2, rfl, hf2, hb2⟩
  have hz2' := hb2.size
  have q2_0 : w2.cell? ⟨w.heap.size, 0, none⟩ = some (.int .i64 t) := by
    rw [hb2.cell (p := ⟨w.heap.size, 0, none⟩) (show w.heap.size < _ by (try simp) <;> (try omega))]
    first | assumption | (simp [go_sem, *])
  have q2_1 : w2.cell? ⟨w.heap.size, 1, none⟩ = some (.int .i64 v) := by
    rw [hb2.cell (p := ⟨w.heap.size, 1, none⟩) (show w.heap.size < _ by (try simp) <;> (try omega))]
    first | assumption | (simp [go_sem, *])
  have q2_2 : w2.cell? ⟨w.heap.size, 2, none⟩ = some (.slice a xs.length ca) := by
    rw [hb2.cell (p := ⟨w.heap.size, 2, none⟩) (show w.heap.size < _ by (try simp) <;> (try omega))]
    first | assumption | (simp [go_sem, *])
  have ql2 : w.heap.size < w2.heap.size := by omega
  have r2_0 : w2.cell? ⟨w.heap.size + 1, 0, none⟩ = some (.int .i64 0) := by
    rw [hb2.cell (p := ⟨w.heap.size + 1, 0, none⟩) (show w.heap.size + 1 < _ by (try simp) <;> (try omega))]
    first | assumption | (simp [go_sem, *])
  have r2_1 : w2.cell? ⟨w.heap.size + 1, 1, none⟩ = some (.int .i64 0) := by
    rw [hb2.cell (p := ⟨w.heap.size + 1, 1, none⟩) (show w.heap.size + 1 < _ by (try simp) <;> (try omega))]
    first | assumption | (simp [go_sem, *])
  have r2_2 : w2.cell? ⟨w.heap.size + 1, 2, none⟩ = some (.slice none 0 0) := by
    rw [hb2.cell (p := ⟨w.heap.size + 1, 2, none⟩) (show w.heap.size + 1 < _ by (try simp) <;> (try omega))]
    first | assumption | (simp [go_sem, *])
  have rf2 : ∀ o, w2.frozen? ⟨w.heap.size + 1, o, none⟩ = false := fun o => by
    rw [hb2.frozen (p := ⟨w.heap.size + 1, o, none⟩) (show w.heap.size + 1 < _ by (try simp) <;> (try omega))]
    first | exact rf1 o | (simp [go_sem]; done) | (rw [((Below.refl _ _).alloc (Nat.le_refl _) _ : Below _ _ _).frozen (p := ⟨w.heap.size + 1, o, none⟩) (show w.heap.size + 1 < _ by omega)]; exact rf1 o)
  have rl2 : w.heap.size + 1 < w2.heap.size := by omega
  have d2_0 : w2.cell? ⟨bF, oF, none⟩ = some (.string f0) := by
    rw [hb2.cell (p := ⟨bF, oF, none⟩) (by show bF < _; omega)]
    exact d1_0
  have d2_1 : w2.cell? ⟨bF, oF + 1, none⟩ = some (.string f1) := by
    rw [hb2.cell (p := ⟨bF, oF + 1, none⟩) (by show bF < _; omega)]
    exact d1_1
  have D2 : Hid (∀ f2 r', rest = f2 :: r' → w2.cell? ⟨bF, oF + 2, none⟩ = some (.string f2)) := Lib.hid (fun f2 r' h => by
    rw [hb2.cell (p := ⟨bF, oF + 2, none⟩) (by show bF < _; omega)]
    exact D1.out f2 r' h)
  have HB2 : Hid (Below w.heap.size w w2) := HB1.out.trans (hb2.mono (by omega))
  have HL2 := Lib.hid (hf2.here.alloc (.cells #[.int .i64 t, .int .i64 v, .slice a2 xs.length c2] 60))
  have hbF2 : bF < w2.heap.size := by omega
  clear hb2 hf2 d1_0 d1_1 D1 HB1 HA1 q1_0 q1_1 q1_2 r1_0 r1_1 r1_2 rf1
  have e0 : (f0.toList == [116]) = true := str1_is HT.out
  go_wp2_with fail
  refine (someT_c f1 _ hsz (by omega)).mono ?_
  rintro e w3 ⟨aN, cN, N, rfl, hfN, hN, hb3⟩
  have hz3' := hb3.size
  simp only [World.size_alloc] at hz3'
  have HB3 : Hid (Below w.heap.size w w3) := (HB2.out.alloc (by omega) (.cells #[.int .i64 t, .int .i64 v, .slice a2 xs.length c2] 60)).trans (hb3.mono (by (try simp) <;> (try omega)))
  have q3_0 : w3.cell? ⟨w.heap.size, 0, none⟩ = some (.int .i64 t) := by
    rw [hb3.cell (p := ⟨w.heap.size, 0, none⟩) (show w.heap.size < _ by (try simp) <;> (try omega))]
    first | assumption | (simp [go_sem, *])
  have q3_1 : w3.cell? ⟨w.heap.size, 1, none⟩ = some (.int .i64 v) := by
    rw [hb3.cell (p := ⟨w.heap.size, 1, none⟩) (show w.heap.size < _ by (try simp) <;> (try omega))]
    first | assumption | (simp [go_sem, *])
  have q3_2 : w3.cell? ⟨w.heap.size, 2, none⟩ = some (.slice a xs.length ca) := by
    rw [hb3.cell (p := ⟨w.heap.size, 2, none⟩) (show w.heap.size < _ by (try simp) <;> (try omega))]
    first | assumption | (simp [go_sem, *])
  have ql3 : w.heap.size < w3.heap.size := by omega
  have r3_0 : w3.cell? ⟨w.heap.size + 1, 0, none⟩ = some (.int .i64 0) := by
    rw [hb3.cell (p := ⟨w.heap.size + 1, 0, none⟩) (show w.heap.size + 1 < _ by (try simp) <;> (try omega))]
    first | assumption | (simp [go_sem, *])
  have r3_1 : w3.cell? ⟨w.heap.size + 1, 1, none⟩ = some (.int .i64 0) := by
    rw [hb3.cell (p := ⟨w.heap.size + 1, 1, none⟩) (show w.heap.size + 1 < _ by (try simp) <;> (try omega))]
    first | assumption | (simp [go_sem, *])
  have r3_2 : w3.cell? ⟨w.heap.size + 1, 2, none⟩ = some (.slice none 0 0) := by
    rw [hb3.cell (p := ⟨w.heap.size + 1, 2, none⟩) (show w.heap.size + 1 < _ by (try simp) <;> (try omega))]
    first | assumption | (simp [go_sem, *])
  have rf3 : ∀ o, w3.frozen? ⟨w.heap.size + 1, o, none⟩ = false := fun o => by
    rw [hb3.frozen (p := ⟨w.heap.size + 1, o, none⟩) (show w.heap.size + 1 < _ by (try simp) <;> (try omega))]
    first | exact rf2 o | (simp [go_sem]; done) | (rw [((Below.refl _ _).alloc (Nat.le_refl _) _ : Below _ _ _).frozen (p := ⟨w.heap.size + 1, o, none⟩) (show w.heap.size + 1 < _ by omega)]; exact rf2 o)
  have rl3 : w.heap.size + 1 < w3.heap.size := by omega
  have s3_0 : w3.cell? ⟨w2.heap.size, 0, none⟩ = some (.int .i64 t) := by
    rw [hb3.cell (p := ⟨w2.heap.size, 0, none⟩) (show w2.heap.size < _ by (try simp) <;> (try omega))]
    first | assumption | (simp [go_sem, *])
  have s3_1 : w3.cell? ⟨w2.heap.size, 1, none⟩ = some (.int .i64 v) := by
    rw [hb3.cell (p := ⟨w2.heap.size, 1, none⟩) (show w2.heap.size < _ by (try simp) <;> (try omega))]
    first | assumption | (simp [go_sem, *])
  have s3_2 : w3.cell? ⟨w2.heap.size, 2, none⟩ = some (.slice a2 xs.length c2) := by
    rw [hb3.cell (p := ⟨w2.heap.size, 2, none⟩) (show w2.heap.size < _ by (try simp) <;> (try omega))]
    first | assumption | (simp [go_sem, *])
  have sf3 : ∀ o, w3.frozen? ⟨w2.heap.size, o, none⟩ = false := fun o => by
    rw [hb3.frozen (p := ⟨w2.heap.size, o, none⟩) (show w2.heap.size < _ by (try simp) <;> (try omega))]
    first | exact sf2 o | (simp [go_sem]; done) | (rw [((Below.refl _ _).alloc (Nat.le_refl _) _ : Below _ _ _).frozen (p := ⟨w2.heap.size, o, none⟩) (show w2.heap.size < _ by omega)]; exact sf2 o)
  have sl3 : w2.heap.size < w3.heap.size := by omega
  have d3_0 : w3.cell? ⟨bF, oF, none⟩ = some (.string f0) := by
    rw [hb3.cell (p := ⟨bF, oF, none⟩) (by show bF < _; simp; omega), World.cell?_alloc_lt _ _ _ (by show bF < _; omega)]
    exact d2_0
  have D3 : Hid (∀ f2 r', rest = f2 :: r' → w3.cell? ⟨bF, oF + 2, none⟩ = some (.string f2)) := Lib.hid (fun f2 r' h => by
    rw [hb3.cell (p := ⟨bF, oF + 2, none⟩) (by show bF < _; simp; omega), World.cell?_alloc_lt _ _ _ (by show bF < _; omega)]
    exact D2.out f2 r' h)
  have HL3 := Lib.hid (HL2.out.below hb3)
  have hbF3 : bF < w3.heap.size := by omega
  clear hb3 d2_0 d2_1 D2 HB2 HL2 q2_0 q2_1 q2_2 r2_0 r2_1 r2_2 rf2
  have hN' := hN _ rfl
  have hSN : Sl intE 1 w3 aN N := hfN.sl (fun _ => rfl)
  rw [hN'] at hSN
  have hnN : N.length = 2 := by rw [hN']; rfl
  clear hfN hN hN'
  generalize N.length = nN at *
  obtain ⟨bN, oN, rfl, hbN, hcN⟩ := hSN.at (i := 0) (by simp)
  have g3_0 : w3.cell? ⟨bN, oN, none⟩ = some (.int .i64 (n0F f1)) := by
    have := hcN 0 (by simp) 0 (by omega)
    simpa [intE] using this
  have g3_1 : w3.cell? ⟨bN, oN + 1, none⟩ = some (.int .i64 (n1F f1)) := by
    have := hcN 1 (by simp) 0 (by omega)
    simpa [intE] using this
  have hj1' : (1 : Int) < (nN : Int) := by omega
  have hj0' : (0 : Int) < (nN : Int) := by omega
  have HNN := Lib.hid hnN
  clear hcN hSN hnN
  generalize n0F f1 = n0 at *
  generalize n1F f1 = n1 at *
  have h1 := HNF.out
  have e1 : decide ((nF : Int) = 2) = true := by simp; omega
  have e1b : decide (nF = 2) = true := by simp; omega
  have e1c : ((nF : Int) == 2) = true := by simp; omega
  clear h1
  have e2 : decide (t ≤ n0) = false := by simp; omega
  have e2c : (f0.toList == [99]) = false := str1_other HT.out (by decide)
  have e3c : (f0.toList == [101]) = false := str1_other HT.out (by decide)
  go_wp2_with fail
  go_quiet (fail)
  go_wp2_with fail
  go_quiet (fail)
  go_wp2_with fail
  refine bodyPost_ret (v := .tuple #[.agg #[.int .i64 0, .int .i64 0, .slice none 0 0], .bool false]) (by simp [results, Try.results102, go_sem, r3_0, r3_1, r3_2]) rfl ?_
  exact ⟨0, 0, none, 0, [], rfl, (fun _ h => by cases h), (((HB3.out.trans (below_drewN _ _ _)).setCell (by simp) _).setCell (by simp) _).setCell (by simp) _⟩
set_option maxRecDepth 100000 in
set_option maxHeartbeats 16000000 in
theorem implApp_Xsz (a : Option Addr) (ca : Nat) (xs : List Ent) (t v : Int) (l0 : List UInt8) (w : World) (ha : Sl entE 2 w a xs) (lx : xs.length ≤ 60) (hs : ∀ e ∈ xs, e.2.size ≤ 65536) (h0 : l0.length ≤ 65536) (f0 f1 : ByteArray) (rest : List ByteArray) (ho : rdAll l0 = some (f0 :: f1 :: rest)) (hT : f0 ≠ str1 116) (hsz : f1.size ≠ 3) :
    Calls Try.prog 102 #[.agg #[.int .i64 t, .int .i64 v, .slice a xs.length ca], .string (strOf l0)] w (AppR (none) w) := by
  obtain ⟨i0, hi, hz0, hz1, hz2⟩ := info_parts Try.infoEntry
  have HS := Lib.hid hs
  have HO := Lib.hid ho
  have HFZ := Lib.hid (rdAll_size l0 _ ho)
  have hF1 := HFZ.out f1 (by simp)
  have HF2 : Hid (∀ s ∈ rest, s.size ≤ l0.length) := Lib.hid fun s (hs : s ∈ rest) => HFZ.out s (by simp [hs])
  clear hs ho HFZ
  have HT := Lib.hid hT
  clear hT
  go_enter Try.func102, Try.ntmps102
  go_wp2_with fail
  refine (readFields_c l0 _ h0).mono ?_
  rw [HO.out]
  rintro e w1 ⟨aF, cF, F, rfl, hfF, hF, hb1⟩
  have hF' := hF _ rfl
  have hSF : Sl strE 1 w1 aF F := hfF.sl (fun _ => rfl)
  rw [hF'] at hSF
  have hnF : F.length = rest.length + 2 := by rw [hF']; rfl
  clear hfF hF hF'
  generalize F.length = nF at *
  obtain ⟨bF, oF, rfl, hbF, hcF⟩ := hSF.at (i := 0) (by simp)
  have d1_0 : w1.cell? ⟨bF, oF, none⟩ = some (.string f0) := by
    have := hcF 0 (by simp) 0 (by omega)
    simpa [strE] using this
  have d1_1 : w1.cell? ⟨bF, oF + 1, none⟩ = some (.string f1) := by
    have := hcF 1 (by simp) 0 (by omega)
    simpa [strE] using this
  have D1 : Hid (∀ f2 r', rest = f2 :: r' → w1.cell? ⟨bF, oF + 2, none⟩ = some (.string f2)) := Lib.hid fun f2 r' h => by
    subst h
    have := hcF 2 (by simp) 0 (by omega)
    simpa [strE] using this
  clear hcF hSF
  have hz1' := hb1.size
  simp only [World.size_alloc] at hz1'
  have HB1 : Hid (Below w.heap.size w w1) := (by repeat (first | exact Below.refl _ _ | (refine Below.alloc ?_ (by (try simp) <;> (try omega)) _) | (refine Below.setCell ?_ (by (try simp) <;> (try omega)) _) | (refine Below.drew ?_) | (refine Below.trans ?_ (Below.mono (by assumption) (by (try simp) <;> (try omega))))))
  have HA1 := Lib.hid (ha.keep HB1.out)
  have q1_0 : w1.cell? ⟨w.heap.size, 0, none⟩ = some (.int .i64 t) := by
    rw [hb1.cell (p := ⟨w.heap.size, 0, none⟩) (show w.heap.size < _ by (try simp) <;> (try omega))]
    first | assumption | (simp [go_sem, *])
  have q1_1 : w1.cell? ⟨w.heap.size, 1, none⟩ = some (.int .i64 v) := by
    rw [hb1.cell (p := ⟨w.heap.size, 1, none⟩) (show w.heap.size < _ by (try simp) <;> (try omega))]
    first | assumption | (simp [go_sem, *])
  have q1_2 : w1.cell? ⟨w.heap.size, 2, none⟩ = some (.slice a xs.length ca) := by
    rw [hb1.cell (p := ⟨w.heap.size, 2, none⟩) (show w.heap.size < _ by (try simp) <;> (try omega))]
    first | assumption | (simp [go_sem, *])
  have ql1 : w.heap.size < w1.heap.size := by omega
  have r1_0 : w1.cell? ⟨w.heap.size + 1, 0, none⟩ = some (.int .i64 0) := by
    rw [hb1.cell (p := ⟨w.heap.size + 1, 0, none⟩) (show w.heap.size + 1 < _ by (try simp) <;> (try omega))]
    first | assumption | (simp [go_sem, *])
  have r1_1 : w1.cell? ⟨w.heap.size + 1, 1, none⟩ = some (.int .i64 0) := by
    rw [hb1.cell (p := ⟨w.heap.size + 1, 1, none⟩) (show w.heap.size + 1 < _ by (try simp) <;> (try omega))]
    first | assumption | (simp [go_sem, *])
  have r1_2 : w1.cell? ⟨w.heap.size + 1, 2, none⟩ = some (.slice none 0 0) := by
    rw [hb1.cell (p := ⟨w.heap.size + 1, 2, none⟩) (show w.heap.size + 1 < _ by (try simp) <;> (try omega))]
    first | assumption | (simp [go_sem, *])
  have rf1 : ∀ o, w1.frozen? ⟨w.heap.size + 1, o, none⟩ = false := fun o => by
    rw [hb1.frozen (p := ⟨w.heap.size + 1, o, none⟩) (show w.heap.size + 1 < _ by (try simp) <;> (try omega))]
    simp [go_sem]
  have rl1 : w.heap.size + 1 < w1.heap.size := by omega
  clear hb1
  have hlt : decide ((nF : Int) < 2) = false := by simp; omega
  have hlt2 : ¬ ((nF : Int) < 2) := by omega
  have hi0' : (0 : Int) < (nF : Int) := by omega
  have hi1' : (1 : Int) < (nF : Int) := by omega
  have HNF := Lib.hid hnF
  clear hnF
  go_wp2_with fail
  refine (cloneState_c a ca xs t v _ HA1.out (by omega)).mono ?_
  rintro e w2 ⟨a2, c2, rfl, hf2, hb2⟩
  have hz2' := hb2.size
  have q2_0 : w2.cell? ⟨w.heap.size, 0, none⟩ = some (.int .i64 t) := by
    rw [hb2.cell (p := ⟨w.heap.size, 0, none⟩) (show w.heap.size < _ by (try simp) <;> (try omega))]
    first | assumption | (simp [go_sem, *])
  have q2_1 : w2.cell? ⟨w.heap.size, 1, none⟩ = some (.int .i64 v) := by
    rw [hb2.cell (p := ⟨w.heap.size, 1, none⟩) (show w.heap.size < _ by (try simp) <;> (try omega))]
    first | assumption | (simp [go_sem, *])
  have q2_2 : w2.cell? ⟨w.heap.size, 2, none⟩ = some (.slice a xs.length ca) := by
    rw [hb2.cell (p := ⟨w.heap.size, 2, none⟩) (show w.heap.size < _ by (try simp) <;> (try omega))]
    first | assumption | (simp [go_sem, *])
  have ql2 : w.heap.size < w2.heap.size := by omega
  have r2_0 : w2.cell? ⟨w.heap.size + 1, 0, none⟩ = some (.int .i64 0) := by
    rw [hb2.cell (p := ⟨w.heap.size + 1, 0, none⟩) (show w.heap.size + 1 < _ by (try simp) <;> (try omega))]
    first | assumption | (simp [go_sem, *])
  have r2_1 : w2.cell? ⟨w.heap.size + 1, 1, none⟩ = some (.int .i64 0) := by
    rw [hb2.cell (p := ⟨w.heap.size + 1, 1, none⟩) (show w.heap.size + 1 < _ by (try simp) <;> (try omega))]
    first | assumption | (simp [go_sem, *])
  have r2_2 : w2.cell? ⟨w.heap.size + 1, 2, none⟩ = some (.slice none 0 0) := by
    rw [hb2.cell (p := ⟨w.heap.size + 1, 2, none⟩) (show w.heap.size + 1 < _ by (try simp) <;> (try omega))]
    first | assumption | (simp [go_sem, *])
  have rf2 : ∀ o, w2.frozen? ⟨w.heap.size + 1, o, none⟩ = false := fun o => by
    rw [hb2.frozen (p := ⟨w.heap.size + 1, o, none⟩) (show w.heap.size + 1 < _ by (try simp) <;> (try omega))]
    first | exact rf1 o | (simp [go_sem]; done) | (rw [((Below.refl _ _).alloc (Nat.le_refl _) _ : Below _ _ _).frozen (p := ⟨w.heap.size + 1, o, none⟩) (show w.heap.size + 1 < _ by omega)]; exact rf1 o)
  have rl2 : w.heap.size + 1 < w2.heap.size := by omega
  have d2_0 : w2.cell? ⟨bF, oF, none⟩ = some (.string f0) := by
    rw [hb2.cell (p := ⟨bF, oF, none⟩) (by show bF < _; omega)]
    exact d1_0
  have d2_1 : w2.cell? ⟨bF, oF + 1, none⟩ = some (.string f1) := by
    rw [hb2.cell (p := ⟨bF, oF + 1, none⟩) (by show bF < _; omega)]
    exact d1_1
  have D2 : Hid (∀ f2 r', rest = f2 :: r' → w2.cell? ⟨bF, oF + 2, none⟩ = some (.string f2)) := Lib.hid (fun f2 r' h => by
    rw [hb2.cell (p := ⟨bF, oF + 2, none⟩) (by show bF < _; omega)]
    exact D1.out f2 r' h)
  have HB2 : Hid (Below w.heap.size w w2) := HB1.out.trans (hb2.mono (by omega))
  have HL2 := Lib.hid (hf2.here.alloc (.cells #[.int .i64 t, .int .i64 v, .slice a2 xs.length c2] 60))
  have hbF2 : bF < w2.heap.size := by omega
  clear hb2 hf2 d1_0 d1_1 D1 HB1 HA1 q1_0 q1_1 q1_2 r1_0 r1_1 r1_2 rf1
  have e0 : (f0.toList == [116]) = false := str1_ne HT.out
  go_wp2_with fail
  refine (someX0_c f1 _ hsz (by omega)).mono ?_
  rintro e w3 ⟨aN, cN, N, rfl, hfN, hN, hb3⟩
  have hz3' := hb3.size
  simp only [World.size_alloc] at hz3'
  have HB3 : Hid (Below w.heap.size w w3) := (HB2.out.alloc (by omega) (.cells #[.int .i64 t, .int .i64 v, .slice a2 xs.length c2] 60)).trans (hb3.mono (by (try simp) <;> (try omega)))
  have q3_0 : w3.cell? ⟨w.heap.size, 0, none⟩ = some (.int .i64 t) := by
    rw [hb3.cell (p := ⟨w.heap.size, 0, none⟩) (show w.heap.size < _ by (try simp) <;> (try omega))]
    first | assumption | (simp [go_sem, *])
  have q3_1 : w3.cell? ⟨w.heap.size, 1, none⟩ = some (.int .i64 v) := by
    rw [hb3.cell (p := ⟨w.heap.size, 1, none⟩) (show w.heap.size < _ by (try simp) <;> (try omega))]
    first | assumption | (simp [go_sem, *])
  have q3_2 : w3.cell? ⟨w.heap.size, 2, none⟩ = some (.slice a xs.length ca) := by
    rw [hb3.cell (p := ⟨w.heap.size, 2, none⟩) (show w.heap.size < _ by (try simp) <;> (try omega))]
    first | assumption | (simp [go_sem, *])
  have ql3 : w.heap.size < w3.heap.size := by omega
  have r3_0 : w3.cell? ⟨w.heap.size + 1, 0, none⟩ = some (.int .i64 0) := by
    rw [hb3.cell (p := ⟨w.heap.size + 1, 0, none⟩) (show w.heap.size + 1 < _ by (try simp) <;> (try omega))]
    first | assumption | (simp [go_sem, *])
  have r3_1 : w3.cell? ⟨w.heap.size + 1, 1, none⟩ = some (.int .i64 0) := by
    rw [hb3.cell (p := ⟨w.heap.size + 1, 1, none⟩) (show w.heap.size + 1 < _ by (try simp) <;> (try omega))]
    first | assumption | (simp [go_sem, *])
  have r3_2 : w3.cell? ⟨w.heap.size + 1, 2, none⟩ = some (.slice none 0 0) := by
    rw [hb3.cell (p := ⟨w.heap.size + 1, 2, none⟩) (show w.heap.size + 1 < _ by (try simp) <;> (try omega))]
    first | assumption | (simp [go_sem, *])
  have rf3 : ∀ o, w3.frozen? ⟨w.heap.size + 1, o, none⟩ = false := fun o => by
    rw [hb3.frozen (p := ⟨w.heap.size + 1, o, none⟩) (show w.heap.size + 1 < _ by (try simp) <;> (try omega))]
    first | exact rf2 o | (simp [go_sem]; done) | (rw [((Below.refl _ _).alloc (Nat.le_refl _) _ : Below _ _ _).frozen (p := ⟨w.heap.size + 1, o, none⟩) (show w.heap.size + 1 < _ by omega)]; exact rf2 o)
  have rl3 : w.heap.size + 1 < w3.heap.size := by omega
  have s3_0 : w3.cell? ⟨w2.heap.size, 0, none⟩ = some (.int .i64 t) := by
    rw [hb3.cell (p := ⟨w2.heap.size, 0, none⟩) (show w2.heap.size < _ by (try simp) <;> (try omega))]
    first | assumption | (simp [go_sem, *])
  have s3_1 : w3.cell? ⟨w2.heap.size, 1, none⟩ = some (.int .i64 v) := by
    rw [hb3.cell (p := ⟨w2.heap.size, 1, none⟩) (show w2.heap.size < _ by (try simp) <;> (try omega))]
    first | assumption | (simp [go_sem, *])
  have s3_2 : w3.cell? ⟨w2.heap.size, 2, none⟩ = some (.slice a2 xs.length c2) := by
    rw [hb3.cell (p := ⟨w2.heap.size, 2, none⟩) (show w2.heap.size < _ by (try simp) <;> (try omega))]
    first | assumption | (simp [go_sem, *])
  have sf3 : ∀ o, w3.frozen? ⟨w2.heap.size, o, none⟩ = false := fun o => by
    rw [hb3.frozen (p := ⟨w2.heap.size, o, none⟩) (show w2.heap.size < _ by (try simp) <;> (try omega))]
    first | exact sf2 o | (simp [go_sem]; done) | (rw [((Below.refl _ _).alloc (Nat.le_refl _) _ : Below _ _ _).frozen (p := ⟨w2.heap.size, o, none⟩) (show w2.heap.size < _ by omega)]; exact sf2 o)
  have sl3 : w2.heap.size < w3.heap.size := by omega
  have d3_0 : w3.cell? ⟨bF, oF, none⟩ = some (.string f0) := by
    rw [hb3.cell (p := ⟨bF, oF, none⟩) (by show bF < _; simp; omega), World.cell?_alloc_lt _ _ _ (by show bF < _; omega)]
    exact d2_0
  have D3 : Hid (∀ f2 r', rest = f2 :: r' → w3.cell? ⟨bF, oF + 2, none⟩ = some (.string f2)) := Lib.hid (fun f2 r' h => by
    rw [hb3.cell (p := ⟨bF, oF + 2, none⟩) (by show bF < _; simp; omega), World.cell?_alloc_lt _ _ _ (by show bF < _; omega)]
    exact D2.out f2 r' h)
  have HL3 := Lib.hid (HL2.out.below hb3)
  have hbF3 : bF < w3.heap.size := by omega
  clear hb3 d2_0 d2_1 D2 HB2 HL2 q2_0 q2_1 q2_2 r2_0 r2_1 r2_2 rf2
  clear hfN hN
  go_wp2_with fail
  refine bodyPost_ret (v := .tuple #[.agg #[.int .i64 0, .int .i64 0, .slice none 0 0], .bool false]) (by simp [results, Try.results102, go_sem, r3_0, r3_1, r3_2]) rfl ?_
  exact ⟨0, 0, none, 0, [], rfl, (fun _ h => by cases h), (((HB3.out).setCell (by simp) _).setCell (by simp) _).setCell (by simp) _⟩
set_option maxRecDepth 100000 in
set_option maxHeartbeats 16000000 in
theorem implApp_Xother (a : Option Addr) (ca : Nat) (xs : List Ent) (t v : Int) (l0 : List UInt8) (w : World) (ha : Sl entE 2 w a xs) (lx : xs.length ≤ 60) (hs : ∀ e ∈ xs, e.2.size ≤ 65536) (h0 : l0.length ≤ 65536) (f0 f1 : ByteArray) (rest : List ByteArray) (ho : rdAll l0 = some (f0 :: f1 :: rest)) (hT : f0 ≠ str1 116) (hsz : f1.size = 3) (hc : f0 ≠ str1 99) (he : f0 ≠ str1 101) :
    Calls Try.prog 102 #[.agg #[.int .i64 t, .int .i64 v, .slice a xs.length ca], .string (strOf l0)] w (AppR (none) w) := by
  obtain ⟨i0, hi, hz0, hz1, hz2⟩ := info_parts Try.infoEntry
  have HS := Lib.hid hs
  have HO := Lib.hid ho
  have HFZ := Lib.hid (rdAll_size l0 _ ho)
  have hF1 := HFZ.out f1 (by simp)
  have HF2 : Hid (∀ s ∈ rest, s.size ≤ l0.length) := Lib.hid fun s (hs : s ∈ rest) => HFZ.out s (by simp [hs])
  clear hs ho HFZ
  have HC := Lib.hid hc
  clear hc
  have HE := Lib.hid he
  clear he
  have HT := Lib.hid hT
  clear hT
  go_enter Try.func102, Try.ntmps102
  go_wp2_with fail
  refine (readFields_c l0 _ h0).mono ?_
  rw [HO.out]
  rintro e w1 ⟨aF, cF, F, rfl, hfF, hF, hb1⟩
  have hF' := hF _ rfl
  have hSF : Sl strE 1 w1 aF F := hfF.sl (fun _ => rfl)
  rw [hF'] at hSF
  have hnF : F.length = rest.length + 2 := by rw [hF']; rfl
  clear hfF hF hF'
  generalize F.length = nF at *
  obtain ⟨bF, oF, rfl, hbF, hcF⟩ := hSF.at (i := 0) (by simp)
  have d1_0 : w1.cell? ⟨bF, oF, none⟩ = some (.string f0) := by
    have := hcF 0 (by simp) 0 (by omega)
    simpa [strE] using this
  have d1_1 : w1.cell? ⟨bF, oF + 1, none⟩ = some (.string f1) := by
    have := hcF 1 (by simp) 0 (by omega)
    simpa [strE] using this
  have D1 : Hid (∀ f2 r', rest = f2 :: r' → w1.cell? ⟨bF, oF + 2, none⟩ = some (.string f2)) := Lib.hid fun f2 r' h => by
    subst h
    have := hcF 2 (by simp) 0 (by omega)
    simpa [strE] using this
  clear hcF hSF
  have hz1' := hb1.size
  simp only [World.size_alloc] at hz1'
  have HB1 : Hid (Below w.heap.size w w1) := (by repeat (first | exact Below.refl _ _ | (refine Below.alloc ?_ (by (try simp) <;> (try omega)) _) | (refine Below.setCell ?_ (by (try simp) <;> (try omega)) _) | (refine Below.drew ?_) | (refine Below.trans ?_ (Below.mono (by assumption) (by (try simp) <;> (try omega))))))
  have HA1 := Lib.hid (ha.keep HB1.out)
  have q1_0 : w1.cell? ⟨w.heap.size, 0, none⟩ = some (.int .i64 t) := by
    rw [hb1.cell (p := ⟨w.heap.size, 0, none⟩) (show w.heap.size < _ by (try simp) <;> (try omega))]
    first | assumption | (simp [go_sem, *])
  have q1_1 : w1.cell? ⟨w.heap.size, 1, none⟩ = some (.int .i64 v) := by
    rw [hb1.cell (p := ⟨w.heap.size, 1, none⟩) (show w.heap.size < _ by (try simp) <;> (try omega))]
    first | assumption | (simp [go_sem, *])
  have q1_2 : w1.cell? ⟨w.heap.size, 2, none⟩ = some (.slice a xs.length ca) := by
    rw [hb1.cell (p := ⟨w.heap.size, 2, none⟩) (show w.heap.size < _ by (try simp) <;> (try omega))]
    first | assumption | (simp [go_sem, *])
  have ql1 : w.heap.size < w1.heap.size := by omega
  have r1_0 : w1.cell? ⟨w.heap.size + 1, 0, none⟩ = some (.int .i64 0) := by
    rw [hb1.cell (p := ⟨w.heap.size + 1, 0, none⟩) (show w.heap.size + 1 < _ by (try simp) <;> (try omega))]
    first | assumption | (simp [go_sem, *])
  have r1_1 : w1.cell? ⟨w.heap.size + 1, 1, none⟩ = some (.int .i64 0) := by
    rw [hb1.cell (p := ⟨w.heap.size + 1, 1, none⟩) (show w.heap.size + 1 < _ by (try simp) <;> (try omega))]
    first | assumption | (simp [go_sem, *])
  have r1_2 : w1.cell? ⟨w.heap.size + 1, 2, none⟩ = some (.slice none 0 0) := by
    rw [hb1.cell (p := ⟨w.heap.size + 1, 2, none⟩) (show w.heap.size + 1 < _ by (try simp) <;> (try omega))]
    first | assumption | (simp [go_sem, *])
  have rf1 : ∀ o, w1.frozen? ⟨w.heap.size + 1, o, none⟩ = false := fun o => by
    rw [hb1.frozen (p := ⟨w.heap.size + 1, o, none⟩) (show w.heap.size + 1 < _ by (try simp) <;> (try omega))]
    simp [go_sem]
  have rl1 : w.heap.size + 1 < w1.heap.size := by omega
  clear hb1
  have hlt : decide ((nF : Int) < 2) = false := by simp; omega
  have hlt2 : ¬ ((nF : Int) < 2) := by omega
  have hi0' : (0 : Int) < (nF : Int) := by omega
  have hi1' : (1 : Int) < (nF : Int) := by omega
  have HNF := Lib.hid hnF
  clear hnF
  go_wp2_with fail
  refine (cloneState_c a ca xs t v _ HA1.out (by omega)).mono ?_
  rintro e w2 ⟨a2, c2, rfl, hf2, hb2⟩
  have hz2' := hb2.size
  have q2_0 : w2.cell? ⟨w.heap.size, 0, none⟩ = some (.int .i64 t) := by
    rw [hb2.cell (p := ⟨w.heap.size, 0, none⟩) (show w.heap.size < _ by (try simp) <;> (try omega))]
    first | assumption | (simp [go_sem, *])
  have q2_1 : w2.cell? ⟨w.heap.size, 1, none⟩ = some (.int .i64 v) := by
    rw [hb2.cell (p := ⟨w.heap.size, 1, none⟩) (show w.heap.size < _ by (try simp) <;> (try omega))]
    first | assumption | (simp [go_sem, *])
  have q2_2 : w2.cell? ⟨w.heap.size, 2, none⟩ = some (.slice a xs.length ca) := by
    rw [hb2.cell (p := ⟨w.heap.size, 2, none⟩) (show w.heap.size < _ by (try simp) <;> (try omega))]
    first | assumption | (simp [go_sem, *])
  have ql2 : w.heap.size < w2.heap.size := by omega
  have r2_0 : w2.cell? ⟨w.heap.size + 1, 0, none⟩ = some (.int .i64 0) := by
    rw [hb2.cell (p := ⟨w.heap.size + 1, 0, none⟩) (show w.heap.size + 1 < _ by (try simp) <;> (try omega))]
    first | assumption | (simp [go_sem, *])
  have r2_1 : w2.cell? ⟨w.heap.size + 1, 1, none⟩ = some (.int .i64 0) := by
    rw [hb2.cell (p := ⟨w.heap.size + 1, 1, none⟩) (show w.heap.size + 1 < _ by (try simp) <;> (try omega))]
    first | assumption | (simp [go_sem, *])
  have r2_2 : w2.cell? ⟨w.heap.size + 1, 2, none⟩ = some (.slice none 0 0) := by
    rw [hb2.cell (p := ⟨w.heap.size + 1, 2, none⟩) (show w.heap.size + 1 < _ by (try simp) <;> (try omega))]
    first | assumption | (simp [go_sem, *])
  have rf2 : ∀ o, w2.frozen? ⟨w.heap.size + 1, o, none⟩ = false := fun o => by
    rw [hb2.frozen (p := ⟨w.heap.size + 1, o, none⟩) (show w.heap.size + 1 < _ by (try simp) <;> (try omega))]
    first | exact rf1 o | (simp [go_sem]; done) | (rw [((Below.refl _ _).alloc (Nat.le_refl _) _ : Below _ _ _).frozen (p := ⟨w.heap.size + 1, o, none⟩) (show w.heap.size + 1 < _ by omega)]; exact rf1 o)
  have rl2 : w.heap.size + 1 < w2.heap.size := by omega
  have d2_0 : w2.cell? ⟨bF, oF, none⟩ = some (.string f0) := by
    rw [hb2.cell (p := ⟨bF, oF, none⟩) (by show bF < _; omega)]
    exact d1_0
  have d2_1 : w2.cell? ⟨bF, oF + 1, none⟩ = some (.string f1) := by
    rw [hb2.cell (p := ⟨bF, oF + 1, none⟩) (by show bF < _; omega)]
    exact d1_1
  have D2 : Hid (∀ f2 r', rest = f2 :: r' → w2.cell? ⟨bF, oF + 2, none⟩ = some (.string f2)) := Lib.hid (fun f2 r' h => by
    rw [hb2.cell (p := ⟨bF, oF + 2, none⟩) (by show bF < _; omega)]
    exact D1.out f2 r' h)
  have HB2 : Hid (Below w.heap.size w w2) := HB1.out.trans (hb2.mono (by omega))
  have HL2 := Lib.hid (hf2.here.alloc (.cells #[.int .i64 t, .int .i64 v, .slice a2 xs.length c2] 60))
  have hbF2 : bF < w2.heap.size := by omega
  clear hb2 hf2 d1_0 d1_1 D1 HB1 HA1 q1_0 q1_1 q1_2 r1_0 r1_1 r1_2 rf1
  have e0 : (f0.toList == [116]) = false := str1_ne HT.out
  go_wp2_with fail
  refine (someX_c f1 _ hsz (by omega)).mono ?_
  rintro e w3 ⟨aN, cN, N, rfl, hfN, hN, hb3⟩
  have hz3' := hb3.size
  simp only [World.size_alloc] at hz3'
  have HB3 : Hid (Below w.heap.size w w3) := (HB2.out.alloc (by omega) (.cells #[.int .i64 t, .int .i64 v, .slice a2 xs.length c2] 60)).trans (hb3.mono (by (try simp) <;> (try omega)))
  have q3_0 : w3.cell? ⟨w.heap.size, 0, none⟩ = some (.int .i64 t) := by
    rw [hb3.cell (p := ⟨w.heap.size, 0, none⟩) (show w.heap.size < _ by (try simp) <;> (try omega))]
    first | assumption | (simp [go_sem, *])
  have q3_1 : w3.cell? ⟨w.heap.size, 1, none⟩ = some (.int .i64 v) := by
    rw [hb3.cell (p := ⟨w.heap.size, 1, none⟩) (show w.heap.size < _ by (try simp) <;> (try omega))]
    first | assumption | (simp [go_sem, *])
  have q3_2 : w3.cell? ⟨w.heap.size, 2, none⟩ = some (.slice a xs.length ca) := by
    rw [hb3.cell (p := ⟨w.heap.size, 2, none⟩) (show w.heap.size < _ by (try simp) <;> (try omega))]
    first | assumption | (simp [go_sem, *])
  have ql3 : w.heap.size < w3.heap.size := by omega
  have r3_0 : w3.cell? ⟨w.heap.size + 1, 0, none⟩ = some (.int .i64 0) := by
    rw [hb3.cell (p := ⟨w.heap.size + 1, 0, none⟩) (show w.heap.size + 1 < _ by (try simp) <;> (try omega))]
    first | assumption | (simp [go_sem, *])
  have r3_1 : w3.cell? ⟨w.heap.size + 1, 1, none⟩ = some (.int .i64 0) := by
    rw [hb3.cell (p := ⟨w.heap.size + 1, 1, none⟩) (show w.heap.size + 1 < _ by (try simp) <;> (try omega))]
    first | assumption | (simp [go_sem, *])
  have r3_2 : w3.cell? ⟨w.heap.size + 1, 2, none⟩ = some (.slice none 0 0) := by
    rw [hb3.cell (p := ⟨w.heap.size + 1, 2, none⟩) (show w.heap.size + 1 < _ by (try simp) <;> (try omega))]
    first | assumption | (simp [go_sem, *])
  have rf3 : ∀ o, w3.frozen? ⟨w.heap.size + 1, o, none⟩ = false := fun o => by
    rw [hb3.frozen (p := ⟨w.heap.size + 1, o, none⟩) (show w.heap.size + 1 < _ by (try simp) <;> (try omega))]
    first | exact rf2 o | (simp [go_sem]; done) | (rw [((Below.refl _ _).alloc (Nat.le_refl _) _ : Below _ _ _).frozen (p := ⟨w.heap.size + 1, o, none⟩) (show w.heap.size + 1 < _ by omega)]; exact rf2 o)
  have rl3 : w.heap.size + 1 < w3.heap.size := by omega
  have s3_0 : w3.cell? ⟨w2.heap.size, 0, none⟩ = some (.int .i64 t) := by
    rw [hb3.cell (p := ⟨w2.heap.size, 0, none⟩) (show w2.heap.size < _ by (try simp) <;> (try omega))]
    first | assumption | (simp [go_sem, *])
  have s3_1 : w3.cell? ⟨w2.heap.size, 1, none⟩ = some (.int .i64 v) := by
    rw [hb3.cell (p := ⟨w2.heap.size, 1, none⟩) (show w2.heap.size < _ by (try simp) <;> (try omega))]
    first | assumption | (simp [go_sem, *])
  have s3_2 : w3.cell? ⟨w2.heap.size, 2, none⟩ = some (.slice a2 xs.length c2) := by
    rw [hb3.cell (p := ⟨w2.heap.size, 2, none⟩) (show w2.heap.size < _ by (try simp) <;> (try omega))]
    first | assumption | (simp [go_sem, *])
  have sf3 : ∀ o, w3.frozen? ⟨w2.heap.size, o, none⟩ = false := fun o => by
    rw [hb3.frozen (p := ⟨w2.heap.size, o, none⟩) (show w2.heap.size < _ by (try simp) <;> (try omega))]
    first | exact sf2 o | (simp [go_sem]; done) | (rw [((Below.refl _ _).alloc (Nat.le_refl _) _ : Below _ _ _).frozen (p := ⟨w2.heap.size, o, none⟩) (show w2.heap.size < _ by omega)]; exact sf2 o)
  have sl3 : w2.heap.size < w3.heap.size := by omega
  have d3_0 : w3.cell? ⟨bF, oF, none⟩ = some (.string f0) := by
    rw [hb3.cell (p := ⟨bF, oF, none⟩) (by show bF < _; simp; omega), World.cell?_alloc_lt _ _ _ (by show bF < _; omega)]
    exact d2_0
  have D3 : Hid (∀ f2 r', rest = f2 :: r' → w3.cell? ⟨bF, oF + 2, none⟩ = some (.string f2)) := Lib.hid (fun f2 r' h => by
    rw [hb3.cell (p := ⟨bF, oF + 2, none⟩) (by show bF < _; simp; omega), World.cell?_alloc_lt _ _ _ (by show bF < _; omega)]
    exact D2.out f2 r' h)
  have HL3 := Lib.hid (HL2.out.below hb3)
  have hbF3 : bF < w3.heap.size := by omega
  clear hb3 d2_0 d2_1 D2 HB2 HL2 q2_0 q2_1 q2_2 r2_0 r2_1 r2_2 rf2
  have hN' := hN _ rfl
  have hSN : Sl intE 1 w3 aN N := hfN.sl (fun _ => rfl)
  rw [hN'] at hSN
  have hnN : N.length = 1 := by rw [hN']; rfl
  clear hfN hN hN'
  generalize N.length = nN at *
  obtain ⟨bN, oN, rfl, hbN, hcN⟩ := hSN.at (i := 0) (by simp)
  have g3_0 : w3.cell? ⟨bN, oN, none⟩ = some (.int .i64 (n0F f1)) := by
    have := hcN 0 (by simp) 0 (by omega)
    simpa [intE] using this
  have hj0' : (0 : Int) < (nN : Int) := by omega
  have HNN := Lib.hid hnN
  clear hcN hSN hnN
  generalize n0F f1 = n0 at *
  generalize n1F f1 = n1 at *
  have e2c : (f0.toList == [99]) = false := str1_ne HC.out
  have e3c : (f0.toList == [101]) = false := str1_ne HE.out
  go_wp2_with fail
  go_quiet (fail)
  go_wp2_with fail
  go_quiet (fail)
  go_wp2_with fail
  refine bodyPost_ret (v := .tuple #[.agg #[.int .i64 0, .int .i64 0, .slice none 0 0], .bool false]) (by simp [results, Try.results102, go_sem, r3_0, r3_1, r3_2]) rfl ?_
  exact ⟨0, 0, none, 0, [], rfl, (fun _ h => by cases h), (((HB3.out.trans (below_drewN _ _ _)).setCell (by simp) _).setCell (by simp) _).setCell (by simp) _⟩
end
section
open Go.RowKit
set_option maxRecDepth 100000 in
set_option maxHeartbeats 16000000 in
theorem implApp_Xcrest (a : Option Addr) (ca : Nat) (xs : List Ent) (t v : Int) (l0 : List UInt8) (w : World) (ha : Sl entE 2 w a xs) (lx : xs.length ≤ 60) (hs : ∀ e ∈ xs, e.2.size ≤ 65536) (h0 : l0.length ≤ 65536) (f0 f1 : ByteArray) (rest : List ByteArray) (ho : rdAll l0 = some (f0 :: f1 :: rest)) (hT : f0 ≠ str1 116) (hsz : f1.size = 3) (hc : f0 = str1 99) (hr : rest.length ≠ 0) :
    Calls Try.prog 102 #[.agg #[.int .i64 t, .int .i64 v, .slice a xs.length ca], .string (strOf l0)] w (AppR (none) w) := by
  obtain ⟨i0, hi, hz0, hz1, hz2⟩ := info_parts Try.infoEntry
  have HS := Lib.hid hs
  have HO := Lib.hid ho
  have HFZ := Lib.hid (rdAll_size l0 _ ho)
  have hF1 := HFZ.out f1 (by simp)
  have HF2 : Hid (∀ s ∈ rest, s.size ≤ l0.length) := Lib.hid fun s (hs : s ∈ rest) => HFZ.out s (by simp [hs])
  clear hs ho HFZ
  have HC := Lib.hid hc
  clear hc
  have HT := Lib.hid hT
  clear hT
  go_enter Try.func102, Try.ntmps102
  go_wp2_with fail
  refine (readFields_c l0 _ h0).mono ?_
  rw [HO.out]
  rintro e w1 ⟨aF, cF, F, rfl, hfF, hF, hb1⟩
  have hF' := hF _ rfl
  have hSF : Sl strE 1 w1 aF F := hfF.sl (fun _ => rfl)
  rw [hF'] at hSF
  have hnF : F.length = rest.length + 2 := by rw [hF']; rfl
  clear hfF hF hF'
  generalize F.length = nF at *
  obtain ⟨bF, oF, rfl, hbF, hcF⟩ := hSF.at (i := 0) (by simp)
  have d1_0 : w1.cell? ⟨bF, oF, none⟩ = some (.string f0) := by
    have := hcF 0 (by simp) 0 (by omega)
    simpa [strE] using this
  have d1_1 : w1.cell? ⟨bF, oF + 1, none⟩ = some (.string f1) := by
    have := hcF 1 (by simp) 0 (by omega)
    simpa [strE] using this
  have D1 : Hid (∀ f2 r', rest = f2 :: r' → w1.cell? ⟨bF, oF + 2, none⟩ = some (.string f2)) := Lib.hid fun f2 r' h => by
    subst h
    have := hcF 2 (by simp) 0 (by omega)
    simpa [strE] using this
  clear hcF hSF
  have hz1' := hb1.size
  simp only [World.size_alloc] at hz1'
  have HB1 : Hid (Below w.heap.size w w1) := (by repeat (first | exact Below.refl _ _ | (refine Below.alloc ?_ (by (try simp) <;> (try omega)) _) | (refine Below.setCell ?_ (by (try simp) <;> (try omega)) _) | (refine Below.drew ?_) | (refine Below.trans ?_ (Below.mono (by assumption) (by (try simp) <;> (try omega))))))
  have HA1 := Lib.hid (ha.keep HB1.out)
  have q1_0 : w1.cell? ⟨w.heap.size, 0, none⟩ = some (.int .i64 t) := by
    rw [hb1.cell (p := ⟨w.heap.size, 0, none⟩) (show w.heap.size < _ by (try simp) <;> (try omega))]
    first | assumption | (simp [go_sem, *])
  have q1_1 : w1.cell? ⟨w.heap.size, 1, none⟩ = some (.int .i64 v) := by
    rw [hb1.cell (p := ⟨w.heap.size, 1, none⟩) (show w.heap.size < _ by (try simp) <;> (try omega))]
    first | assumption | (simp [go_sem, *])
  have q1_2 : w1.cell? ⟨w.heap.size, 2, none⟩ = some (.slice a xs.length ca) := by
    rw [hb1.cell (p := ⟨w.heap.size, 2, none⟩) (show w.heap.size < _ by (try simp) <;> (try omega))]
    first | assumption | (simp [go_sem, *])
  have ql1 : w.heap.size < w1.heap.size := by omega
  have r1_0 : w1.cell? ⟨w.heap.size + 1, 0, none⟩ = some (.int .i64 0) := by
    rw [hb1.cell (p := ⟨w.heap.size + 1, 0, none⟩) (show w.heap.size + 1 < _ by (try simp) <;> (try omega))]
    first | assumption | (simp [go_sem, *])
  have r1_1 : w1.cell? ⟨w.heap.size + 1, 1, none⟩ = some (.int .i64 0) := by
    rw [hb1.cell (p := ⟨w.heap.size + 1, 1, none⟩) (show w.heap.size + 1 < _ by (try simp) <;> (try omega))]
    first | assumption | (simp [go_sem, *])
  have r1_2 : w1.cell? ⟨w.heap.size + 1, 2, none⟩ = some (.slice none 0 0) := by
    rw [hb1.cell (p := ⟨w.heap.size + 1, 2, none⟩) (show w.heap.size + 1 < _ by (try simp) <;> (try omega))]
    first | assumption | (simp [go_sem, *])
  have rf1 : ∀ o, w1.frozen? ⟨w.heap.size + 1, o, none⟩ = false := fun o => by
    rw [hb1.frozen (p := ⟨w.heap.size + 1, o, none⟩) (show w.heap.size + 1 < _ by (try simp) <;> (try omega))]
    simp [go_sem]
  have rl1 : w.heap.size + 1 < w1.heap.size := by omega
  clear hb1
  have hlt : decide ((nF : Int) < 2) = false := by simp; omega
  have hlt2 : ¬ ((nF : Int) < 2) := by omega
  have hi0' : (0 : Int) < (nF : Int) := by omega
  have hi1' : (1 : Int) < (nF : Int) := by omega
  have HNF := Lib.hid hnF
  clear hnF
  go_wp2_with fail
  refine (cloneState_c a ca xs t v _ HA1.out (by omega)).mono ?_
  rintro e w2 ⟨a2, c2, rfl, hf2, hb2⟩
  have hz2' := hb2.size
  have q2_0 : w2.cell? ⟨w.heap.size, 0, none⟩ = some (.int .i64 t) := by
    rw [hb2.cell (p := ⟨w.heap.size, 0, none⟩) (show w.heap.size < _ by (try simp) <;> (try omega))]
    first | assumption | (simp [go_sem, *])
  have q2_1 : w2.cell? ⟨w.heap.size, 1, none⟩ = some (.int .i64 v) := by
    rw [hb2.cell (p := ⟨w.heap.size, 1, none⟩) (show w.heap.size < _ by (try simp) <;> (try omega))]
    first | assumption | (simp [go_sem, *])
  have q2_2 : w2.cell? ⟨w.heap.size, 2, none⟩ = some (.slice a xs.length ca) := by
    rw [hb2.cell (p := ⟨w.heap.size, 2, none⟩) (show w.heap.size < _ by (try simp) <;> (try omega))]
    first | assumption | (simp [go_sem, *])
  have ql2 : w.heap.size < w2.heap.size := by omega
  have r2_0 : w2.cell? ⟨w.heap.size + 1, 0, none⟩ = some (.int .i64 0) := by
    rw [hb2.cell (p := ⟨w.heap.size + 1, 0, none⟩) (show w.heap.size + 1 < _ by (try simp) <;> (try omega))]
    first | assumption | (simp [go_sem, *])
  have r2_1 : w2.cell? ⟨w.heap.size + 1, 1, none⟩ = some (.int .i64 0) := by
    rw [hb2.cell (p := ⟨w.heap.size + 1, 1, none⟩) (show w.heap.size + 1 < _ by (try simp) <;> (try omega))]
    first | assumption | (simp [go_sem, *])
  have r2_2 : w2.cell? ⟨w.heap.size + 1, 2, none⟩ = some (.slice none 0 0) := by
    rw [hb2.cell (p := ⟨w.heap.size + 1, 2, none⟩) (show w.heap.size + 1 < _ by (try simp) <;> (try omega))]
    first | assumption | (simp [go_sem, *])
  have rf2 : ∀ o, w2.frozen? ⟨w.heap.size + 1, o, none⟩ = false := fun o => by
    rw [hb2.frozen (p := ⟨w.heap.size + 1, o, none⟩) (show w.heap.size + 1 < _ by (try simp) <;> (try omega))]
    first | exact rf1 o | (simp [go_sem]; done) | (rw [((Below.refl _ _).alloc (Nat.le_refl _) _ : Below _ _ _).frozen (p := ⟨w.heap.size + 1, o, none⟩) (show w.heap.size + 1 < _ by omega)]; exact rf1 o)
  have rl2 : w.heap.size + 1 < w2.heap.size := by omega
  have d2_0 : w2.cell? ⟨bF, oF, none⟩ = some (.string f0) := by
    rw [hb2.cell (p := ⟨bF, oF, none⟩) (by show bF < _; omega)]
    exact d1_0
  have d2_1 : w2.cell? ⟨bF, oF + 1, none⟩ = some (.string f1) := by
    rw [hb2.cell (p := ⟨bF, oF + 1, none⟩) (by show bF < _; omega)]
    exact d1_1
  have D2 : Hid (∀ f2 r', rest = f2 :: r' → w2.cell? ⟨bF, oF + 2, none⟩ = some (.string f2)) := Lib.hid (fun f2 r' h => by
    rw [hb2.cell (p := ⟨bF, oF + 2, none⟩) (by show bF < _; omega)]
    exact D1.out f2 r' h)
  have HB2 : Hid (Below w.heap.size w w2) := HB1.out.trans (hb2.mono (by omega))
  have HL2 := Lib.hid (hf2.here.alloc (.cells #[.int .i64 t, .int .i64 v, .slice a2 xs.length c2] 60))
  have hbF2 : bF < w2.heap.size := by omega
  clear hb2 hf2 d1_0 d1_1 D1 HB1 HA1 q1_0 q1_1 q1_2 r1_0 r1_1 r1_2 rf1
  have e0 : (f0.toList == [116]) = false := str1_ne HT.out
  go_wp2_with fail
  refine (someX_c f1 _ hsz (by omega)).mono ?_
  rintro e w3 ⟨aN, cN, N, rfl, hfN, hN, hb3⟩
  have hz3' := hb3.size
  simp only [World.size_alloc] at hz3'
  have HB3 : Hid (Below w.heap.size w w3) := (HB2.out.alloc (by omega) (.cells #[.int .i64 t, .int .i64 v, .slice a2 xs.length c2] 60)).trans (hb3.mono (by (try simp) <;> (try omega)))
  have q3_0 : w3.cell? ⟨w.heap.size, 0, none⟩ = some (.int .i64 t) := by
    rw [hb3.cell (p := ⟨w.heap.size, 0, none⟩) (show w.heap.size < _ by (try simp) <;> (try omega))]
    first | assumption | (simp [go_sem, *])
  have q3_1 : w3.cell? ⟨w.heap.size, 1, none⟩ = some (.int .i64 v) := by
    rw [hb3.cell (p := ⟨w.heap.size, 1, none⟩) (show w.heap.size < _ by (try simp) <;> (try omega))]
    first | assumption | (simp [go_sem, *])
  have q3_2 : w3.cell? ⟨w.heap.size, 2, none⟩ = some (.slice a xs.length ca) := by
    rw [hb3.cell (p := ⟨w.heap.size, 2, none⟩) (show w.heap.size < _ by (try simp) <;> (try omega))]
    first | assumption | (simp [go_sem, *])
  have ql3 : w.heap.size < w3.heap.size := by omega
  have r3_0 : w3.cell? ⟨w.heap.size + 1, 0, none⟩ = some (.int .i64 0) := by
    rw [hb3.cell (p := ⟨w.heap.size + 1, 0, none⟩) (show w.heap.size + 1 < _ by (try simp) <;> (try omega))]
    first | assumption | (simp [go_sem, *])
  have r3_1 : w3.cell? ⟨w.heap.size + 1, 1, none⟩ = some (.int .i64 0) := by
    rw [hb3.cell (p := ⟨w.heap.size + 1, 1, none⟩) (show w.heap.size + 1 < _ by (try simp) <;> (try omega))]
    first | assumption | (simp [go_sem, *])
  have r3_2 : w3.cell? ⟨w.heap.size + 1, 2, none⟩ = some (.slice none 0 0) := by
    rw [hb3.cell (p := ⟨w.heap.size + 1, 2, none⟩) (show w.heap.size + 1 < _ by (try simp) <;> (try omega))]
    first | assumption | (simp [go_sem, *])
  have rf3 : ∀ o, w3.frozen? ⟨w.heap.size + 1, o, none⟩ = false := fun o => by
    rw [hb3.frozen (p := ⟨w.heap.size + 1, o, none⟩) (show w.heap.size + 1 < _ by (try simp) <;> (try omega))]
    first | exact rf2 o | (simp [go_sem]; done) | (rw [((Below.refl _ _).alloc (Nat.le_refl _) _ : Below _ _ _).frozen (p := ⟨w.heap.size + 1, o, none⟩) (show w.heap.size + 1 < _ by omega)]; exact rf2 o)
  have rl3 : w.heap.size + 1 < w3.heap.size := by omega
  have s3_0 : w3.cell? ⟨w2.heap.size, 0, none⟩ = some (.int .i64 t) := by
    rw [hb3.cell (p := ⟨w2.heap.size, 0, none⟩) (show w2.heap.size < _ by (try simp) <;> (try omega))]
    first | assumption | (simp [go_sem, *])
  have s3_1 : w3.cell? ⟨w2.heap.size, 1, none⟩ = some (.int .i64 v) := by
    rw [hb3.cell (p := ⟨w2.heap.size, 1, none⟩) (show w2.heap.size < _ by (try simp) <;> (try omega))]
    first | assumption | (simp [go_sem, *])
  have s3_2 : w3.cell? ⟨w2.heap.size, 2, none⟩ = some (.slice a2 xs.length c2) := by
    rw [hb3.cell (p := ⟨w2.heap.size, 2, none⟩) (show w2.heap.size < _ by (try simp) <;> (try omega))]
    first | assumption | (simp [go_sem, *])
  have sf3 : ∀ o, w3.frozen? ⟨w2.heap.size, o, none⟩ = false := fun o => by
    rw [hb3.frozen (p := ⟨w2.heap.size, o, none⟩) (show w2.heap.size < _ by (try simp) <;> (try omega))]
    first | exact sf2 o | (simp [go_sem]; done) | (rw [((Below.refl _ _).alloc (Nat.le_refl _) _ : Below _ _ _).frozen (p := ⟨w2.heap.size, o, none⟩) (show w2.heap.size < _ by omega)]; exact sf2 o)
  have sl3 : w2.heap.size < w3.heap.size := by omega
  have d3_0 : w3.cell? ⟨bF, oF, none⟩ = some (.string f0) := by
    rw [hb3.cell (p := ⟨bF, oF, none⟩) (by show bF < _; simp; omega), World.cell?_alloc_lt _ _ _ (by show bF < _; omega)]
    exact d2_0
  have D3 : Hid (∀ f2 r', rest = f2 :: r' → w3.cell? ⟨bF, oF + 2, none⟩ = some (.string f2)) := Lib.hid (fun f2 r' h => by
    rw [hb3.cell (p := ⟨bF, oF + 2, none⟩) (by show bF < _; simp; omega), World.cell?_alloc_lt _ _ _ (by show bF < _; omega)]
    exact D2.out f2 r' h)
  have HL3 := Lib.hid (HL2.out.below hb3)
  have hbF3 : bF < w3.heap.size := by omega
  clear hb3 d2_0 d2_1 D2 HB2 HL2 q2_0 q2_1 q2_2 r2_0 r2_1 r2_2 rf2
  have hN' := hN _ rfl
  have hSN : Sl intE 1 w3 aN N := hfN.sl (fun _ => rfl)
  rw [hN'] at hSN
  have hnN : N.length = 1 := by rw [hN']; rfl
  clear hfN hN hN'
  generalize N.length = nN at *
  obtain ⟨bN, oN, rfl, hbN, hcN⟩ := hSN.at (i := 0) (by simp)
  have g3_0 : w3.cell? ⟨bN, oN, none⟩ = some (.int .i64 (n0F f1)) := by
    have := hcN 0 (by simp) 0 (by omega)
    simpa [intE] using this
  have hj0' : (0 : Int) < (nN : Int) := by omega
  have HNN := Lib.hid hnN
  clear hcN hSN hnN
  generalize n0F f1 = n0 at *
  generalize n1F f1 = n1 at *
  have e2c : (f0.toList == [99]) = true := str1_is HC.out
  have e3c : (f0.toList == [101]) = false := str1_other HC.out (by decide)
  have h1 := HNF.out
  have e1 : decide ((nF : Int) = 2) = false := by simp; omega
  have e1b : decide (nF = 2) = false := by simp; omega
  have e1c : ((nF : Int) == 2) = false := by simp; omega
  clear h1
  go_wp2_with fail
  go_quiet (fail)
  go_wp2_with fail
  go_quiet (fail)
  go_wp2_with fail
  refine bodyPost_ret (v := .tuple #[.agg #[.int .i64 0, .int .i64 0, .slice none 0 0], .bool false]) (by simp [results, Try.results102, go_sem, r3_0, r3_1, r3_2]) rfl ?_
  exact ⟨0, 0, none, 0, [], rfl, (fun _ h => by cases h), (((HB3.out.trans (below_drewN _ _ _)).setCell (by simp) _).setCell (by simp) _).setCell (by simp) _⟩
set_option maxRecDepth 100000 in
set_option maxHeartbeats 16000000 in
theorem implApp_Xerest (a : Option Addr) (ca : Nat) (xs : List Ent) (t v : Int) (l0 : List UInt8) (w : World) (ha : Sl entE 2 w a xs) (lx : xs.length ≤ 60) (hs : ∀ e ∈ xs, e.2.size ≤ 65536) (h0 : l0.length ≤ 65536) (f0 f1 : ByteArray) (rest : List ByteArray) (ho : rdAll l0 = some (f0 :: f1 :: rest)) (hT : f0 ≠ str1 116) (hsz : f1.size = 3) (he : f0 = str1 101) (hr : rest.length ≠ 1) :
    Calls Try.prog 102 #[.agg #[.int .i64 t, .int .i64 v, .slice a xs.length ca], .string (strOf l0)] w (AppR (none) w) := by
  obtain ⟨i0, hi, hz0, hz1, hz2⟩ := info_parts Try.infoEntry
  have HS := Lib.hid hs
  have HO := Lib.hid ho
  have HFZ := Lib.hid (rdAll_size l0 _ ho)
  have hF1 := HFZ.out f1 (by simp)
  have HF2 : Hid (∀ s ∈ rest, s.size ≤ l0.length) := Lib.hid fun s (hs : s ∈ rest) => HFZ.out s (by simp [hs])
  clear hs ho HFZ
  have HE := Lib.hid he
  clear he
  have HT := Lib.hid hT
  clear hT
  go_enter Try.func102, Try.ntmps102
  go_wp2_with fail
  refine (readFields_c l0 _ h0).mono ?_
  rw [HO.out]
  rintro e w1 ⟨aF, cF, F, rfl, hfF, hF, hb1⟩
  have hF' := hF _ rfl
  have hSF : Sl strE 1 w1 aF F := hfF.sl (fun _ => rfl)
  rw [hF'] at hSF
  have hnF : F.length = rest.length + 2 := by rw [hF']; rfl
  clear hfF hF hF'
  generalize F.length = nF at *
  obtain ⟨bF, oF, rfl, hbF, hcF⟩ := hSF.at (i := 0) (by simp)
  have d1_0 : w1.cell? ⟨bF, oF, none⟩ = some (.string f0) := by
    have := hcF 0 (by simp) 0 (by omega)
    simpa [strE] using this
  have d1_1 : w1.cell? ⟨bF, oF + 1, none⟩ = some (.string f1) := by
    have := hcF 1 (by simp) 0 (by omega)
    simpa [strE] using this
  have D1 : Hid (∀ f2 r', rest = f2 :: r' → w1.cell? ⟨bF, oF + 2, none⟩ = some (.string f2)) := Lib.hid fun f2 r' h => by
    subst h
    have := hcF 2 (by simp) 0 (by omega)
    simpa [strE] using this
  clear hcF hSF
  have hz1' := hb1.size
  simp only [World.size_alloc] at hz1'
  have HB1 : Hid (Below w.heap.size w w1) := (by repeat (first | exact Below.refl _ _ | (refine Below.alloc ?_ (by (try simp) <;> (try omega)) _) | (refine Below.setCell ?_ (by (try simp) <;> (try omega)) _) | (refine Below.drew ?_) | (refine Below.trans ?_ (Below.mono (by assumption) (by (try simp) <;> (try omega))))))
  have HA1 := Lib.hid (ha.keep HB1.out)
  have q1_0 : w1.cell? ⟨w.heap.size, 0, none⟩ = some (.int .i64 t) := by
    rw [hb1.cell (p := ⟨w.heap.size, 0, none⟩) (show w.heap.size < _ by (try simp) <;> (try omega))]
    first | assumption | (simp [go_sem, *])
  have q1_1 : w1.cell? ⟨w.heap.size, 1, none⟩ = some (.int .i64 v) := by
    rw [hb1.cell (p := ⟨w.heap.size, 1, none⟩) (show w.heap.size < _ by (try simp) <;> (try omega))]
    first | assumption | (simp [go_sem, *])
  have q1_2 : w1.cell? ⟨w.heap.size, 2, none⟩ = some (.slice a xs.length ca) := by
    rw [hb1.cell (p := ⟨w.heap.size, 2, none⟩) (show w.heap.size < _ by (try simp) <;> (try omega))]
    first | assumption | (simp [go_sem, *])
  have ql1 : w.heap.size < w1.heap.size := by omega
  have r1_0 : w1.cell? ⟨w.heap.size + 1, 0, none⟩ = some (.int .i64 0) := by
    rw [hb1.cell (p := ⟨w.heap.size + 1, 0, none⟩) (show w.heap.size + 1 < _ by (try simp) <;> (try omega))]
    first | assumption | (simp [go_sem, *])
  have r1_1 : w1.cell? ⟨w.heap.size + 1, 1, none⟩ = some (.int .i64 0) := by
    rw [hb1.cell (p := ⟨w.heap.size + 1, 1, none⟩) (show w.heap.size + 1 < _ by (try simp) <;> (try omega))]
    first | assumption | (simp [go_sem, *])
  have r1_2 : w1.cell? ⟨w.heap.size + 1, 2, none⟩ = some (.slice none 0 0) := by
    rw [hb1.cell (p := ⟨w.heap.size + 1, 2, none⟩) (show w.heap.size + 1 < _ by (try simp) <;> (try omega))]
    first | assumption | (simp [go_sem, *])
  have rf1 : ∀ o, w1.frozen? ⟨w.heap.size + 1, o, none⟩ = false := fun o => by
    rw [hb1.frozen (p := ⟨w.heap.size + 1, o, none⟩) (show w.heap.size + 1 < _ by (try simp) <;> (try omega))]
    simp [go_sem]
  have rl1 : w.heap.size + 1 < w1.heap.size := by omega
  clear hb1
  have hlt : decide ((nF : Int) < 2) = false := by simp; omega
  have hlt2 : ¬ ((nF : Int) < 2) := by omega
  have hi0' : (0 : Int) < (nF : Int) := by omega
  have hi1' : (1 : Int) < (nF : Int) := by omega
  have HNF := Lib.hid hnF
  clear hnF
  go_wp2_with fail
  refine (cloneState_c a ca xs t v _ HA1.out (by omega)).mono ?_
  rintro e w2 ⟨a2, c2, rfl, hf2, hb2⟩
  have hz2' := hb2.size
  have q2_0 : w2.cell? ⟨w.heap.size, 0, none⟩ = some (.int .i64 t) := by
    rw [hb2.cell (p := ⟨w.heap.size, 0, none⟩) (show w.heap.size < _ by (try simp) <;> (try omega))]
    first | assumption | (simp [go_sem, *])
  have q2_1 : w2.cell? ⟨w.heap.size, 1, none⟩ = some (.int .i64 v) := by
    rw [hb2.cell (p := ⟨w.heap.size, 1, none⟩) (show w.heap.size < _ by (try simp) <;> (try omega))]
    first | assumption | (simp [go_sem, *])
  have q2_2 : w2.cell? ⟨w.heap.size, 2, none⟩ = some (.slice a xs.length ca) := by
    rw [hb2.cell (p := ⟨w.heap.size, 2, none⟩) (show w.heap.size < _ by (try simp) <;> (try omega))]
    first | assumption | (simp [go_sem, *])
  have ql2 : w.heap.size < w2.heap.size := by omega
  have r2_0 : w2.cell? ⟨w.heap.size + 1, 0, none⟩ = some (.int .i64 0) := by
    rw [hb2.cell (p := ⟨w.heap.size + 1, 0, none⟩) (show w.heap.size + 1 < _ by (try simp) <;> (try omega))]
    first | assumption | (simp [go_sem, *])
  have r2_1 : w2.cell? ⟨w.heap.size + 1, 1, none⟩ = some (.int .i64 0) := by
    rw [hb2.cell (p := ⟨w.heap.size + 1, 1, none⟩) (show w.heap.size + 1 < _ by (try simp) <;> (try omega))]
    first | assumption | (simp [go_sem, *])
  have r2_2 : w2.cell? ⟨w.heap.size + 1, 2, none⟩ = some (.slice none 0 0) := by
    rw [hb2.cell (p := ⟨w.heap.size + 1, 2, none⟩) (show w.heap.size + 1 < _ by (try simp) <;> (try omega))]
    first | assumption | (simp [go_sem, *])
  have rf2 : ∀ o, w2.frozen? ⟨w.heap.size + 1, o, none⟩ = false := fun o => by
    rw [hb2.frozen (p := ⟨w.heap.size + 1, o, none⟩) (show w.heap.size + 1 < _ by (try simp) <;> (try omega))]
    first | exact rf1 o | (simp [go_sem]; done) | (rw [((Below.refl _ _).alloc (Nat.le_refl _) _ : Below _ _ _).frozen (p := ⟨w.heap.size + 1, o, none⟩) (show w.heap.size + 1 < _ by omega)]; exact rf1 o)
  have rl2 : w.heap.size + 1 < w2.heap.size := by omega
  have d2_0 : w2.cell? ⟨bF, oF, none⟩ = some (.string f0) := by
    rw [hb2.cell (p := ⟨bF, oF, none⟩) (by show bF < _; omega)]
    exact d1_0
  have d2_1 : w2.cell? ⟨bF, oF + 1, none⟩ = some (.string f1) := by
    rw [hb2.cell (p := ⟨bF, oF + 1, none⟩) (by show bF < _; omega)]
    exact d1_1
  have D2 : Hid (∀ f2 r', rest = f2 :: r' → w2.cell? ⟨bF, oF + 2, none⟩ = some (.string f2)) := Lib.hid (fun f2 r' h => by
    rw [hb2.cell (p := ⟨bF, oF + 2, none⟩) (by show bF < _; omega)]
    exact D1.out f2 r' h)
  have HB2 : Hid (Below w.heap.size w w2) := HB1.out.trans (hb2.mono (by omega))
  have HL2 := Lib.hid (hf2.here.alloc (.cells #[.int .i64 t, .int .i64 v, .slice a2 xs.length c2] 60))
  have hbF2 : bF < w2.heap.size := by omega
  clear hb2 hf2 d1_0 d1_1 D1 HB1 HA1 q1_0 q1_1 q1_2 r1_0 r1_1 r1_2 rf1
  have e0 : (f0.toList == [116]) = false := str1_ne HT.out
  go_wp2_with fail
  refine (someX_c f1 _ hsz (by omega)).mono ?_
  rintro e w3 ⟨aN, cN, N, rfl, hfN, hN, hb3⟩
  have hz3' := hb3.size
  simp only [World.size_alloc] at hz3'
  have HB3 : Hid (Below w.heap.size w w3) := (HB2.out.alloc (by omega) (.cells #[.int .i64 t, .int .i64 v, .slice a2 xs.length c2] 60)).trans (hb3.mono (by (try simp) <;> (try omega)))
  have q3_0 : w3.cell? ⟨w.heap.size, 0, none⟩ = some (.int .i64 t) := by
    rw [hb3.cell (p := ⟨w.heap.size, 0, none⟩) (show w.heap.size < _ by (try simp) <;> (try omega))]
    first | assumption | (simp [go_sem, *])
  have q3_1 : w3.cell? ⟨w.heap.size, 1, none⟩ = some (.int .i64 v) := by
    rw [hb3.cell (p := ⟨w.heap.size, 1, none⟩) (show w.heap.size < _ by (try simp) <;> (try omega))]
    first | assumption | (simp [go_sem, *])
  have q3_2 : w3.cell? ⟨w.heap.size, 2, none⟩ = some (.slice a xs.length ca) := by
    rw [hb3.cell (p := ⟨w.heap.size, 2, none⟩) (show w.heap.size < _ by (try simp) <;> (try omega))]
    first | assumption | (simp [go_sem, *])
  have ql3 : w.heap.size < w3.heap.size := by omega
  have r3_0 : w3.cell? ⟨w.heap.size + 1, 0, none⟩ = some (.int .i64 0) := by
    rw [hb3.cell (p := ⟨w.heap.size + 1, 0, none⟩) (show w.heap.size + 1 < _ by (try simp) <;> (try omega))]
    first | assumption | (simp [go_sem, *])
  have r3_1 : w3.cell? ⟨w.heap.size + 1, 1, none⟩ = some (.int .i64 0) := by
    rw [hb3.cell (p := ⟨w.heap.size + 1, 1, none⟩) (show w.heap.size + 1 < _ by (try simp) <;> (try omega))]
    first | assumption | (simp [go_sem, *])
  have r3_2 : w3.cell? ⟨w.heap.size + 1, 2, none⟩ = some (.slice none 0 0) := by
    rw [hb3.cell (p := ⟨w.heap.size + 1, 2, none⟩) (show w.heap.size + 1 < _ by (try simp) <;> (try omega))]
    first | assumption | (simp [go_sem, *])
  have rf3 : ∀ o, w3.frozen? ⟨w.heap.size + 1, o, none⟩ = false := fun o => by
    rw [hb3.frozen (p := ⟨w.heap.size + 1, o, none⟩) (show w.heap.size + 1 < _ by (try simp) <;> (try omega))]
    first | exact rf2 o | (simp [go_sem]; done) | (rw [((Below.refl _ _).alloc (Nat.le_refl _) _ : Below _ _ _).frozen (p := ⟨w.heap.size + 1, o, none⟩) (show w.heap.size + 1 < _ by omega)]; exact rf2 o)
  have rl3 : w.heap.size + 1 < w3.heap.size := by omega
  have s3_0 : w3.cell? ⟨w2.heap.size, 0, none⟩ = some (.int .i64 t) := by
    rw [hb3.cell (p := ⟨w2.heap.size, 0, none⟩) (show w2.heap.size < _ by (try simp) <;> (try omega))]
    first | assumption | (simp [go_sem, *])
  have s3_1 : w3.cell? ⟨w2.heap.size, 1, none⟩ = some (.int .i64 v) := by
    rw [hb3.cell (p := ⟨w2.heap.size, 1, none⟩) (show w2.heap.size < _ by (try simp) <;> (try omega))]
    first | assumption | (simp [go_sem, *])
  have s3_2 : w3.cell? ⟨w2.heap.size, 2, none⟩ = some (.slice a2 xs.length c2) := by
    rw [hb3.cell (p := ⟨w2.heap.size, 2, none⟩) (show w2.heap.size < _ by (try simp) <;> (try omega))]
    first | assumption | (simp [go_sem, *])
  have sf3 : ∀ o, w3.frozen? ⟨w2.heap.size, o, none⟩ = false := fun o => by
    rw [hb3.frozen (p := ⟨w2.heap.size, o, none⟩) (show w2.heap.size < _ by (try simp) <;> (try omega))]
    first | exact sf2 o | (simp [go_sem]; done) | (rw [((Below.refl _ _).alloc (Nat.le_refl _) _ : Below _ _ _).frozen (p := ⟨w2.heap.size, o, none⟩) (show w2.heap.size < _ by omega)]; exact sf2 o)
  have sl3 : w2.heap.size < w3.heap.size := by omega
  have d3_0 : w3.cell? ⟨bF, oF, none⟩ = some (.string f0) := by
    rw [hb3.cell (p := ⟨bF, oF, none⟩) (by show bF < _; simp; omega), World.cell?_alloc_lt _ _ _ (by show bF < _; omega)]
    exact d2_0
  have D3 : Hid (∀ f2 r', rest = f2 :: r' → w3.cell? ⟨bF, oF + 2, none⟩ = some (.string f2)) := Lib.hid (fun f2 r' h => by
    rw [hb3.cell (p := ⟨bF, oF + 2, none⟩) (by show bF < _; simp; omega), World.cell?_alloc_lt _ _ _ (by show bF < _; omega)]
    exact D2.out f2 r' h)
  have HL3 := Lib.hid (HL2.out.below hb3)
  have hbF3 : bF < w3.heap.size := by omega
  clear hb3 d2_0 d2_1 D2 HB2 HL2 q2_0 q2_1 q2_2 r2_0 r2_1 r2_2 rf2
  have hN' := hN _ rfl
  have hSN : Sl intE 1 w3 aN N := hfN.sl (fun _ => rfl)
  rw [hN'] at hSN
  have hnN : N.length = 1 := by rw [hN']; rfl
  clear hfN hN hN'
  generalize N.length = nN at *
  obtain ⟨bN, oN, rfl, hbN, hcN⟩ := hSN.at (i := 0) (by simp)
  have g3_0 : w3.cell? ⟨bN, oN, none⟩ = some (.int .i64 (n0F f1)) := by
    have := hcN 0 (by simp) 0 (by omega)
    simpa [intE] using this
  have hj0' : (0 : Int) < (nN : Int) := by omega
  have HNN := Lib.hid hnN
  clear hcN hSN hnN
  generalize n0F f1 = n0 at *
  generalize n1F f1 = n1 at *
  have e2c : (f0.toList == [99]) = false := str1_other HE.out (by decide)
  have e3c : (f0.toList == [101]) = true := str1_is HE.out
  have h1 := HNF.out
  have e4 : decide ((nF : Int) = 3) = false := by simp; omega
  have e4b : decide (nF = 3) = false := by simp; omega
  have e4c : ((nF : Int) == 3) = false := by simp; omega
  clear h1
  go_wp2_with fail
  go_quiet (fail)
  go_wp2_with fail
  go_quiet (fail)
  go_wp2_with fail
  refine bodyPost_ret (v := .tuple #[.agg #[.int .i64 0, .int .i64 0, .slice none 0 0], .bool false]) (by simp [results, Try.results102, go_sem, r3_0, r3_1, r3_2]) rfl ?_
  exact ⟨0, 0, none, 0, [], rfl, (fun _ h => by cases h), (((HB3.out.trans (below_drewN _ _ _)).setCell (by simp) _).setCell (by simp) _).setCell (by simp) _⟩
end
section
open Go.RowKit
set_option maxRecDepth 100000 in
set_option maxHeartbeats 16000000 in
theorem implApp_Xcrange (a : Option Addr) (ca : Nat) (xs : List Ent) (t v : Int) (l0 : List UInt8) (w : World) (ha : Sl entE 2 w a xs) (lx : xs.length ≤ 60) (hs : ∀ e ∈ xs, e.2.size ≤ 65536) (h0 : l0.length ≤ 65536) (f0 f1 : ByteArray) (rest : List ByteArray) (ho : rdAll l0 = some (f0 :: f1 :: rest)) (hT : f0 ≠ str1 116) (hsz : f1.size = 3) (hc : f0 = str1 99) (hr : rest.length = 0) (hi' : inB (n0F f1) 0 ((xs.length : Int) - 1) = false) :
    Calls Try.prog 102 #[.agg #[.int .i64 t, .int .i64 v, .slice a xs.length ca], .string (strOf l0)] w (AppR (none) w) := by
  obtain ⟨i0, hi, hz0, hz1, hz2⟩ := info_parts Try.infoEntry
  have HS := Lib.hid hs
  have HO := Lib.hid ho
  have HFZ := Lib.hid (rdAll_size l0 _ ho)
  have hF1 := HFZ.out f1 (by simp)
  have HF2 : Hid (∀ s ∈ rest, s.size ≤ l0.length) := Lib.hid fun s (hs : s ∈ rest) => HFZ.out s (by simp [hs])
  clear hs ho HFZ
  have HC := Lib.hid hc
  clear hc
  have HT := Lib.hid hT
  clear hT
  go_enter Try.func102, Try.ntmps102
  go_wp2_with fail
  refine (readFields_c l0 _ h0).mono ?_
  rw [HO.out]
  rintro e w1 ⟨aF, cF, F, rfl, hfF, hF, hb1⟩
  have hF' := hF _ rfl
  have hSF : Sl strE 1 w1 aF F := hfF.sl (fun _ => rfl)
  rw [hF'] at hSF
  have hnF : F.length = rest.length + 2 := by rw [hF']; rfl
  clear hfF hF hF'
  generalize F.length = nF at *
  obtain ⟨bF, oF, rfl, hbF, hcF⟩ := hSF.at (i := 0) (by simp)
  have d1_0 : w1.cell? ⟨bF, oF, none⟩ = some (.string f0) := by
    have := hcF 0 (by simp) 0 (by omega)
    simpa [strE] using this
  have d1_1 : w1.cell? ⟨bF, oF + 1, none⟩ = some (.string f1) := by
    have := hcF 1 (by simp) 0 (by omega)
    simpa [strE] using this
  have D1 : Hid (∀ f2 r', rest = f2 :: r' → w1.cell? ⟨bF, oF + 2, none⟩ = some (.string f2)) := Lib.hid fun f2 r' h => by
    subst h
    have := hcF 2 (by simp) 0 (by omega)
    simpa [strE] using this
  clear hcF hSF
  have hz1' := hb1.size
  simp only [World.size_alloc] at hz1'
  have HB1 : Hid (Below w.heap.size w w1) := (by repeat (first | exact Below.refl _ _ | (refine Below.alloc ?_ (by (try simp) <;> (try omega)) _) | (refine Below.setCell ?_ (by (try simp) <;> (try omega)) _) | (refine Below.drew ?_) | (refine Below.trans ?_ (Below.mono (by assumption) (by (try simp) <;> (try omega))))))
  have HA1 := Lib.hid (ha.keep HB1.out)
  have q1_0 : w1.cell? ⟨w.heap.size, 0, none⟩ = some (.int .i64 t) := by
    rw [hb1.cell (p := ⟨w.heap.size, 0, none⟩) (show w.heap.size < _ by (try simp) <;> (try omega))]
    first | assumption | (simp [go_sem, *])
  have q1_1 : w1.cell? ⟨w.heap.size, 1, none⟩ = some (.int .i64 v) := by
    rw [hb1.cell (p := ⟨w.heap.size, 1, none⟩) (show w.heap.size < _ by (try simp) <;> (try omega))]
    first | assumption | (simp [go_sem, *])
  have q1_2 : w1.cell? ⟨w.heap.size, 2, none⟩ = some (.slice a xs.length ca) := by
    rw [hb1.cell (p := ⟨w.heap.size, 2, none⟩) (show w.heap.size < _ by (try simp) <;> (try omega))]
    first | assumption | (simp [go_sem, *])
  have ql1 : w.heap.size < w1.heap.size := by omega
  have r1_0 : w1.cell? ⟨w.heap.size + 1, 0, none⟩ = some (.int .i64 0) := by
    rw [hb1.cell (p := ⟨w.heap.size + 1, 0, none⟩) (show w.heap.size + 1 < _ by (try simp) <;> (try omega))]
    first | assumption | (simp [go_sem, *])
  have r1_1 : w1.cell? ⟨w.heap.size + 1, 1, none⟩ = some (.int .i64 0) := by
    rw [hb1.cell (p := ⟨w.heap.size + 1, 1, none⟩) (show w.heap.size + 1 < _ by (try simp) <;> (try omega))]
    first | assumption | (simp [go_sem, *])
  have r1_2 : w1.cell? ⟨w.heap.size + 1, 2, none⟩ = some (.slice none 0 0) := by
    rw [hb1.cell (p := ⟨w.heap.size + 1, 2, none⟩) (show w.heap.size + 1 < _ by (try simp) <;> (try omega))]
    first | assumption | (simp [go_sem, *])
  have rf1 : ∀ o, w1.frozen? ⟨w.heap.size + 1, o, none⟩ = false := fun o => by
    rw [hb1.frozen (p := ⟨w.heap.size + 1, o, none⟩) (show w.heap.size + 1 < _ by (try simp) <;> (try omega))]
    simp [go_sem]
  have rl1 : w.heap.size + 1 < w1.heap.size := by omega
  clear hb1
  have hlt : decide ((nF : Int) < 2) = false := by simp; omega
  have hlt2 : ¬ ((nF : Int) < 2) := by omega
  have hi0' : (0 : Int) < (nF : Int) := by omega
  have hi1' : (1 : Int) < (nF : Int) := by omega
  have HNF := Lib.hid hnF
  clear hnF
  go_wp2_with fail
  refine (cloneState_c a ca xs t v _ HA1.out (by omega)).mono ?_
  rintro e w2 ⟨a2, c2, rfl, hf2, hb2⟩
  have hz2' := hb2.size
  have q2_0 : w2.cell? ⟨w.heap.size, 0, none⟩ = some (.int .i64 t) := by
    rw [hb2.cell (p := ⟨w.heap.size, 0, none⟩) (show w.heap.size < _ by (try simp) <;> (try omega))]
    first | assumption | (simp [go_sem, *])
  have q2_1 : w2.cell? ⟨w.heap.size, 1, none⟩ = some (.int .i64 v) := by
    rw [hb2.cell (p := ⟨w.heap.size, 1, none⟩) (show w.heap.size < _ by (try simp) <;> (try omega))]
    first | assumption | (simp [go_sem, *])
  have q2_2 : w2.cell? ⟨w.heap.size, 2, none⟩ = some (.slice a xs.length ca) := by
    rw [hb2.cell (p := ⟨w.heap.size, 2, none⟩) (show w.heap.size < _ by (try simp) <;> (try omega))]
    first | assumption | (simp [go_sem, *])
  have ql2 : w.heap.size < w2.heap.size := by omega
  have r2_0 : w2.cell? ⟨w.heap.size + 1, 0, none⟩ = some (.int .i64 0) := by
    rw [hb2.cell (p := ⟨w.heap.size + 1, 0, none⟩) (show w.heap.size + 1 < _ by (try simp) <;> (try omega))]
    first | assumption | (simp [go_sem, *])
  have r2_1 : w2.cell? ⟨w.heap.size + 1, 1, none⟩ = some (.int .i64 0) := by
    rw [hb2.cell (p := ⟨w.heap.size + 1, 1, none⟩) (show w.heap.size + 1 < _ by (try simp) <;> (try omega))]
    first | assumption | (simp [go_sem, *])
  have r2_2 : w2.cell? ⟨w.heap.size + 1, 2, none⟩ = some (.slice none 0 0) := by
    rw [hb2.cell (p := ⟨w.heap.size + 1, 2, none⟩) (show w.heap.size + 1 < _ by (try simp) <;> (try omega))]
    first | assumption | (simp [go_sem, *])
  have rf2 : ∀ o, w2.frozen? ⟨w.heap.size + 1, o, none⟩ = false := fun o => by
    rw [hb2.frozen (p := ⟨w.heap.size + 1, o, none⟩) (show w.heap.size + 1 < _ by (try simp) <;> (try omega))]
    first | exact rf1 o | (simp [go_sem]; done) | (rw [((Below.refl _ _).alloc (Nat.le_refl _) _ : Below _ _ _).frozen (p := ⟨w.heap.size + 1, o, none⟩) (show w.heap.size + 1 < _ by omega)]; exact rf1 o)
  have rl2 : w.heap.size + 1 < w2.heap.size := by omega
  have d2_0 : w2.cell? ⟨bF, oF, none⟩ = some (.string f0) := by
    rw [hb2.cell (p := ⟨bF, oF, none⟩) (by show bF < _; omega)]
    exact d1_0
  have d2_1 : w2.cell? ⟨bF, oF + 1, none⟩ = some (.string f1) := by
    rw [hb2.cell (p := ⟨bF, oF + 1, none⟩) (by show bF < _; omega)]
    exact d1_1
  have D2 : Hid (∀ f2 r', rest = f2 :: r' → w2.cell? ⟨bF, oF + 2, none⟩ = some (.string f2)) := Lib.hid (fun f2 r' h => by
    rw [hb2.cell (p := ⟨bF, oF + 2, none⟩) (by show bF < _; omega)]
    exact D1.out f2 r' h)
  have HB2 : Hid (Below w.heap.size w w2) := HB1.out.trans (hb2.mono (by omega))
  have HL2 := Lib.hid (hf2.here.alloc (.cells #[.int .i64 t, .int .i64 v, .slice a2 xs.length c2] 60))
  have hbF2 : bF < w2.heap.size := by omega
  clear hb2 hf2 d1_0 d1_1 D1 HB1 HA1 q1_0 q1_1 q1_2 r1_0 r1_1 r1_2 rf1
  have e0 : (f0.toList == [116]) = false := str1_ne HT.out
  go_wp2_with fail
  refine (someX_c f1 _ hsz (by omega)).mono ?_
  rintro e w3 ⟨aN, cN, N, rfl, hfN, hN, hb3⟩
  have hz3' := hb3.size
  simp only [World.size_alloc] at hz3'
  have HB3 : Hid (Below w.heap.size w w3) := (HB2.out.alloc (by omega) (.cells #[.int .i64 t, .int .i64 v, .slice a2 xs.length c2] 60)).trans (hb3.mono (by (try simp) <;> (try omega)))
  have q3_0 : w3.cell? ⟨w.heap.size, 0, none⟩ = some (.int .i64 t) := by
    rw [hb3.cell (p := ⟨w.heap.size, 0, none⟩) (show w.heap.size < _ by (try simp) <;> (try omega))]
    first | assumption | (simp [go_sem, *])
  have q3_1 : w3.cell? ⟨w.heap.size, 1, none⟩ = some (.int .i64 v) := by
    rw [hb3.cell (p := ⟨w.heap.size, 1, none⟩) (show w.heap.size < _ by (try simp) <;> (try omega))]
    first | assumption | (simp [go_sem, *])
  have q3_2 : w3.cell? ⟨w.heap.size, 2, none⟩ = some (.slice a xs.length ca) := by
    rw [hb3.cell (p := ⟨w.heap.size, 2, none⟩) (show w.heap.size < _ by (try simp) <;> (try omega))]
    first | assumption | (simp [go_sem, *])
  have ql3 : w.heap.size < w3.heap.size := by omega
  have r3_0 : w3.cell? ⟨w.heap.size + 1, 0, none⟩ = some (.int .i64 0) := by
    rw [hb3.cell (p := ⟨w.heap.size + 1, 0, none⟩) (show w.heap.size + 1 < _ by (try simp) <;> (try omega))]
    first | assumption | (simp [go_sem, *])
  have r3_1 : w3.cell? ⟨w.heap.size + 1, 1, none⟩ = some (.int .i64 0) := by
    rw [hb3.cell (p := ⟨w.heap.size + 1, 1, none⟩) (show w.heap.size + 1 < _ by (try simp) <;> (try omega))]
    first | assumption | (simp [go_sem, *])
  have r3_2 : w3.cell? ⟨w.heap.size + 1, 2, none⟩ = some (.slice none 0 0) := by
    rw [hb3.cell (p := ⟨w.heap.size + 1, 2, none⟩) (show w.heap.size + 1 < _ by (try simp) <;> (try omega))]
    first | assumption | (simp [go_sem, *])
  have rf3 : ∀ o, w3.frozen? ⟨w.heap.size + 1, o, none⟩ = false := fun o => by
    rw [hb3.frozen (p := ⟨w.heap.size + 1, o, none⟩) (show w.heap.size + 1 < _ by (try simp) <;> (try omega))]
    first | exact rf2 o | (simp [go_sem]; done) | (rw [((Below.refl _ _).alloc (Nat.le_refl _) _ : Below _ _ _).frozen (p := ⟨w.heap.size + 1, o, none⟩) (show w.heap.size + 1 < _ by omega)]; exact rf2 o)
  have rl3 : w.heap.size + 1 < w3.heap.size := by omega
  have s3_0 : w3.cell? ⟨w2.heap.size, 0, none⟩ = some (.int .i64 t) := by
    rw [hb3.cell (p := ⟨w2.heap.size, 0, none⟩) (show w2.heap.size < _ by (try simp) <;> (try omega))]
    first | assumption | (simp [go_sem, *])
  have s3_1 : w3.cell? ⟨w2.heap.size, 1, none⟩ = some (.int .i64 v) := by
    rw [hb3.cell (p := ⟨w2.heap.size, 1, none⟩) (show w2.heap.size < _ by (try simp) <;> (try omega))]
    first | assumption | (simp [go_sem, *])
  have s3_2 : w3.cell? ⟨w2.heap.size, 2, none⟩ = some (.slice a2 xs.length c2) := by
    rw [hb3.cell (p := ⟨w2.heap.size, 2, none⟩) (show w2.heap.size < _ by (try simp) <;> (try omega))]
    first | assumption | (simp [go_sem, *])
  have sf3 : ∀ o, w3.frozen? ⟨w2.heap.size, o, none⟩ = false := fun o => by
    rw [hb3.frozen (p := ⟨w2.heap.size, o, none⟩) (show w2.heap.size < _ by (try simp) <;> (try omega))]
    first | exact sf2 o | (simp [go_sem]; done) | (rw [((Below.refl _ _).alloc (Nat.le_refl _) _ : Below _ _ _).frozen (p := ⟨w2.heap.size, o, none⟩) (show w2.heap.size < _ by omega)]; exact sf2 o)
  have sl3 : w2.heap.size < w3.heap.size := by omega
  have d3_0 : w3.cell? ⟨bF, oF, none⟩ = some (.string f0) := by
    rw [hb3.cell (p := ⟨bF, oF, none⟩) (by show bF < _; simp; omega), World.cell?_alloc_lt _ _ _ (by show bF < _; omega)]
    exact d2_0
  have D3 : Hid (∀ f2 r', rest = f2 :: r' → w3.cell? ⟨bF, oF + 2, none⟩ = some (.string f2)) := Lib.hid (fun f2 r' h => by
    rw [hb3.cell (p := ⟨bF, oF + 2, none⟩) (by show bF < _; simp; omega), World.cell?_alloc_lt _ _ _ (by show bF < _; omega)]
    exact D2.out f2 r' h)
  have HL3 := Lib.hid (HL2.out.below hb3)
  have hbF3 : bF < w3.heap.size := by omega
  clear hb3 d2_0 d2_1 D2 HB2 HL2 q2_0 q2_1 q2_2 r2_0 r2_1 r2_2 rf2
  have hN' := hN _ rfl
  have hSN : Sl intE 1 w3 aN N := hfN.sl (fun _ => rfl)
  rw [hN'] at hSN
  have hnN : N.length = 1 := by rw [hN']; rfl
  clear hfN hN hN'
  generalize N.length = nN at *
  obtain ⟨bN, oN, rfl, hbN, hcN⟩ := hSN.at (i := 0) (by simp)
  have g3_0 : w3.cell? ⟨bN, oN, none⟩ = some (.int .i64 (n0F f1)) := by
    have := hcN 0 (by simp) 0 (by omega)
    simpa [intE] using this
  have hj0' : (0 : Int) < (nN : Int) := by omega
  have HNN := Lib.hid hnN
  clear hcN hSN hnN
  generalize n0F f1 = n0 at *
  generalize n1F f1 = n1 at *
  have e2c : (f0.toList == [99]) = true := str1_is HC.out
  have e3c : (f0.toList == [101]) = false := str1_other HC.out (by decide)
  have h1 := HNF.out
  have e1 : decide ((nF : Int) = 2) = true := by simp; omega
  have e1b : decide (nF = 2) = true := by simp; omega
  have e1c : ((nF : Int) == 2) = true := by simp; omega
  clear h1
  have hwr1 : wrap64 ((xs.length : Int) - 1) = (xs.length : Int) - 1 := IntWalk.wrap64_in _ ⟨by omega, by omega⟩
  have hwr2 : IntKind.i64.wrap ((xs.length : Int) - 1) = (xs.length : Int) - 1 := IntWalk.i64_in _ ⟨by omega, by omega⟩
  have hk0 : 0 < nF := by omega
  have hk1 : 1 < nF := by omega
  have hm0 : 0 < nN := by omega
  go_wp2_with fail
  go_quiet (fail)
  go_wp2_with fail
  go_quiet ((go_at_call 55; exact (within_c _ _ _ _).mono fun _ _ h => ⟨h.1, _, h.2.symm⟩))
  go_wp2_with fail
  refine bodyPost_ret (v := .tuple #[.agg #[.int .i64 0, .int .i64 0, .slice none 0 0], .bool false]) (by simp [results, Try.results102, go_sem, r3_0, r3_1, r3_2]) rfl ?_
  exact ⟨0, 0, none, 0, [], rfl, (fun _ h => by cases h), (((HB3.out.trans (below_drewN _ _ _)).setCell (by simp) _).setCell (by simp) _).setCell (by simp) _⟩
end
section
open Go.RowKit
set_option maxRecDepth 100000 in
set_option maxHeartbeats 16000000 in
theorem implApp_Xcok (a : Option Addr) (ca : Nat) (xs : List Ent) (t v : Int) (l0 : List UInt8) (w : World) (ha : Sl entE 2 w a xs) (lx : xs.length ≤ 60) (hs : ∀ e ∈ xs, e.2.size ≤ 65536) (h0 : l0.length ≤ 65536) (f0 f1 : ByteArray) (rest : List ByteArray) (ho : rdAll l0 = some (f0 :: f1 :: rest)) (hT : f0 ≠ str1 116) (hsz : f1.size = 3) (hc : f0 = str1 99) (hr : rest.length = 0) (k : Nat) (hk : n0F f1 = (k : Int)) (hkl : k < xs.length) :
    Calls Try.prog 102 #[.agg #[.int .i64 t, .int .i64 v, .slice a xs.length ca], .string (strOf l0)] w (AppR (chkS t v (xs.take k)) w) := by
  obtain ⟨i0, hi, hz0, hz1, hz2⟩ := info_parts Try.infoEntry
  have HS := Lib.hid hs
  have HO := Lib.hid ho
  have HFZ := Lib.hid (rdAll_size l0 _ ho)
  have hF1 := HFZ.out f1 (by simp)
  have HF2 : Hid (∀ s ∈ rest, s.size ≤ l0.length) := Lib.hid fun s (hs : s ∈ rest) => HFZ.out s (by simp [hs])
  clear hs ho HFZ
  have HC := Lib.hid hc
  clear hc
  have HT := Lib.hid hT
  clear hT
  go_enter Try.func102, Try.ntmps102
  go_wp2_with fail
  refine (readFields_c l0 _ h0).mono ?_
  rw [HO.out]
  rintro e w1 ⟨aF, cF, F, rfl, hfF, hF, hb1⟩
  have hF' := hF _ rfl
  have hSF : Sl strE 1 w1 aF F := hfF.sl (fun _ => rfl)
  rw [hF'] at hSF
  have hnF : F.length = rest.length + 2 := by rw [hF']; rfl
  clear hfF hF hF'
  generalize F.length = nF at *
  obtain ⟨bF, oF, rfl, hbF, hcF⟩ := hSF.at (i := 0) (by simp)
  have d1_0 : w1.cell? ⟨bF, oF, none⟩ = some (.string f0) := by
    have := hcF 0 (by simp) 0 (by omega)
    simpa [strE] using this
  have d1_1 : w1.cell? ⟨bF, oF + 1, none⟩ = some (.string f1) := by
    have := hcF 1 (by simp) 0 (by omega)
    simpa [strE] using this
  have D1 : Hid (∀ f2 r', rest = f2 :: r' → w1.cell? ⟨bF, oF + 2, none⟩ = some (.string f2)) := Lib.hid fun f2 r' h => by
    subst h
    have := hcF 2 (by simp) 0 (by omega)
    simpa [strE] using this
  clear hcF hSF
  have hz1' := hb1.size
  simp only [World.size_alloc] at hz1'
  have HB1 : Hid (Below w.heap.size w w1) := (by repeat (first | exact Below.refl _ _ | (refine Below.alloc ?_ (by (try simp) <;> (try omega)) _) | (refine Below.setCell ?_ (by (try simp) <;> (try omega)) _) | (refine Below.drew ?_) | (refine Below.trans ?_ (Below.mono (by assumption) (by (try simp) <;> (try omega))))))
  have HA1 := Lib.hid (ha.keep HB1.out)
  have q1_0 : w1.cell? ⟨w.heap.size, 0, none⟩ = some (.int .i64 t) := by
    rw [hb1.cell (p := ⟨w.heap.size, 0, none⟩) (show w.heap.size < _ by (try simp) <;> (try omega))]
    first | assumption | (simp [go_sem, *])
  have q1_1 : w1.cell? ⟨w.heap.size, 1, none⟩ = some (.int .i64 v) := by
    rw [hb1.cell (p := ⟨w.heap.size, 1, none⟩) (show w.heap.size < _ by (try simp) <;> (try omega))]
    first | assumption | (simp [go_sem, *])
  have q1_2 : w1.cell? ⟨w.heap.size, 2, none⟩ = some (.slice a xs.length ca) := by
    rw [hb1.cell (p := ⟨w.heap.size, 2, none⟩) (show w.heap.size < _ by (try simp) <;> (try omega))]
    first | assumption | (simp [go_sem, *])
  have ql1 : w.heap.size < w1.heap.size := by omega
  have r1_0 : w1.cell? ⟨w.heap.size + 1, 0, none⟩ = some (.int .i64 0) := by
    rw [hb1.cell (p := ⟨w.heap.size + 1, 0, none⟩) (show w.heap.size + 1 < _ by (try simp) <;> (try omega))]
    first | assumption | (simp [go_sem, *])
  have r1_1 : w1.cell? ⟨w.heap.size + 1, 1, none⟩ = some (.int .i64 0) := by
    rw [hb1.cell (p := ⟨w.heap.size + 1, 1, none⟩) (show w.heap.size + 1 < _ by (try simp) <;> (try omega))]
    first | assumption | (simp [go_sem, *])
  have r1_2 : w1.cell? ⟨w.heap.size + 1, 2, none⟩ = some (.slice none 0 0) := by
    rw [hb1.cell (p := ⟨w.heap.size + 1, 2, none⟩) (show w.heap.size + 1 < _ by (try simp) <;> (try omega))]
    first | assumption | (simp [go_sem, *])
  have rf1 : ∀ o, w1.frozen? ⟨w.heap.size + 1, o, none⟩ = false := fun o => by
    rw [hb1.frozen (p := ⟨w.heap.size + 1, o, none⟩) (show w.heap.size + 1 < _ by (try simp) <;> (try omega))]
    simp [go_sem]
  have rl1 : w.heap.size + 1 < w1.heap.size := by omega
  clear hb1
  have hlt : decide ((nF : Int) < 2) = false := by simp; omega
  have hlt2 : ¬ ((nF : Int) < 2) := by omega
  have hi0' : (0 : Int) < (nF : Int) := by omega
  have hi1' : (1 : Int) < (nF : Int) := by omega
  have HNF := Lib.hid hnF
  clear hnF
  go_wp2_with fail
  refine (cloneState_c a ca xs t v _ HA1.out (by omega)).mono ?_
  rintro e w2 ⟨a2, c2, rfl, hf2, hb2⟩
  have hz2' := hb2.size
  have q2_0 : w2.cell? ⟨w.heap.size, 0, none⟩ = some (.int .i64 t) := by
    rw [hb2.cell (p := ⟨w.heap.size, 0, none⟩) (show w.heap.size < _ by (try simp) <;> (try omega))]
    first | assumption | (simp [go_sem, *])
  have q2_1 : w2.cell? ⟨w.heap.size, 1, none⟩ = some (.int .i64 v) := by
    rw [hb2.cell (p := ⟨w.heap.size, 1, none⟩) (show w.heap.size < _ by (try simp) <;> (try omega))]
    first | assumption | (simp [go_sem, *])
  have q2_2 : w2.cell? ⟨w.heap.size, 2, none⟩ = some (.slice a xs.length ca) := by
    rw [hb2.cell (p := ⟨w.heap.size, 2, none⟩) (show w.heap.size < _ by (try simp) <;> (try omega))]
    first | assumption | (simp [go_sem, *])
  have ql2 : w.heap.size < w2.heap.size := by omega
  have r2_0 : w2.cell? ⟨w.heap.size + 1, 0, none⟩ = some (.int .i64 0) := by
    rw [hb2.cell (p := ⟨w.heap.size + 1, 0, none⟩) (show w.heap.size + 1 < _ by (try simp) <;> (try omega))]
    first | assumption | (simp [go_sem, *])
  have r2_1 : w2.cell? ⟨w.heap.size + 1, 1, none⟩ = some (.int .i64 0) := by
    rw [hb2.cell (p := ⟨w.heap.size + 1, 1, none⟩) (show w.heap.size + 1 < _ by (try simp) <;> (try omega))]
    first | assumption | (simp [go_sem, *])
  have r2_2 : w2.cell? ⟨w.heap.size + 1, 2, none⟩ = some (.slice none 0 0) := by
    rw [hb2.cell (p := ⟨w.heap.size + 1, 2, none⟩) (show w.heap.size + 1 < _ by (try simp) <;> (try omega))]
    first | assumption | (simp [go_sem, *])
  have rf2 : ∀ o, w2.frozen? ⟨w.heap.size + 1, o, none⟩ = false := fun o => by
    rw [hb2.frozen (p := ⟨w.heap.size + 1, o, none⟩) (show w.heap.size + 1 < _ by (try simp) <;> (try omega))]
    first | exact rf1 o | (simp [go_sem]; done) | (rw [((Below.refl _ _).alloc (Nat.le_refl _) _ : Below _ _ _).frozen (p := ⟨w.heap.size + 1, o, none⟩) (show w.heap.size + 1 < _ by omega)]; exact rf1 o)
  have rl2 : w.heap.size + 1 < w2.heap.size := by omega
  have d2_0 : w2.cell? ⟨bF, oF, none⟩ = some (.string f0) := by
    rw [hb2.cell (p := ⟨bF, oF, none⟩) (by show bF < _; omega)]
    exact d1_0
  have d2_1 : w2.cell? ⟨bF, oF + 1, none⟩ = some (.string f1) := by
    rw [hb2.cell (p := ⟨bF, oF + 1, none⟩) (by show bF < _; omega)]
    exact d1_1
  have D2 : Hid (∀ f2 r', rest = f2 :: r' → w2.cell? ⟨bF, oF + 2, none⟩ = some (.string f2)) := Lib.hid (fun f2 r' h => by
    rw [hb2.cell (p := ⟨bF, oF + 2, none⟩) (by show bF < _; omega)]
    exact D1.out f2 r' h)
  have HB2 : Hid (Below w.heap.size w w2) := HB1.out.trans (hb2.mono (by omega))
  have HL2 := Lib.hid (hf2.here.alloc (.cells #[.int .i64 t, .int .i64 v, .slice a2 xs.length c2] 60))
  have hbF2 : bF < w2.heap.size := by omega
  clear hb2 hf2 d1_0 d1_1 D1 HB1 HA1 q1_0 q1_1 q1_2 r1_0 r1_1 r1_2 rf1
  have e0 : (f0.toList == [116]) = false := str1_ne HT.out
  go_wp2_with fail
  refine (someX_c f1 _ hsz (by omega)).mono ?_
  rintro e w3 ⟨aN, cN, N, rfl, hfN, hN, hb3⟩
  have hz3' := hb3.size
  simp only [World.size_alloc] at hz3'
  have HB3 : Hid (Below w.heap.size w w3) := (HB2.out.alloc (by omega) (.cells #[.int .i64 t, .int .i64 v, .slice a2 xs.length c2] 60)).trans (hb3.mono (by (try simp) <;> (try omega)))
  have q3_0 : w3.cell? ⟨w.heap.size, 0, none⟩ = some (.int .i64 t) := by
    rw [hb3.cell (p := ⟨w.heap.size, 0, none⟩) (show w.heap.size < _ by (try simp) <;> (try omega))]
    first | assumption | (simp [go_sem, *])
  have q3_1 : w3.cell? ⟨w.heap.size, 1, none⟩ = some (.int .i64 v) := by
    rw [hb3.cell (p := ⟨w.heap.size, 1, none⟩) (show w.heap.size < _ by (try simp) <;> (try omega))]
    first | assumption | (simp [go_sem, *])
  have q3_2 : w3.cell? ⟨w.heap.size, 2, none⟩ = some (.slice a xs.length ca) := by
    rw [hb3.cell (p := ⟨w.heap.size, 2, none⟩) (show w.heap.size < _ by (try simp) <;> (try omega))]
    first | assumption | (simp [go_sem, *])
  have ql3 : w.heap.size < w3.heap.size := by omega
  have r3_0 : w3.cell? ⟨w.heap.size + 1, 0, none⟩ = some (.int .i64 0) := by
    rw [hb3.cell (p := ⟨w.heap.size + 1, 0, none⟩) (show w.heap.size + 1 < _ by (try simp) <;> (try omega))]
    first | assumption | (simp [go_sem, *])
  have r3_1 : w3.cell? ⟨w.heap.size + 1, 1, none⟩ = some (.int .i64 0) := by
    rw [hb3.cell (p := ⟨w.heap.size + 1, 1, none⟩) (show w.heap.size + 1 < _ by (try simp) <;> (try omega))]
    first | assumption | (simp [go_sem, *])
  have r3_2 : w3.cell? ⟨w.heap.size + 1, 2, none⟩ = some (.slice none 0 0) := by
    rw [hb3.cell (p := ⟨w.heap.size + 1, 2, none⟩) (show w.heap.size + 1 < _ by (try simp) <;> (try omega))]
    first | assumption | (simp [go_sem, *])
  have rf3 : ∀ o, w3.frozen? ⟨w.heap.size + 1, o, none⟩ = false := fun o => by
    rw [hb3.frozen (p := ⟨w.heap.size + 1, o, none⟩) (show w.heap.size + 1 < _ by (try simp) <;> (try omega))]
    first | exact rf2 o | (simp [go_sem]; done) | (rw [((Below.refl _ _).alloc (Nat.le_refl _) _ : Below _ _ _).frozen (p := ⟨w.heap.size + 1, o, none⟩) (show w.heap.size + 1 < _ by omega)]; exact rf2 o)
  have rl3 : w.heap.size + 1 < w3.heap.size := by omega
  have s3_0 : w3.cell? ⟨w2.heap.size, 0, none⟩ = some (.int .i64 t) := by
    rw [hb3.cell (p := ⟨w2.heap.size, 0, none⟩) (show w2.heap.size < _ by (try simp) <;> (try omega))]
    first | assumption | (simp [go_sem, *])
  have s3_1 : w3.cell? ⟨w2.heap.size, 1, none⟩ = some (.int .i64 v) := by
    rw [hb3.cell (p := ⟨w2.heap.size, 1, none⟩) (show w2.heap.size < _ by (try simp) <;> (try omega))]
    first | assumption | (simp [go_sem, *])
  have s3_2 : w3.cell? ⟨w2.heap.size, 2, none⟩ = some (.slice a2 xs.length c2) := by
    rw [hb3.cell (p := ⟨w2.heap.size, 2, none⟩) (show w2.heap.size < _ by (try simp) <;> (try omega))]
    first | assumption | (simp [go_sem, *])
  have sf3 : ∀ o, w3.frozen? ⟨w2.heap.size, o, none⟩ = false := fun o => by
    rw [hb3.frozen (p := ⟨w2.heap.size, o, none⟩) (show w2.heap.size < _ by (try simp) <;> (try omega))]
    first | exact sf2 o | (simp [go_sem]; done) | (rw [((Below.refl _ _).alloc (Nat.le_refl _) _ : Below _ _ _).frozen (p := ⟨w2.heap.size, o, none⟩) (show w2.heap.size < _ by omega)]; exact sf2 o)
  have sl3 : w2.heap.size < w3.heap.size := by omega
  have d3_0 : w3.cell? ⟨bF, oF, none⟩ = some (.string f0) := by
    rw [hb3.cell (p := ⟨bF, oF, none⟩) (by show bF < _; simp; omega), World.cell?_alloc_lt _ _ _ (by show bF < _; omega)]
    exact d2_0
  have D3 : Hid (∀ f2 r', rest = f2 :: r' → w3.cell? ⟨bF, oF + 2, none⟩ = some (.string f2)) := Lib.hid (fun f2 r' h => by
    rw [hb3.cell (p := ⟨bF, oF + 2, none⟩) (by show bF < _; simp; omega), World.cell?_alloc_lt _ _ _ (by show bF < _; omega)]
    exact D2.out f2 r' h)
  have HL3 := Lib.hid (HL2.out.below hb3)
  have hbF3 : bF < w3.heap.size := by omega
  clear hb3 d2_0 d2_1 D2 HB2 HL2 q2_0 q2_1 q2_2 r2_0 r2_1 r2_2 rf2
  have hN' := hN _ rfl
  have hSN : Sl intE 1 w3 aN N := hfN.sl (fun _ => rfl)
  rw [hN'] at hSN
  have hnN : N.length = 1 := by rw [hN']; rfl
  clear hfN hN hN'
  generalize N.length = nN at *
  obtain ⟨bN, oN, rfl, hbN, hcN⟩ := hSN.at (i := 0) (by simp)
  have g3_0 : w3.cell? ⟨bN, oN, none⟩ = some (.int .i64 (n0F f1)) := by
    have := hcN 0 (by simp) 0 (by omega)
    simpa [intE] using this
  have hj0' : (0 : Int) < (nN : Int) := by omega
  have HNN := Lib.hid hnN
  clear hcN hSN hnN
  generalize n0F f1 = n0 at *
  generalize n1F f1 = n1 at *
  subst hk
  have e2c : (f0.toList == [99]) = true := str1_is HC.out
  have h1 := HNF.out
  have e1 : decide ((nF : Int) = 2) = true := by simp; omega
  have e1b : decide (nF = 2) = true := by simp; omega
  have e1c : ((nF : Int) == 2) = true := by simp; omega
  clear h1
  have hcap : xs.length ≤ c2 := HL3.out.fits
  obtain ⟨gL, rfl, _, hgL, _, _⟩ := HL3.out.block (by omega)
  have hi' : inB (k : Int) 0 ((xs.length : Int) - 1) = true := by simp [inB]; omega
  have hwr2 : IntKind.i64.wrap ((xs.length : Int) - 1) = (xs.length : Int) - 1 := IntWalk.i64_in _ ⟨by omega, by omega⟩
  have hk0 : 0 < nF := by omega
  have hk1 : 1 < nF := by omega
  have hm0 : 0 < nN := by omega
  have hkc : k ≤ c2 := by omega
  have hkc' : (k : Int) ≤ (c2 : Int) := by omega
  have hkn : (0 : Int) ≤ (k : Int) := by omega
  obtain ⟨L, hL⟩ : ∃ L, L = xs.take k := ⟨_, rfl⟩
  have hLl : L.length = k := by rw [hL]; simp; omega
  have HLT := Lib.hid hL
  clear hL
  rw [← HLT.out]
  have hne1 : ¬ w2.heap.size = w.heap.size + 1 := by omega
  have hne2 : ¬ w.heap.size + 1 = w2.heap.size := by omega
  have HLL2 : Hid (L.length = k) := hLl
  have HLk : Hid (FreshIn entE 76 2 w1.heap.size w2.heap.size (.slice (some ⟨gL, 0, none⟩) L.length c2) L w3) := by
    show FreshIn _ _ _ _ _ _ _ _
    rw [HLL2.out, HLT.out]
    exact FreshIn.take (enc := entE) (sz := 2) (xs := xs) (fun _ => rfl) HL3.out k (by omega)
  have hkL : k = L.length := hLl.symm
  have hi2 : inB (L.length : Int) 0 ((xs.length : Int) - 1) = true := by rw [hLl]; exact hi'
  have hlc : L.length ≤ c2 := by omega
  have hlc' : (L.length : Int) ≤ (c2 : Int) := by omega
  have hln : (0 : Int) ≤ (L.length : Int) := by omega
  clear hLl
  go_upto_block 0 with fail
  go_cut [5] (fun s wx => s = .bool false ∧ wx.cell? ⟨w2.heap.size, 0, none⟩ = some (.int .i64 t) ∧ wx.cell? ⟨w2.heap.size, 1, none⟩ = some (.int .i64 v) ∧ wx.cell? ⟨w2.heap.size, 2, none⟩ = some (.slice (some ⟨gL, 0, none⟩) L.length c2) ∧ wx.cell? ⟨w.heap.size + 1, 0, none⟩ = some (.int .i64 0) ∧ wx.cell? ⟨w.heap.size + 1, 1, none⟩ = some (.int .i64 0) ∧ wx.cell? ⟨w.heap.size + 1, 2, none⟩ = some (.slice none 0 0) ∧ (∀ o, wx.frozen? ⟨w.heap.size + 1, o, none⟩ = false) ∧ FreshIn entE 76 2 w1.heap.size w2.heap.size (.slice (some ⟨gL, 0, none⟩) L.length c2) (L) wx ∧ Below w.heap.size w wx ∧ w2.heap.size < wx.heap.size)
  case first =>
    go_wp2_with fail
    go_quiet (fail)
    go_wp2_with fail
    go_quiet ((go_at_call 55; exact (within_c _ _ _ _).mono fun _ _ h => ⟨h.1, _, h.2.symm⟩))
    go_wp2_with fail
    go_region
    all_goals
      go_wp2_with fail
      go_meet
      refine ⟨rfl, ?_, ?_, ?_, ?_, ?_, ?_, ?_, ?_, ?_, ?_⟩
      · simp [go_sem, *]
      · simp [go_sem, *]
      · simp [go_sem, *]
      · simp [go_sem, *]
      · simp [go_sem, *]
      · simp [go_sem, *]
      · intro o
        simp [go_sem, *]
      · repeat (first | exact HLk.out.below (below_drewN _ _ _) | (refine FreshIn.setHi ?_ (Nat.le_refl _) _) | (refine FreshIn.drew ?_))
      · repeat (first | exact HB3.out.trans (below_drewN _ _ _) | (refine Below.setCell ?_ (by show w.heap.size ≤ w2.heap.size; omega) _) | (refine Below.drew ?_))
      · simp; omega
  case rest =>
    have hlL : L.length ≤ 1048576 := by omega
    have HSL : Hid (∀ s ∈ L, s.2.size ≤ 1048576) := Lib.hid fun s hs => by
      have := HS.out s (List.mem_of_mem_take (HLT.out ▸ hs))
      omega
    obtain ⟨rfl, s4_0, s4_1, s4_2, r4_0, r4_1, r4_2, rf4, hfL, hbw, hsw⟩ := hcut
    obtain ⟨w4, hw4⟩ : ∃ x, x = wc := ⟨_, rfl⟩
    subst hw4
    have HLL := Lib.hid hfL
    have HBW := Lib.hid hbw
    clear hfL hbw
    go_wp2_with fail
    go_region_held3 (fun w' => w'.cell? ⟨w2.heap.size, 0, none⟩ = some (.int .i64 t) ∧ w'.cell? ⟨w2.heap.size, 1, none⟩ = some (.int .i64 v) ∧ w'.cell? ⟨w2.heap.size, 2, none⟩ = some (.slice (some ⟨gL, 0, none⟩) L.length c2))
      (first | ((repeat' apply And.intro) <;> (simp [go_sem, *]; done)) | go_keep)
      (first
        | (go_at_call 100
           refine (isState_c (some ⟨gL, 0, none⟩) c2 L t v _ (HLL.out.drew.sl fun _ => rfl) hlL HSL.out).mono ?_
           rintro e w9 ⟨rfl, hb9⟩
           have hz9 := hb9.size
           try simp at hz9
           have s9_0 : w9.cell? ⟨w2.heap.size, 0, none⟩ = some (.int .i64 t) := by
             rw [hb9.cell (p := ⟨w2.heap.size, 0, none⟩) (show w2.heap.size < _ by (try simp) <;> (try omega))]
             first | assumption | (simp [go_sem, *])
           have s9_1 : w9.cell? ⟨w2.heap.size, 1, none⟩ = some (.int .i64 v) := by
             rw [hb9.cell (p := ⟨w2.heap.size, 1, none⟩) (show w2.heap.size < _ by (try simp) <;> (try omega))]
             first | assumption | (simp [go_sem, *])
           have s9_2 : w9.cell? ⟨w2.heap.size, 2, none⟩ = some (.slice (some ⟨gL, 0, none⟩) L.length c2) := by
             rw [hb9.cell (p := ⟨w2.heap.size, 2, none⟩) (show w2.heap.size < _ by (try simp) <;> (try omega))]
             first | assumption | (simp [go_sem, *])
           have rf9 : ∀ o, w9.frozen? ⟨w.heap.size + 1, o, none⟩ = false := fun o => by
             rw [hb9.frozen (p := ⟨w.heap.size + 1, o, none⟩) (show w.heap.size + 1 < _ by (try simp) <;> (try omega))]
             first | exact rf4 o | (simp [go_sem, rf4])
           have r9_0 : w9.cell? ⟨w.heap.size + 1, 0, none⟩ = some (.int .i64 0) := by
             rw [hb9.cell (p := ⟨w.heap.size + 1, 0, none⟩) (show w.heap.size + 1 < _ by (try simp) <;> (try omega))]
             exact r4_0
           have r9_1 : w9.cell? ⟨w.heap.size + 1, 1, none⟩ = some (.int .i64 0) := by
             rw [hb9.cell (p := ⟨w.heap.size + 1, 1, none⟩) (show w.heap.size + 1 < _ by (try simp) <;> (try omega))]
             exact r4_1
           have r9_2 : w9.cell? ⟨w.heap.size + 1, 2, none⟩ = some (.slice none 0 0) := by
             rw [hb9.cell (p := ⟨w.heap.size + 1, 2, none⟩) (show w.heap.size + 1 < _ by (try simp) <;> (try omega))]
             exact r4_2
           have HL9 := Lib.hid (HLL.out.drew.below hb9)
           have HB9 : Hid (Below w.heap.size w w9) := HBW.out.drew.trans (hb9.mono (by (try simp) <;> (try omega)))))
    all_goals
      go_wp2_with fail
      refine bodyPost_ret (v := .tuple #[.agg #[.int .i64 t, .int .i64 v, .slice (some ⟨gL, 0, none⟩) L.length c2], .bool (stOK t v L)]) (by simp [results, Try.results102, go_sem, s9_0, s9_1, s9_2, r9_0, r9_1, r9_2, rf9]) rfl ?_
      refine ⟨t, v, _, _, L, by rw [chkS_isSome, ← HLT.out], fun x hx => ⟨by rw [HLT.out]; exact chkS_some hx, ?_⟩, ?_⟩
      · exact (((HL9.out.setCell (by show _ < _; omega) _).setCell (by show _ < _; omega) _).setCell (by show _ < _; omega) _).1.mono (by omega)
      · exact (((HB9.out.setCell (by (try simp) <;> (try omega)) _).setCell (by (try simp) <;> (try omega)) _).setCell (by (try simp) <;> (try omega)) _)
end
section
open Go.RowKit
theorem grown_setCell (w : World) (b o : Nat) (u : Value) : w.grownBy (w.setCell ⟨b, o, none⟩ u) (some b) :=
  ⟨rfl, rfl, rfl, by simp [World.setCell], fun k _ hne => Below.heap_setCell _ _ _ _ (fun e => hne (by rw [e]))⟩
theorem FreshIn.setBeside {e : TypeId} {lo hi c : Nat} {a : Option Addr} {L : List Ent} {w : World} (h : FreshIn entE e 2 lo hi (.slice a L.length c) L w) (hL : 0 < L.length) {b : Nat} {v : Int} (hc : w.cell? ⟨b, 1, none⟩ = some (.int .i64 v)) (o : Nat) (u : Value) :
    FreshIn entE e 2 lo hi (.slice a L.length c) L (w.setCell ⟨b, o, none⟩ u) := by
  have hs : Sl entE 2 w a L := h.sl (fun _ => rfl)
  obtain ⟨g, rfl, _, _, _, _⟩ := h.block hL
  obtain ⟨b', o', he, _, hcs⟩ := hs.at hL
  cases he
  have h1 := hcs 0 hL 1 (by omega)
  have hne : g ≠ b := by
    intro e
    subst e
    simp only [Nat.zero_mul, Nat.zero_add] at h1
    rw [hc] at h1
    simp [entE] at h1
  exact ⟨h.1.kept (grown_setCell w b o u) (.inr (by simp [Value.ownBlock]; exact hne)), h.2⟩
end
section
open Go.RowKit
set_option maxRecDepth 100000 in
set_option maxHeartbeats 16000000 in
theorem implApp_Xeok (a : Option Addr) (ca : Nat) (xs : List Ent) (t v : Int) (l0 : List UInt8) (w : World) (ha : Sl entE 2 w a xs) (lx : xs.length ≤ 60) (hs : ∀ e ∈ xs, e.2.size ≤ 65536) (h0 : l0.length ≤ 65536) (f0 f1 : ByteArray) (rest : List ByteArray) (ho : rdAll l0 = some (f0 :: f1 :: rest)) (hT : f0 ≠ str1 116) (hsz : f1.size = 3) (he : f0 = str1 101) (f2 : ByteArray) (hr : rest = [f2]) :
    Calls Try.prog 102 #[.agg #[.int .i64 t, .int .i64 v, .slice a xs.length ca], .string (strOf l0)] w (AppR (chkS t v (xs ++ [(n0F f1, f2)])) w) := by
  obtain ⟨i0, hi, hz0, hz1, hz2⟩ := info_parts Try.infoEntry
  have HS := Lib.hid hs
  have HO := Lib.hid ho
  have HFZ := Lib.hid (rdAll_size l0 _ ho)
  have hF1 := HFZ.out f1 (by simp)
  have HF2 : Hid (∀ s ∈ rest, s.size ≤ l0.length) := Lib.hid fun s (hs : s ∈ rest) => HFZ.out s (by simp [hs])
  clear hs ho HFZ
  have HE := Lib.hid he
  clear he
  have HT := Lib.hid hT
  clear hT
  go_enter Try.func102, Try.ntmps102
  go_wp2_with fail
  refine (readFields_c l0 _ h0).mono ?_
  rw [HO.out]
  rintro e w1 ⟨aF, cF, F, rfl, hfF, hF, hb1⟩
  have hF' := hF _ rfl
  have hSF : Sl strE 1 w1 aF F := hfF.sl (fun _ => rfl)
  rw [hF'] at hSF
  have hnF : F.length = rest.length + 2 := by rw [hF']; rfl
  clear hfF hF hF'
  generalize F.length = nF at *
  obtain ⟨bF, oF, rfl, hbF, hcF⟩ := hSF.at (i := 0) (by simp)
  have d1_0 : w1.cell? ⟨bF, oF, none⟩ = some (.string f0) := by
    have := hcF 0 (by simp) 0 (by omega)
    simpa [strE] using this
  have d1_1 : w1.cell? ⟨bF, oF + 1, none⟩ = some (.string f1) := by
    have := hcF 1 (by simp) 0 (by omega)
    simpa [strE] using this
  have D1 : Hid (∀ f2 r', rest = f2 :: r' → w1.cell? ⟨bF, oF + 2, none⟩ = some (.string f2)) := Lib.hid fun f2 r' h => by
    subst h
    have := hcF 2 (by simp) 0 (by omega)
    simpa [strE] using this
  clear hcF hSF
  have hz1' := hb1.size
  simp only [World.size_alloc] at hz1'
  have HB1 : Hid (Below w.heap.size w w1) := (by repeat (first | exact Below.refl _ _ | (refine Below.alloc ?_ (by (try simp) <;> (try omega)) _) | (refine Below.setCell ?_ (by (try simp) <;> (try omega)) _) | (refine Below.drew ?_) | (refine Below.trans ?_ (Below.mono (by assumption) (by (try simp) <;> (try omega))))))
  have HA1 := Lib.hid (ha.keep HB1.out)
  have q1_0 : w1.cell? ⟨w.heap.size, 0, none⟩ = some (.int .i64 t) := by
    rw [hb1.cell (p := ⟨w.heap.size, 0, none⟩) (show w.heap.size < _ by (try simp) <;> (try omega))]
    first | assumption | (simp [go_sem, *])
  have q1_1 : w1.cell? ⟨w.heap.size, 1, none⟩ = some (.int .i64 v) := by
    rw [hb1.cell (p := ⟨w.heap.size, 1, none⟩) (show w.heap.size < _ by (try simp) <;> (try omega))]
    first | assumption | (simp [go_sem, *])
  have q1_2 : w1.cell? ⟨w.heap.size, 2, none⟩ = some (.slice a xs.length ca) := by
    rw [hb1.cell (p := ⟨w.heap.size, 2, none⟩) (show w.heap.size < _ by (try simp) <;> (try omega))]
    first | assumption | (simp [go_sem, *])
  have ql1 : w.heap.size < w1.heap.size := by omega
  have r1_0 : w1.cell? ⟨w.heap.size + 1, 0, none⟩ = some (.int .i64 0) := by
    rw [hb1.cell (p := ⟨w.heap.size + 1, 0, none⟩) (show w.heap.size + 1 < _ by (try simp) <;> (try omega))]
    first | assumption | (simp [go_sem, *])
  have r1_1 : w1.cell? ⟨w.heap.size + 1, 1, none⟩ = some (.int .i64 0) := by
    rw [hb1.cell (p := ⟨w.heap.size + 1, 1, none⟩) (show w.heap.size + 1 < _ by (try simp) <;> (try omega))]
    first | assumption | (simp [go_sem, *])
  have r1_2 : w1.cell? ⟨w.heap.size + 1, 2, none⟩ = some (.slice none 0 0) := by
    rw [hb1.cell (p := ⟨w.heap.size + 1, 2, none⟩) (show w.heap.size + 1 < _ by (try simp) <;> (try omega))]
    first | assumption | (simp [go_sem, *])
  have rf1 : ∀ o, w1.frozen? ⟨w.heap.size + 1, o, none⟩ = false := fun o => by
    rw [hb1.frozen (p := ⟨w.heap.size + 1, o, none⟩) (show w.heap.size + 1 < _ by (try simp) <;> (try omega))]
    simp [go_sem]
  have rl1 : w.heap.size + 1 < w1.heap.size := by omega
  clear hb1
  have hlt : decide ((nF : Int) < 2) = false := by simp; omega
  have hlt2 : ¬ ((nF : Int) < 2) := by omega
  have hi0' : (0 : Int) < (nF : Int) := by omega
  have hi1' : (1 : Int) < (nF : Int) := by omega
  have HNF := Lib.hid hnF
  clear hnF
  go_wp2_with fail
  refine (cloneState_c a ca xs t v _ HA1.out (by omega)).mono ?_
  rintro e w2 ⟨a2, c2, rfl, hf2, hb2⟩
  have hz2' := hb2.size
  have q2_0 : w2.cell? ⟨w.heap.size, 0, none⟩ = some (.int .i64 t) := by
    rw [hb2.cell (p := ⟨w.heap.size, 0, none⟩) (show w.heap.size < _ by (try simp) <;> (try omega))]
    first | assumption | (simp [go_sem, *])
  have q2_1 : w2.cell? ⟨w.heap.size, 1, none⟩ = some (.int .i64 v) := by
    rw [hb2.cell (p := ⟨w.heap.size, 1, none⟩) (show w.heap.size < _ by (try simp) <;> (try omega))]
    first | assumption | (simp [go_sem, *])
  have q2_2 : w2.cell? ⟨w.heap.size, 2, none⟩ = some (.slice a xs.length ca) := by
    rw [hb2.cell (p := ⟨w.heap.size, 2, none⟩) (show w.heap.size < _ by (try simp) <;> (try omega))]
    first | assumption | (simp [go_sem, *])
  have ql2 : w.heap.size < w2.heap.size := by omega
  have r2_0 : w2.cell? ⟨w.heap.size + 1, 0, none⟩ = some (.int .i64 0) := by
    rw [hb2.cell (p := ⟨w.heap.size + 1, 0, none⟩) (show w.heap.size + 1 < _ by (try simp) <;> (try omega))]
    first | assumption | (simp [go_sem, *])
  have r2_1 : w2.cell? ⟨w.heap.size + 1, 1, none⟩ = some (.int .i64 0) := by
    rw [hb2.cell (p := ⟨w.heap.size + 1, 1, none⟩) (show w.heap.size + 1 < _ by (try simp) <;> (try omega))]
    first | assumption | (simp [go_sem, *])
  have r2_2 : w2.cell? ⟨w.heap.size + 1, 2, none⟩ = some (.slice none 0 0) := by
    rw [hb2.cell (p := ⟨w.heap.size + 1, 2, none⟩) (show w.heap.size + 1 < _ by (try simp) <;> (try omega))]
    first | assumption | (simp [go_sem, *])
  have rf2 : ∀ o, w2.frozen? ⟨w.heap.size + 1, o, none⟩ = false := fun o => by
    rw [hb2.frozen (p := ⟨w.heap.size + 1, o, none⟩) (show w.heap.size + 1 < _ by (try simp) <;> (try omega))]
    first | exact rf1 o | (simp [go_sem]; done) | (rw [((Below.refl _ _).alloc (Nat.le_refl _) _ : Below _ _ _).frozen (p := ⟨w.heap.size + 1, o, none⟩) (show w.heap.size + 1 < _ by omega)]; exact rf1 o)
  have rl2 : w.heap.size + 1 < w2.heap.size := by omega
  have d2_0 : w2.cell? ⟨bF, oF, none⟩ = some (.string f0) := by
    rw [hb2.cell (p := ⟨bF, oF, none⟩) (by show bF < _; omega)]
    exact d1_0
  have d2_1 : w2.cell? ⟨bF, oF + 1, none⟩ = some (.string f1) := by
    rw [hb2.cell (p := ⟨bF, oF + 1, none⟩) (by show bF < _; omega)]
    exact d1_1
  have D2 : Hid (∀ f2 r', rest = f2 :: r' → w2.cell? ⟨bF, oF + 2, none⟩ = some (.string f2)) := Lib.hid (fun f2 r' h => by
    rw [hb2.cell (p := ⟨bF, oF + 2, none⟩) (by show bF < _; omega)]
    exact D1.out f2 r' h)
  have HB2 : Hid (Below w.heap.size w w2) := HB1.out.trans (hb2.mono (by omega))
  have HL2 := Lib.hid (hf2.here.alloc (.cells #[.int .i64 t, .int .i64 v, .slice a2 xs.length c2] 60))
  have hbF2 : bF < w2.heap.size := by omega
  clear hb2 hf2 d1_0 d1_1 D1 HB1 HA1 q1_0 q1_1 q1_2 r1_0 r1_1 r1_2 rf1
  have e0 : (f0.toList == [116]) = false := str1_ne HT.out
  go_wp2_with fail
  refine (someX_c f1 _ hsz (by omega)).mono ?_
  rintro e w3 ⟨aN, cN, N, rfl, hfN, hN, hb3⟩
  have hz3' := hb3.size
  simp only [World.size_alloc] at hz3'
  have HB3 : Hid (Below w.heap.size w w3) := (HB2.out.alloc (by omega) (.cells #[.int .i64 t, .int .i64 v, .slice a2 xs.length c2] 60)).trans (hb3.mono (by (try simp) <;> (try omega)))
  have q3_0 : w3.cell? ⟨w.heap.size, 0, none⟩ = some (.int .i64 t) := by
    rw [hb3.cell (p := ⟨w.heap.size, 0, none⟩) (show w.heap.size < _ by (try simp) <;> (try omega))]
    first | assumption | (simp [go_sem, *])
  have q3_1 : w3.cell? ⟨w.heap.size, 1, none⟩ = some (.int .i64 v) := by
    rw [hb3.cell (p := ⟨w.heap.size, 1, none⟩) (show w.heap.size < _ by (try simp) <;> (try omega))]
    first | assumption | (simp [go_sem, *])
  have q3_2 : w3.cell? ⟨w.heap.size, 2, none⟩ = some (.slice a xs.length ca) := by
    rw [hb3.cell (p := ⟨w.heap.size, 2, none⟩) (show w.heap.size < _ by (try simp) <;> (try omega))]
    first | assumption | (simp [go_sem, *])
  have ql3 : w.heap.size < w3.heap.size := by omega
  have r3_0 : w3.cell? ⟨w.heap.size + 1, 0, none⟩ = some (.int .i64 0) := by
    rw [hb3.cell (p := ⟨w.heap.size + 1, 0, none⟩) (show w.heap.size + 1 < _ by (try simp) <;> (try omega))]
    first | assumption | (simp [go_sem, *])
  have r3_1 : w3.cell? ⟨w.heap.size + 1, 1, none⟩ = some (.int .i64 0) := by
    rw [hb3.cell (p := ⟨w.heap.size + 1, 1, none⟩) (show w.heap.size + 1 < _ by (try simp) <;> (try omega))]
    first | assumption | (simp [go_sem, *])
  have r3_2 : w3.cell? ⟨w.heap.size + 1, 2, none⟩ = some (.slice none 0 0) := by
    rw [hb3.cell (p := ⟨w.heap.size + 1, 2, none⟩) (show w.heap.size + 1 < _ by (try simp) <;> (try omega))]
    first | assumption | (simp [go_sem, *])
  have rf3 : ∀ o, w3.frozen? ⟨w.heap.size + 1, o, none⟩ = false := fun o => by
    rw [hb3.frozen (p := ⟨w.heap.size + 1, o, none⟩) (show w.heap.size + 1 < _ by (try simp) <;> (try omega))]
    first | exact rf2 o | (simp [go_sem]; done) | (rw [((Below.refl _ _).alloc (Nat.le_refl _) _ : Below _ _ _).frozen (p := ⟨w.heap.size + 1, o, none⟩) (show w.heap.size + 1 < _ by omega)]; exact rf2 o)
  have rl3 : w.heap.size + 1 < w3.heap.size := by omega
  have s3_0 : w3.cell? ⟨w2.heap.size, 0, none⟩ = some (.int .i64 t) := by
    rw [hb3.cell (p := ⟨w2.heap.size, 0, none⟩) (show w2.heap.size < _ by (try simp) <;> (try omega))]
    first | assumption | (simp [go_sem, *])
  have s3_1 : w3.cell? ⟨w2.heap.size, 1, none⟩ = some (.int .i64 v) := by
    rw [hb3.cell (p := ⟨w2.heap.size, 1, none⟩) (show w2.heap.size < _ by (try simp) <;> (try omega))]
    first | assumption | (simp [go_sem, *])
  have s3_2 : w3.cell? ⟨w2.heap.size, 2, none⟩ = some (.slice a2 xs.length c2) := by
    rw [hb3.cell (p := ⟨w2.heap.size, 2, none⟩) (show w2.heap.size < _ by (try simp) <;> (try omega))]
    first | assumption | (simp [go_sem, *])
  have sf3 : ∀ o, w3.frozen? ⟨w2.heap.size, o, none⟩ = false := fun o => by
    rw [hb3.frozen (p := ⟨w2.heap.size, o, none⟩) (show w2.heap.size < _ by (try simp) <;> (try omega))]
    first | exact sf2 o | (simp [go_sem]; done) | (rw [((Below.refl _ _).alloc (Nat.le_refl _) _ : Below _ _ _).frozen (p := ⟨w2.heap.size, o, none⟩) (show w2.heap.size < _ by omega)]; exact sf2 o)
  have sl3 : w2.heap.size < w3.heap.size := by omega
  have d3_0 : w3.cell? ⟨bF, oF, none⟩ = some (.string f0) := by
    rw [hb3.cell (p := ⟨bF, oF, none⟩) (by show bF < _; simp; omega), World.cell?_alloc_lt _ _ _ (by show bF < _; omega)]
    exact d2_0
  have D3 : Hid (∀ f2 r', rest = f2 :: r' → w3.cell? ⟨bF, oF + 2, none⟩ = some (.string f2)) := Lib.hid (fun f2 r' h => by
    rw [hb3.cell (p := ⟨bF, oF + 2, none⟩) (by show bF < _; simp; omega), World.cell?_alloc_lt _ _ _ (by show bF < _; omega)]
    exact D2.out f2 r' h)
  have HL3 := Lib.hid (HL2.out.below hb3)
  have hbF3 : bF < w3.heap.size := by omega
  clear hb3 d2_0 d2_1 D2 HB2 HL2 q2_0 q2_1 q2_2 r2_0 r2_1 r2_2 rf2
  have hN' := hN _ rfl
  have hSN : Sl intE 1 w3 aN N := hfN.sl (fun _ => rfl)
  rw [hN'] at hSN
  have hnN : N.length = 1 := by rw [hN']; rfl
  have hgN := fun k hk => (Fresh.lt (k := k) hfN hk).1
  clear hfN hN hN'
  generalize N.length = nN at *
  obtain ⟨bN, oN, rfl, hbN, hcN⟩ := hSN.at (i := 0) (by simp)
  have g3_0 : w3.cell? ⟨bN, oN, none⟩ = some (.int .i64 (n0F f1)) := by
    have := hcN 0 (by simp) 0 (by omega)
    simpa [intE] using this
  have hj0' : (0 : Int) < (nN : Int) := by omega
  have HNN := Lib.hid hnN
  clear hcN hSN hnN
  generalize n0F f1 = n0 at *
  generalize n1F f1 = n1 at *
  have e2c : (f0.toList == [99]) = false := str1_other HE.out (by decide)
  have e3c : (f0.toList == [101]) = true := str1_is HE.out
  have hl1 : rest.length = 1 := by rw [hr]; rfl
  have d3_2 := D3.out f2 [] hr
  have hf2s : f2.size ≤ 65536 := by
    have := HF2.out f2 (by rw [hr]; simp)
    omega
  clear hr
  have h1 := HNF.out
  have e4 : decide ((nF : Int) = 3) = true := by simp; omega
  have e4b : decide (nF = 3) = true := by simp; omega
  have e4c : ((nF : Int) == 3) = true := by simp; omega
  have hi2' : (2 : Int) < (nF : Int) := by omega
  have hi2n : 2 < nF := by omega
  have hm0 : 0 < nN := by omega
  clear h1
  have hgNb : w2.heap.size + 1 ≤ bN := by simpa using hgN bN rfl
  have hne3 : ¬ bN = w2.heap.size := by omega
  have hne4 : ¬ bF = w2.heap.size := by omega
  have hne5 : ¬ w2.heap.size = bN := by omega
  have hne6 : ¬ w2.heap.size = bF := by omega
  have hne7 : ¬ w2.heap.size = w3.heap.size := by omega
  have hne8 : ¬ w3.heap.size = w2.heap.size := by omega
  have hAl : ∀ (n : Nat) (o : Obj), ((w3.drewN n).alloc o).cell? ⟨w2.heap.size, 2, none⟩ = some (.slice a2 xs.length c2) := fun n o => by
    rw [World.cell?_alloc_lt _ _ _ (by show w2.heap.size < _; simp; omega)]
    exact s3_2
  have hne1 : ¬ w2.heap.size = w.heap.size + 1 := by omega
  have hne2 : ¬ w.heap.size + 1 = w2.heap.size := by omega
  go_upto_block 0 with fail
  go_cut [5] (fun s wx => ∃ a5 c5 L, Hid (L = xs ++ [(n0, f2)]) ∧ s = .bool false ∧ wx.cell? ⟨w2.heap.size, 0, none⟩ = some (.int .i64 t) ∧ wx.cell? ⟨w2.heap.size, 1, none⟩ = some (.int .i64 v) ∧ wx.cell? ⟨w2.heap.size, 2, none⟩ = some (.slice a5 L.length c5) ∧ wx.cell? ⟨w.heap.size + 1, 0, none⟩ = some (.int .i64 0) ∧ wx.cell? ⟨w.heap.size + 1, 1, none⟩ = some (.int .i64 0) ∧ wx.cell? ⟨w.heap.size + 1, 2, none⟩ = some (.slice none 0 0) ∧ (∀ o, wx.frozen? ⟨w.heap.size + 1, o, none⟩ = false) ∧ FreshIn entE 76 2 w1.heap.size wx.heap.size (.slice a5 L.length c5) (L) wx ∧ Below w.heap.size w wx ∧ w2.heap.size < wx.heap.size)
  case first =>
    go_wp2_with fail
    go_quiet (fail)
    go_wp2_with fail
    go_quiet (fail)
    go_wp2_with fail
    go_region_law
      (first
        | (refine step_append_fresh (by rfl) (.tmp 107) (.tmp 115) 51 51 (by rfl) w1.heap.size w2.heap.size 76 i0 (.agg #[.int .i64 0, .string ⟨#[]⟩]) 2 24 Try.underlying51 hi hz0 hz1 hz2 rfl (by decide) (.slice a2 xs.length c2) xs (by rfl) (FreshIn.alloc (by repeat (first | exact HL3.out | (refine FreshIn.drew ?_) | (refine FreshIn.below ?_ (below_drewN _ _ _)))) _) _ [(n0, f2)] (by rfl) (Src.ofBox (enc := entE) Try.underlying51 (fun _ => rfl) entOne (n0, f2) #[.int .i64 n0, .string f2] 76 rfl w3.heap.size (by simp)) (by simp; omega) (by simp; omega) ?_
           intro a7 c7 w7 L7 hL7 hf7 hm7
           have hy7 := hm7.size
           simp at hy7
           have HF7 := Lib.hid hf7
           have HL7 : Hid (L7 = xs ++ [(n0, f2)]) := hL7
           clear hf7 hL7
           have s7_0 : w7.cell? ⟨w2.heap.size, 0, none⟩ = some (.int .i64 t) := by
             rw [hm7.cell (p := ⟨w2.heap.size, 0, none⟩) (by show w2.heap.size < _; simp; omega) (.inr (Nat.le_refl _))]
             rw [World.cell?_alloc_lt _ _ _ (by show w2.heap.size < _; simp; omega)]
             exact s3_0
           have s7_1 : w7.cell? ⟨w2.heap.size, 1, none⟩ = some (.int .i64 v) := by
             rw [hm7.cell (p := ⟨w2.heap.size, 1, none⟩) (by show w2.heap.size < _; simp; omega) (.inr (Nat.le_refl _))]
             rw [World.cell?_alloc_lt _ _ _ (by show w2.heap.size < _; simp; omega)]
             exact s3_1
           have s7_2 : w7.cell? ⟨w2.heap.size, 2, none⟩ = some (.slice a2 xs.length c2) := by
             rw [hm7.cell (p := ⟨w2.heap.size, 2, none⟩) (by show w2.heap.size < _; simp; omega) (.inr (Nat.le_refl _))]
             rw [World.cell?_alloc_lt _ _ _ (by show w2.heap.size < _; simp; omega)]
             exact s3_2
           have r7_0 : w7.cell? ⟨w.heap.size + 1, 0, none⟩ = some (.int .i64 0) := by
             rw [hm7.cell (p := ⟨w.heap.size + 1, 0, none⟩) (by show w.heap.size + 1 < _; simp; omega) (.inl (by show w.heap.size + 1 < _; omega))]
             rw [World.cell?_alloc_lt _ _ _ (by show w.heap.size + 1 < _; simp; omega)]
             exact r3_0
           have r7_1 : w7.cell? ⟨w.heap.size + 1, 1, none⟩ = some (.int .i64 0) := by
             rw [hm7.cell (p := ⟨w.heap.size + 1, 1, none⟩) (by show w.heap.size + 1 < _; simp; omega) (.inl (by show w.heap.size + 1 < _; omega))]
             rw [World.cell?_alloc_lt _ _ _ (by show w.heap.size + 1 < _; simp; omega)]
             exact r3_1
           have r7_2 : w7.cell? ⟨w.heap.size + 1, 2, none⟩ = some (.slice none 0 0) := by
             rw [hm7.cell (p := ⟨w.heap.size + 1, 2, none⟩) (by show w.heap.size + 1 < _; simp; omega) (.inl (by show w.heap.size + 1 < _; omega))]
             rw [World.cell?_alloc_lt _ _ _ (by show w.heap.size + 1 < _; simp; omega)]
             exact r3_2
           have g7_0 : w7.cell? ⟨bN, oN, none⟩ = some (.int .i64 n0) := by
             rw [hm7.cell (p := ⟨bN, oN, none⟩) (by show bN < _; simp; omega) (.inr (by show _ ≤ bN; omega))]
             rw [World.cell?_alloc_lt _ _ _ (by show bN < _; simp; omega)]
             exact g3_0
           have g7_1 : w7.cell? ⟨bF, oF + 2, none⟩ = some (.string f2) := by
             rw [hm7.cell (p := ⟨bF, oF + 2, none⟩) (by show bF < _; simp; omega) (.inl (by show bF < _; omega))]
             rw [World.cell?_alloc_lt _ _ _ (by show bF < _; simp; omega)]
             exact d3_2
           have sf7 : ∀ o, w7.frozen? ⟨w2.heap.size, o, none⟩ = false := fun o => by
             rw [hm7.frozen (p := ⟨w2.heap.size, o, none⟩) (by show w2.heap.size < _; simp; omega) (.inr (Nat.le_refl _))]
             rw [((Below.refl _ _).alloc (Nat.le_refl _) _ : Below _ _ _).frozen (p := ⟨w2.heap.size, o, none⟩) (by show w2.heap.size < _; simp; omega)]
             exact sf3 o
           have rf7 : ∀ o, w7.frozen? ⟨w.heap.size + 1, o, none⟩ = false := fun o => by
             rw [hm7.frozen (p := ⟨w.heap.size + 1, o, none⟩) (by show w.heap.size + 1 < _; simp; omega) (.inl (by show w.heap.size + 1 < _; omega))]
             rw [((Below.refl _ _).alloc (Nat.le_refl _) _ : Below _ _ _).frozen (p := ⟨w.heap.size + 1, o, none⟩) (by show w.heap.size + 1 < _; simp; omega)]
             exact rf3 o
           skip))
    all_goals
      go_wp2_with fail
      go_meet
      refine ⟨a7, c7, L7, HL7.out, rfl, ?_, ?_, ?_, ?_, ?_, ?_, ?_, ?_, ?_, ?_⟩
      · simp [go_sem, s7_0, s7_1, s7_2, r7_0, r7_1, r7_2, sf7, rf7, hne1, hne2]
      · simp [go_sem, s7_0, s7_1, s7_2, r7_0, r7_1, r7_2, sf7, rf7, hne1, hne2]
      · simp [go_sem, s7_0, s7_1, s7_2, r7_0, r7_1, r7_2, sf7, rf7, hne1, hne2]
      · simp [go_sem, s7_0, s7_1, s7_2, r7_0, r7_1, r7_2, sf7, rf7, hne1, hne2]
      · simp [go_sem, s7_0, s7_1, s7_2, r7_0, r7_1, r7_2, sf7, rf7, hne1, hne2]
      · simp [go_sem, s7_0, s7_1, s7_2, r7_0, r7_1, r7_2, sf7, rf7, hne1, hne2]
      · intro o
        simp [go_sem, s7_0, s7_1, s7_2, r7_0, r7_1, r7_2, sf7, rf7, hne1, hne2]
      · have hsz : (w7.setCell ⟨w2.heap.size, 2, none⟩ (.slice a7 L7.length c7)).heap.size = w7.heap.size := by simp
        rw [hsz]
        exact FreshIn.setBeside HF7.out (by rw [HL7.out]; simp) s7_1 _ _
      · refine Below.setCell ?_ (by show w.heap.size ≤ w2.heap.size; omega) _
        refine Below.trans ?_ (hm7.below (by omega) (by simp; omega))
        repeat (first | exact HB3.out | (refine Below.alloc ?_ (by simp; omega) _) | (refine Below.trans ?_ (below_drewN _ _ _)) | (refine Below.drew ?_))
      · simp; omega
  case rest =>
    obtain ⟨a5, c5, L, HLT, hcut⟩ := hcut
    have hL0 := HLT.out
    have hlL0 : L.length = xs.length + 1 := by rw [hL0]; simp
    have hlL : L.length ≤ 1048576 := by omega
    have HSL : Hid (∀ s ∈ L, s.2.size ≤ 1048576) := Lib.hid fun s hs => by
      rw [hL0] at hs
      rcases List.mem_append.1 hs with h | h
      · have := HS.out s h
        omega
      · simp at h
        subst h
        show f2.size ≤ _
        omega
    clear hL0 hlL0
    obtain ⟨rfl, s4_0, s4_1, s4_2, r4_0, r4_1, r4_2, rf4, hfL, hbw, hsw⟩ := hcut
    obtain ⟨w4, hw4⟩ : ∃ x, x = wc := ⟨_, rfl⟩
    subst hw4
    have HLL := Lib.hid hfL
    have HBW := Lib.hid hbw
    clear hfL hbw
    go_wp2_with fail
    go_region_held3 (fun w' => w'.cell? ⟨w2.heap.size, 0, none⟩ = some (.int .i64 t) ∧ w'.cell? ⟨w2.heap.size, 1, none⟩ = some (.int .i64 v) ∧ w'.cell? ⟨w2.heap.size, 2, none⟩ = some (.slice a5 L.length c5))
      (first | ((repeat' apply And.intro) <;> (simp [go_sem, *]; done)) | go_keep)
      (first
        | (go_at_call 100
           refine (isState_c a5 c5 L t v _ (HLL.out.drew.sl fun _ => rfl) hlL HSL.out).mono ?_
           rintro e w9 ⟨rfl, hb9⟩
           have hz9 := hb9.size
           try simp at hz9
           have s9_0 : w9.cell? ⟨w2.heap.size, 0, none⟩ = some (.int .i64 t) := by
             rw [hb9.cell (p := ⟨w2.heap.size, 0, none⟩) (show w2.heap.size < _ by (try simp) <;> (try omega))]
             first | assumption | (simp [go_sem, *])
           have s9_1 : w9.cell? ⟨w2.heap.size, 1, none⟩ = some (.int .i64 v) := by
             rw [hb9.cell (p := ⟨w2.heap.size, 1, none⟩) (show w2.heap.size < _ by (try simp) <;> (try omega))]
             first | assumption | (simp [go_sem, *])
           have s9_2 : w9.cell? ⟨w2.heap.size, 2, none⟩ = some (.slice a5 L.length c5) := by
             rw [hb9.cell (p := ⟨w2.heap.size, 2, none⟩) (show w2.heap.size < _ by (try simp) <;> (try omega))]
             first | assumption | (simp [go_sem, *])
           have rf9 : ∀ o, w9.frozen? ⟨w.heap.size + 1, o, none⟩ = false := fun o => by
             rw [hb9.frozen (p := ⟨w.heap.size + 1, o, none⟩) (show w.heap.size + 1 < _ by (try simp) <;> (try omega))]
             first | exact rf4 o | (simp [go_sem, rf4])
           have r9_0 : w9.cell? ⟨w.heap.size + 1, 0, none⟩ = some (.int .i64 0) := by
             rw [hb9.cell (p := ⟨w.heap.size + 1, 0, none⟩) (show w.heap.size + 1 < _ by (try simp) <;> (try omega))]
             exact r4_0
           have r9_1 : w9.cell? ⟨w.heap.size + 1, 1, none⟩ = some (.int .i64 0) := by
             rw [hb9.cell (p := ⟨w.heap.size + 1, 1, none⟩) (show w.heap.size + 1 < _ by (try simp) <;> (try omega))]
             exact r4_1
           have r9_2 : w9.cell? ⟨w.heap.size + 1, 2, none⟩ = some (.slice none 0 0) := by
             rw [hb9.cell (p := ⟨w.heap.size + 1, 2, none⟩) (show w.heap.size + 1 < _ by (try simp) <;> (try omega))]
             exact r4_2
           have HL9 := Lib.hid (HLL.out.drew.below hb9)
           have HB9 : Hid (Below w.heap.size w w9) := HBW.out.drew.trans (hb9.mono (by (try simp) <;> (try omega)))))
    all_goals
      go_wp2_with fail
      refine bodyPost_ret (v := .tuple #[.agg #[.int .i64 t, .int .i64 v, .slice a5 L.length c5], .bool (stOK t v L)]) (by simp [results, Try.results102, go_sem, s9_0, s9_1, s9_2, r9_0, r9_1, r9_2, rf9]) rfl ?_
      refine ⟨t, v, _, _, L, by rw [chkS_isSome, ← HLT.out], fun x hx => ⟨by rw [HLT.out]; exact chkS_some hx, ?_⟩, ?_⟩
      · exact (((HL9.out.setCell (by show _ < _; omega) _).setCell (by show _ < _; omega) _).setCell (by show _ < _; omega) _).1.mono (by omega)
      · exact (((HB9.out.setCell (by (try simp) <;> (try omega)) _).setCell (by (try simp) <;> (try omega)) _).setCell (by (try simp) <;> (try omega)) _)
end
section
open Go.RowKit
theorem str1_dif {c d : UInt8} (h : c ≠ d) : str1 c ≠ str1 d := fun e => by
  have h1 : (str1 c).toList = (str1 d).toList := by rw [e]
  have h2 : ∀ c : UInt8, (str1 c).toList = [c] := fun c => strOf_toL _
  rw [h2, h2] at h1
  exact h (by simpa using h1)
theorem chkS_ok {t v : Int} {xs : List Ent} {x : Int × Int × List Ent} (h : chkS t v xs = some x) : stOK x.1 x.2.1 x.2.2 = true := by
  unfold chkS at h
  split at h
  · cases h
    assumption
  · cases h
theorem apC_ok {t v : Int} {xs : List Ent} {f0 f1 : ByteArray} {rest : List ByteArray} {x : Int × Int × List Ent} (h : apC t v xs f0 f1 rest = some x) : stOK x.1 x.2.1 x.2.2 = true := by
  unfold apC at h
  repeat' (first | exact chkS_ok h | (cases h; done) | split at h)
theorem apV_ok {t v : Int} {xs : List Ent} {o : Option (List ByteArray)} {x : Int × Int × List Ent} (h : apV t v xs o = some x) : stOK x.1 x.2.1 x.2.2 = true := by
  unfold apV at h
  split at h
  · exact apC_ok h
  · cases h
end
section
open Go.RowKit
theorem implApplied_c (a : Option Addr) (ca : Nat) (xs : List Ent) (t v : Int) (l0 : List UInt8) (w : World) (ha : Sl entE 2 w a xs) (lx : xs.length ≤ 60) (hs : ∀ e ∈ xs, e.2.size ≤ 65536) (h0 : l0.length ≤ 65536) :
    Calls Try.prog 102 #[.agg #[.int .i64 t, .int .i64 v, .slice a xs.length ca], .string (strOf l0)] w (AppR (apV t v xs (rdAll l0)) w) := by
  cases ho : rdAll l0 with
  | none => exact implApp_short a ca xs t v l0 w ha lx hs h0 none ho (fun F h => by cases h)
  | some F =>
    match F, ho with
    | [], ho => exact implApp_short a ca xs t v l0 w ha lx hs h0 _ ho (fun F h => by cases h; simp)
    | [f], ho => exact implApp_short a ca xs t v l0 w ha lx hs h0 _ ho (fun F h => by cases h; simp)
    | f0 :: f1 :: rest, ho =>
      show Calls _ _ _ _ (AppR (apC t v xs f0 f1 rest) w)
      unfold apC
      by_cases hT : f0 = str1 116
      · rw [if_pos hT]
        by_cases hsz : f1.size = 6
        · by_cases hr : rest = []
          · by_cases hle : t ≤ n0F f1
            · rw [if_pos ⟨hsz, hr, hle⟩]
              exact implApp_Tok a ca xs t v l0 w ha lx hs h0 f0 f1 rest ho hT hsz (by rw [hr]; rfl) hle
            · rw [if_neg (fun h => hle h.2.2)]
              exact implApp_Tless a ca xs t v l0 w ha lx hs h0 f0 f1 rest ho hT hsz (by rw [hr]; rfl) hle
          · rw [if_neg (fun h => hr h.2.1)]
            exact implApp_Trest a ca xs t v l0 w ha lx hs h0 f0 f1 rest ho hT hsz (fun h => hr (List.eq_nil_of_length_eq_zero h))
        · rw [if_neg (fun h => hsz h.1)]
          exact implApp_Tsz a ca xs t v l0 w ha lx hs h0 f0 f1 rest ho hT hsz
      · rw [if_neg hT]
        by_cases hsz : f1.size = 3
        · rw [if_pos hsz]
          by_cases hc : f0 = str1 99
          · by_cases hr : rest = []
            · by_cases hb : inB (n0F f1) 0 ((xs.length : Int) - 1) = true
              · rw [if_pos ⟨hc, hr, hb⟩]
                have h1 : (0 : Int) ≤ n0F f1 ∧ n0F f1 ≤ (xs.length : Int) - 1 := by simpa [inB] using hb
                obtain ⟨k, hk⟩ : ∃ k : Nat, n0F f1 = (k : Int) := ⟨(n0F f1).toNat, by omega⟩
                have hk2 : (n0F f1).toNat = k := by omega
                rw [hk2]
                exact implApp_Xcok a ca xs t v l0 w ha lx hs h0 f0 f1 rest ho hT hsz hc (by rw [hr]; rfl) k hk (by omega)
              · rw [if_neg (fun h => hb h.2.2), if_neg (fun h => by rw [hr] at h; simp at h)]
                exact implApp_Xcrange a ca xs t v l0 w ha lx hs h0 f0 f1 rest ho hT hsz hc (by rw [hr]; rfl) (by simpa using hb)
            · rw [if_neg (fun h => hr h.2.1), if_neg (fun h => str1_dif (by decide) (hc.symm.trans h.1))]
              exact implApp_Xcrest a ca xs t v l0 w ha lx hs h0 f0 f1 rest ho hT hsz hc (fun h => hr (List.eq_nil_of_length_eq_zero h))
          · rw [if_neg (fun h => hc h.1)]
            by_cases he : f0 = str1 101
            · by_cases hr : rest.length = 1
              · rw [if_pos ⟨he, hr⟩]
                obtain ⟨f2, rfl⟩ := List.length_eq_one_iff.1 hr
                exact implApp_Xeok a ca xs t v l0 w ha lx hs h0 f0 f1 [f2] ho hT hsz he f2 rfl
              · rw [if_neg (fun h => hr h.2)]
                exact implApp_Xerest a ca xs t v l0 w ha lx hs h0 f0 f1 rest ho hT hsz he hr
            · rw [if_neg (fun h => he h.1)]
              exact implApp_Xother a ca xs t v l0 w ha lx hs h0 f0 f1 rest ho hT hsz hc he
        · rw [if_neg hsz]
          exact implApp_Xsz a ca xs t v l0 w ha lx hs h0 f0 f1 rest ho hT hsz
end
end Go.Proofs.Ytckaccadgbcohaa
