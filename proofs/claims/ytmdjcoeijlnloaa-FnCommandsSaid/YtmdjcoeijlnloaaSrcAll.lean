/- Drawn states: spec.StateOf, spec.LaterOf. No conditions but sizes. -/
import Derived.Test.YtmdjcoeijlnloaaScalar
import Derived.Test.YtmdjcoeijlnloaaSl
import Derived.Test.YtmdjcoeijlnloaaMid
import Derived.Lib.Hide
import Derived.BigQuiet
import Derived.Test.YtmdjcoeijlnloaaRcvAll
import Derived.Deep.RegionHeld3
import Derived.Deep.RegionLaw
import Derived.OrdersHeld
import Derived.RegionTactic
import Derived.Deep.RegionHeld
import Derived.Deep.CutBlock
import Derived.Deep.DeepCutAuto
namespace Go.Proofs.Ytmdjcoeijlnloaa
set_option linter.unusedVariables false
set_option linter.unusedSimpArgs false
section
open Go.RowKit
/-- A source of choices in block b, which has been asked K times at most. -/
def SrcAt (b : Nat) (a : Option Addr) (c : Nat) (xs : List UInt8) (K : Nat) (w : World) : Prop :=
  ∃ (p seed : Nat), xs.length ≤ 1048576 ∧ p ≤ K ∧ seed < 2147483648 ∧ w.cell? ⟨b, 0, none⟩ = some (.slice a xs.length c) ∧ w.cell? ⟨b, 1, none⟩ = some (.int .i64 p) ∧ w.cell? ⟨b, 2, none⟩ = some (.int .i64 seed) ∧ (∀ o, w.frozen? ⟨b, o, none⟩ = false) ∧ Sl byteE 1 w a xs ∧ (∀ b' o, a = some ⟨b', o, none⟩ → xs = [] ∨ b' ≠ b) ∧ b < w.heap.size
def ByteR (b : Nat) (a : Option Addr) (c : Nat) (xs : List UInt8) (K m : Nat) (w : World) (e : Ending) (w' : World) : Prop :=
  ∃ n : Nat, n < m ∧ e = .returned (.int .i64 n) ∧ SrcAt b a c xs K w' ∧ Mid b (b + 1) w w'
theorem Sl.setCellE {α : Type} {enc : α → List Value} {sz : Nat} {w : World} {a : Option Addr} {xs : List α} {p : Addr} (h : Sl enc sz w a xs) (hp : ∀ b off, a = some ⟨b, off, none⟩ → xs = [] ∨ b ≠ p.block) (u : Value) : Sl enc sz (w.setCell p u) a xs := by
  by_cases hx : xs = []
  · exact .inl hx
  · exact h.setCell (fun b off e => (hp b off e).resolve_left hx) u
theorem SrcAt.below {b K c : Nat} {a : Option Addr} {xs : List UInt8} {w w' : World} (h : SrcAt b a c xs K w) (hb : Below w.heap.size w w') : SrcAt b a c xs K w' := by
  obtain ⟨p, seed, h1, h2, h3, c0, c1, c2, hf, hs, hne, hb0⟩ := h
  have hz := hb.size
  exact ⟨p, seed, h1, h2, h3, (hb.cell (p := ⟨b, 0, none⟩) hb0).trans c0, (hb.cell (p := ⟨b, 1, none⟩) hb0).trans c1, (hb.cell (p := ⟨b, 2, none⟩) hb0).trans c2, fun o => (hb.frozen (p := ⟨b, o, none⟩) hb0).trans (hf o), hs.keep hb, hne, by omega⟩
theorem SrcAt.mono {b K K' c : Nat} {a : Option Addr} {xs : List UInt8} {w : World} (h : SrcAt b a c xs K w) (hK : K ≤ K') : SrcAt b a c xs K' w := by
  obtain ⟨p, seed, h1, h2, h3, c0, c1, c2, hf, hs, hne, hb0⟩ := h
  exact ⟨p, seed, h1, by omega, h3, c0, c1, c2, hf, hs, hne, hb0⟩
theorem Mid.store {b o : Nat} {u : Value} {w : World} : Mid b (b + 1) w (w.setCell ⟨b, o, none⟩ u) := (Mid.refl b (b + 1) w).setCell (Nat.le_refl _) (by show b < b + 1; omega) u
theorem Mid.drewN {lo hi : Nat} {a w : World} (h : Mid lo hi a w) (n : Nat) : Mid lo hi a (w.drewN n) := h.trans ⟨rfl, rfl, rfl, Nat.le_refl _, fun _ _ _ => rfl⟩
theorem Mid.drew {lo hi : Nat} {a w : World} (h : Mid lo hi a w) : Mid lo hi a w.drew := h.trans ⟨rfl, rfl, rfl, Nat.le_refl _, fun _ _ _ => rfl⟩
theorem SrcAt.lt {b K c : Nat} {a : Option Addr} {xs : List UInt8} {w : World} (h : SrcAt b a c xs K w) : b < w.heap.size := by
  obtain ⟨p, seed, h1, h2, h3, c0, c1, c2, hf, hs, hne, hb0⟩ := h
  exact hb0
/-- The code's bytes lie in memory that is there. -/
theorem SrcAt.far {b K c : Nat} {a : Option Addr} {xs : List UInt8} {w : World} (h : SrcAt b a c xs K w) : ∀ b' o, a = some ⟨b', o, none⟩ → xs = [] ∨ b' < w.heap.size := by
  obtain ⟨p, seed, h1, h2, h3, c0, c1, c2, hf, hs, hne, hb0⟩ := h
  intro b' o he
  rcases hs with hs | ⟨b2, o2, he2, hlt, _⟩
  · exact .inl hs
  · rw [he] at he2
    cases he2
    exact .inr hlt
theorem SrcAt.setCell {b K c : Nat} {a : Option Addr} {xs : List UInt8} {w : World} (h : SrcAt b a c xs K w) {p : Addr} (hp : ¬ p.block = b) (ha : ∀ b' o, a = some ⟨b', o, none⟩ → xs = [] ∨ b' ≠ p.block) (u : Value) : SrcAt b a c xs K (w.setCell p u) := by
  obtain ⟨q, seed, h1, h2, h3, c0, c1, c2, hf, hs, hne, hb0⟩ := h
  have hc : ∀ j, (w.setCell p u).cell? ⟨b, j, none⟩ = w.cell? ⟨b, j, none⟩ := fun j => World.cell?_setCell_other _ _ _ _ (fun e => hp (by first | exact congrArg Addr.block e | exact (congrArg Addr.block e).symm))
  have hfz : ∀ o, (w.setCell p u).frozen? ⟨b, o, none⟩ = w.frozen? ⟨b, o, none⟩ := fun o => by simp [go_sem]
  refine ⟨q, seed, h1, h2, h3, (hc 0).trans c0, (hc 1).trans c1, (hc 2).trans c2, fun o => (hfz o).trans (hf o), ?_, hne, by simpa using hb0⟩
  rcases hs with hs | ⟨b2, o2, he2, hlt, hcc⟩
  · exact .inl hs
  · rcases ha b2 o2 he2 with h | h
    · exact .inl h
    · exact (Sl.setCell (.inr ⟨b2, o2, he2, hlt, hcc⟩) (fun b' o e => by rw [he2] at e; cases e; exact h) u)
theorem Mid.setNew {lo hi : Nat} {a w : World} (h : Mid lo hi a w) {p : Addr} (hp : a.heap.size ≤ p.block) (u : Value) : Mid lo hi a (w.setCell p u) :=
  ⟨h.os, h.tape, h.output, by simpa [World.setCell] using h.size, fun k hk hd => (Below.heap_setCell _ _ _ _ (by omega)).trans (h.block k hk hd)⟩
theorem Sl.boxM {α : Type} {enc : α → List Value} {sz : Nat} {w : World} (hs : ∀ x, (enc x).length = sz) (xs : List α) (cs : Array Value) (T : TypeId) (hc : cs.toList = xs.flatMap enc) (b : Nat) (hb : b = w.heap.size) : Sl enc sz (w.alloc (.cells cs T)) (some ⟨b, 0, none⟩) xs := by
  subst hb
  refine .inr ⟨w.heap.size, 0, rfl, by simp, fun i hi j hj => ?_⟩
  rw [World.cell?_alloc_new, ← Array.getElem?_toList, hc, Nat.zero_add]
  exact flat_get enc sz hs xs i hi j hj
set_option maxRecDepth 100000 in
set_option maxHeartbeats 8000000 in
theorem srcByte_c (b : Nat) (a : Option Addr) (c : Nat) (xs : List UInt8) (K : Nat) (w : World) (h : SrcAt b a c xs K w) (hK : K ≤ 1099511627776) :
    Calls Try.prog 169 #[.pointer (some ⟨b, 0, none⟩)] w (ByteR b a c xs (K + 1) 256 w) := by
  obtain ⟨p, seed, h1, h2, h3, c0, c1, c2, hf, hs, hne, hb0⟩ := h
  by_cases hp : p + 1 ≤ xs.length
  · obtain ⟨bF, oF, rfl, hbF, hcF⟩ := hs.at (i := p) (by omega)
    have hneb := (hne bF oF rfl).resolve_left (fun h => by rw [h] at hp; simp at hp)
    have hneb' : ¬ b = bF := fun h => hneb h.symm
    have d := hcF p (by omega) 0 (by omega)
    simp only [byteE, Nat.mul_one, Nat.add_zero, List.getElem?_cons_zero] at d
    have hn := xs[p].toNat_lt
    generalize xs[p].toNat = n at *
    have g1 : decide ((p : Int) + 1 ≤ (xs.length : Int)) = true := by simp; omega
    have g2 : (p : Int) + 1 ≤ (xs.length : Int) := by omega
    have e1 : wrap64 ((p : Int) + 1) = (p : Int) + 1 := IntWalk.wrap64_in _ ⟨by omega, by omega⟩
    have e2 : IntKind.i64.wrap ((p : Int) + 1 - 1) = (p : Int) := by rw [IntWalk.i64_in _ ⟨by omega, by omega⟩]; omega
    have e3 : IntKind.i64.wrap ((seed : Int) * 31) = (seed : Int) * 31 := IntWalk.i64_in _ ⟨by omega, by omega⟩
    have e4 : IntKind.i64.wrap ((seed : Int) * 31 + (n : Int)) = (seed : Int) * 31 + (n : Int) := IntWalk.i64_in _ ⟨by omega, by omega⟩
    have e5 : IntKind.i64.wrap ((seed : Int) * 31 + (n : Int) + 7) = (seed : Int) * 31 + (n : Int) + 7 := IntWalk.i64_in _ ⟨by omega, by omega⟩
    have HS := Lib.hid hs
    have HNE := Lib.hid hne
    clear hs hne hcF
    go_enter Try.func169, Try.ntmps169
    go_wp2_with fail
    go_quiet (fail)
    go_wp2_with fail
    go_region
    go_wp2_with fail
    go_quiet (fail)
    go_wp2_with fail
    go_ret
    refine ⟨n, hn, rfl, ⟨p + 1, (seed * 31 + n + 7) % 2147483648, h1, by omega, by omega, ?_, ?_, ?_, ?_, ?_, HNE.out, ?_⟩, ?_⟩
    · simp [go_sem, c0]
    · simp [go_sem, c1]
    · simp [go_sem, c2]
    · intro o
      simp [go_sem, hf]
    · repeat (first | (with_reducible exact HS.out) | (with_reducible refine Sl.setCellE ?_ HNE.out _) | (with_reducible refine Sl.drewN ?_ _) | (with_reducible refine Sl.drew ?_))
    · simpa using hb0
    · repeat (first | (with_reducible exact Mid.refl _ _ _) | (with_reducible refine Mid.setCell ?_ ?_ ?_ _; rotate_left; (show b ≤ b; omega); (show b < b + 1; omega)) | (with_reducible refine Mid.drewN ?_ _) | (with_reducible refine Mid.drew ?_))
  · have HS := Lib.hid hs
    have HNE := Lib.hid hne
    clear hs hne
    have g1 : decide ((p : Int) + 1 ≤ (xs.length : Int)) = false := by simp; omega
    have g2 : ¬ (p : Int) + 1 ≤ (xs.length : Int) := by omega
    have e1 : wrap64 ((p : Int) + 1) = (p : Int) + 1 := IntWalk.wrap64_in _ ⟨by omega, by omega⟩
    by_cases hb3 : 3000 < p + 1
    · have g3 : (3000 : Int) < (p : Int) + 1 := by omega
      go_enter Try.func169, Try.ntmps169
      go_wp2_with fail
      go_quiet (fail)
      go_wp2_with fail
      go_ret
      refine ⟨0, by omega, rfl, ⟨p + 1, seed, h1, by omega, by omega, ?_, ?_, ?_, ?_, ?_, HNE.out, ?_⟩, ?_⟩
      · simp [go_sem, c0]
      · simp [go_sem, c1]
      · simp [go_sem, c2]
      · intro o
        simp [go_sem, hf]
      · repeat (first | (with_reducible exact HS.out) | (with_reducible refine Sl.setCellE ?_ HNE.out _) | (with_reducible refine Sl.drewN ?_ _) | (with_reducible refine Sl.drew ?_))
      · simpa using hb0
      · repeat (first | (with_reducible exact Mid.refl _ _ _) | (with_reducible refine Mid.setCell ?_ ?_ ?_ _; rotate_left; (show b ≤ b; omega); (show b < b + 1; omega)) | (with_reducible refine Mid.drewN ?_ _) | (with_reducible refine Mid.drew ?_))
    · have g3 : ¬ (3000 : Int) < (p : Int) + 1 := by omega
      go_enter Try.func169, Try.ntmps169
      go_wp2_with fail
      go_quiet (fail)
      go_wp2_with fail
      go_ret
      refine ⟨(seed * 1103515245 + 12345) % 2147483648 / 65536 % 256, by omega, congrArg (fun z => Ending.returned (.int .i64 z)) (by simp), ⟨p + 1, (seed * 1103515245 + 12345) % 2147483648, h1, by omega, by omega, ?_, ?_, ?_, ?_, ?_, HNE.out, ?_⟩, ?_⟩
      · simp [go_sem, c0]
      · simp [go_sem, c1]
      · simp [go_sem, c2]
      · intro o
        simp [go_sem, hf]
      · repeat (first | (with_reducible exact HS.out) | (with_reducible refine Sl.setCellE ?_ HNE.out _) | (with_reducible refine Sl.drewN ?_ _) | (with_reducible refine Sl.drew ?_))
      · simpa using hb0
      · repeat (first | (with_reducible exact Mid.refl _ _ _) | (with_reducible refine Mid.setCell ?_ ?_ ?_ _; rotate_left; (show b ≤ b; omega); (show b < b + 1; omega)) | (with_reducible refine Mid.drewN ?_ _) | (with_reducible refine Mid.drew ?_))
set_option maxRecDepth 100000 in
set_option maxHeartbeats 4000000 in
theorem srcNext_c (b : Nat) (a : Option Addr) (c : Nat) (xs : List UInt8) (K n : Nat) (w : World) (h : SrcAt b a c xs K w) (hK : K ≤ 1099511627776) (hn : 1 ≤ n) (hn2 : n ≤ 256) :
    Calls Try.prog 134 #[.pointer (some ⟨b, 0, none⟩), .int .i64 n] w (ByteR b a c xs (K + 1) n w) := by
  have HB := Lib.hid (srcByte_c b a c xs K w h hK)
  have HS := Lib.hid h
  clear h
  by_cases h1 : n = 1
  · subst h1
    go_enter Try.func134, Try.ntmps134
    go_wp2_with fail
    go_ret
    exact ⟨0, by omega, rfl, HS.out.mono (by omega), Mid.refl _ _ _⟩
  · have g1 : (1 : Int) < (n : Int) := by omega
    have g2 : (n : Int) ≤ 256 := by omega
    have g3 : ¬ n = 0 := by omega
    go_enter Try.func134, Try.ntmps134
    go_wp2_with fail
    refine HB.out.mono ?_
    rintro e w1 ⟨m, hm, rfl, hs1, hm1⟩
    have HS1 := Lib.hid hs1
    have HM1 := Lib.hid hm1
    clear hs1 hm1
    go_wp2_with fail
    go_ret
    refine ⟨m % n, Nat.mod_lt _ (by omega), congrArg (fun z => Ending.returned (.int .i64 z)) (by simp), HS1.out, HM1.out⟩
def PickR (b : Nat) (a : Option Addr) (c : Nat) (xs : List UInt8) (K : Nat) (L : List ByteArray) (w : World) (e : Ending) (w' : World) : Prop :=
  ∃ s, s ∈ L ∧ e = .returned (.string s) ∧ SrcAt b a c xs K w' ∧ Mid b (b + 1) w w'
set_option maxRecDepth 100000 in
set_option maxHeartbeats 4000000 in
theorem srcPick_c (b : Nat) (a : Option Addr) (c : Nat) (xs : List UInt8) (K : Nat) (a1 : Option Addr) (c1 : Nat) (L : List ByteArray) (w : World) (h : SrcAt b a c xs K w) (hK : K ≤ 1099511627776) (ha : Sl strE 1 w a1 L) (hne : ∀ b' o, a1 = some ⟨b', o, none⟩ → b' ≠ b) (hl : 1 ≤ L.length) (hl2 : L.length ≤ 256) :
    Calls Try.prog 141 #[.pointer (some ⟨b, 0, none⟩), .slice a1 L.length c1] w (PickR b a c xs (K + 1) L w) := by
  have HB := Lib.hid (srcNext_c b a c xs K L.length w h hK hl hl2)
  obtain ⟨bF, oF, rfl, hbF, hcF⟩ := ha.at (i := 0) (by omega)
  have hneb := hne bF oF rfl
  have hside : bF < b ∨ b + 1 ≤ bF := by omega
  have HC := Lib.hid hcF
  have g1 : ¬ L.length = 0 := by omega
  have g2 : decide ((L.length : Int) = 0) = false := decide_eq_false (by omega)
  clear h hcF hne ha
  go_enter Try.func141, Try.ntmps141
  go_wp2_with fail
  refine HB.out.mono ?_
  rintro e w1 ⟨m, hm, rfl, hs1, hm1⟩
  have d := HC.out m hm 0 (by omega)
  simp only [strE, Nat.mul_one, Nat.add_zero, List.getElem?_cons_zero] at d
  have d1 : w1.cell? ⟨bF, oF + m, none⟩ = some (.string L[m]) := by
    rw [hm1.cell (p := ⟨bF, oF + m, none⟩) hbF hside]
    exact d
  have hmem : L[m] ∈ L := List.getElem_mem hm
  have HS1 := Lib.hid hs1
  have HM1 := Lib.hid hm1
  have hm' : (m : Int) < (L.length : Int) := by omega
  have hm0 : (0 : Int) ≤ (m : Int) := by omega
  clear hs1 hm1 d
  generalize L[m] = s at *
  go_wp2_with fail
  go_ret
  exact ⟨s, hmem, rfl, HS1.out, HM1.out⟩
def EntryR (b : Nat) (a : Option Addr) (c : Nat) (xs : List UInt8) (K : Nat) (t : Int) (w : World) (e : Ending) (w' : World) : Prop :=
  ∃ s : ByteArray, s.size ≤ 4 ∧ e = .returned (.agg #[.int .i64 t, .string s]) ∧ SrcAt b a c xs K w' ∧ Mid b (b + 1) w w'
set_option maxRecDepth 100000 in
set_option maxHeartbeats 4000000 in
theorem srcEntry_c (b : Nat) (a : Option Addr) (c : Nat) (xs : List UInt8) (K : Nat) (t : Int) (w : World) (h : SrcAt b a c xs K w) (hK : K ≤ 1099511627776) :
    Calls Try.prog 135 #[.pointer (some ⟨b, 0, none⟩), .int .i64 t] w (EntryR b a c xs (K + 1) t w) := by
  have hb0 : b < w.heap.size := h.lt
  have HN := Lib.hid h.far
  have HS := Lib.hid ((h.below ((Below.refl _ _).alloc (Nat.le_refl _) (.cells #[.int .i64 0, .string ⟨#[]⟩] 109))).below ((Below.refl _ _).alloc (Nat.le_refl _) (.cells #[.string ⟨#[]⟩, .string ⟨#[100, 97, 116, 97]⟩, .string ⟨#[109, 111, 114, 101]⟩, .string ⟨#[0]⟩] 9)))
  clear h
  have HL4 : Hid (Sl strE 1 ((w.alloc (.cells #[.int .i64 0, .string ⟨#[]⟩] 109)).alloc (.cells #[.string ⟨#[]⟩, .string ⟨#[100, 97, 116, 97]⟩, .string ⟨#[109, 111, 114, 101]⟩, .string ⟨#[0]⟩] 9)) (some ⟨w.heap.size + 1, 0, none⟩) [⟨#[]⟩, ⟨#[100, 97, 116, 97]⟩, ⟨#[109, 111, 114, 101]⟩, ⟨#[0]⟩]) := Lib.hid (Sl.boxM (enc := strE) (sz := 1) (fun _ => rfl) [⟨#[]⟩, ⟨#[100, 97, 116, 97]⟩, ⟨#[109, 111, 114, 101]⟩, ⟨#[0]⟩] #[.string ⟨#[]⟩, .string ⟨#[100, 97, 116, 97]⟩, .string ⟨#[109, 111, 114, 101]⟩, .string ⟨#[0]⟩] 9 rfl (w.heap.size + 1) (World.size_alloc w _).symm)
  go_enter Try.func135, Try.ntmps135
  go_wp2_with fail
  refine (srcPick_c b a c xs K (some ⟨w.heap.size + 1, 0, none⟩) 4 [⟨#[]⟩, ⟨#[100, 97, 116, 97]⟩, ⟨#[109, 111, 114, 101]⟩, ⟨#[0]⟩] _ HS.out hK HL4.out (fun b' o h => by cases h; omega) (by simp) (by simp)).mono ?_
  rintro e w1 ⟨s, hs, rfl, hs1, hm1⟩
  have hsz : s.size ≤ 4 := by
    simp at hs
    rcases hs with rfl | rfl | rfl | rfl <;> decide
  have hz1 := hm1.size
  simp only [World.size_alloc] at hz1
  have q0 : w1.cell? ⟨w.heap.size, 0, none⟩ = some (.int .i64 0) := by
    rw [hm1.cell (p := ⟨w.heap.size, 0, none⟩) (by show w.heap.size < _; simp; omega) (.inr (by show b + 1 ≤ w.heap.size; omega))]
    simp [go_sem]
  have q1 : w1.cell? ⟨w.heap.size, 1, none⟩ = some (.string ⟨#[]⟩) := by
    rw [hm1.cell (p := ⟨w.heap.size, 1, none⟩) (by show w.heap.size < _; simp; omega) (.inr (by show b + 1 ≤ w.heap.size; omega))]
    simp [go_sem]
  have qf : ∀ o, w1.frozen? ⟨w.heap.size, o, none⟩ = false := fun o => by
    rw [hm1.frozen (p := ⟨w.heap.size, o, none⟩) (by show w.heap.size < _; simp; omega) (.inr (by show b + 1 ≤ w.heap.size; omega))]
    simp [go_sem]
  have hl : w.heap.size < w1.heap.size := by omega
  have HS1 := Lib.hid hs1
  have HM1 : Hid (Mid b (b + 1) w w1) := (Mid.of_below _ _ (((Below.refl w.heap.size w).alloc (Nat.le_refl _) _).alloc (by simp) _)).trans hm1
  clear hs1 hm1 hs
  go_wp2_with fail
  refine bodyPost_ret (v := .agg #[.int .i64 t, .string s]) (by simp [results, Try.results135, go_sem, q0, q1, qf]) rfl ?_
  have hne : ¬ w.heap.size = b := by omega
  refine ⟨s, hsz, rfl, ?_, ?_⟩
  · exact (HS1.out.setCell (p := ⟨w.heap.size, 0, none⟩) hne (fun b' o h => (HN.out b' o h).imp id (fun h2 => by show b' ≠ w.heap.size; omega)) _).setCell (p := ⟨w.heap.size, 1, none⟩) hne (fun b' o h => (HN.out b' o h).imp id (fun h2 => by show b' ≠ w.heap.size; omega)) _
  · exact (HM1.out.setNew (p := ⟨w.heap.size, 0, none⟩) (Nat.le_refl _) _).setNew (p := ⟨w.heap.size, 1, none⟩) (Nat.le_refl _) _
end
section
open Go.RowKit
section
variable {α : Type} {enc : α → List Value} {w : World}
theorem wp_append_row {P : Program} {o : Oper} {a : Act} {K : Act → World → Prop} {Q : Exit → Act → World → Prop} (s x : Operand) (t tx : TypeId)
    (ho : o.op = .call { callee := .builtin .append, args := #[s, x], argTypes := #[t, tx] })
    (lo : Nat) (e : TypeId) (i : TypeInfo) (z : Value) (size bytes : Nat) (ht : P.underlying t = some (.slice e)) (hinfo : P.info? e = some i) (hz : i.zero = some z)
    (hsize : i.size = size) (hby : i.bytes = bytes) (hzs : z.cells.size = size) (hbp : 0 < bytes)
    (v : Value) (zs : List α) (hs : a.eval s = v) (hF : Fresh enc e size lo v zs w)
    (xv : Value) (ys : List α) (hx : a.eval x = xv) (hsrc : Src P size tx xv ys.length (ys.flatMap enc) w)
    (hbytes : (zs.length + ys.length) * bytes ≤ 140737488355328) (hlo : lo ≤ w.heap.size)
    (h : ∀ a' c' w' us, Hid (us = zs ++ ys) → Fresh enc e size lo (.slice a' us.length c') us w' → w.grownBy w' v.ownBlock → ((Value.slice a' us.length c').ownBlock = v.ownBlock ∨ (Value.slice a' us.length c').ownBlock = some w.heap.size) → K (a.put o.dst (.slice a' us.length c')) w') : o.wp P a w K Q := by
  obtain ⟨a', cap', rfl, h1, h2⟩ := hF
  have h63 : zs.length + ys.length ≤ maxLen := by
    have : zs.length + ys.length ≤ (zs.length + ys.length) * bytes := Nat.le_mul_of_pos_right _ hbp
    unfold maxLen; omega
  obtain ⟨v', w', hr, k1, k2, k3⟩ := run_append_own_src (P := P) w lo t tx o.type e i z size bytes ht hinfo hz hsize hby hzs _ zs.length (zs.flatMap enc) h2 xv ys.length (ys.flatMap enc) hsrc h63 hbytes hlo
  have hf : Fresh enc e size lo v' (zs ++ ys) w' := Fresh.of_own k1 (by simp) (by simp)
  obtain ⟨a1, c1, rfl, _⟩ := id hf
  unfold Oper.wp execOp
  simp only [ho, resolve, invoke, builtin, Sem.run_bind, Sem.run_pure, Result.andThen_ok, List.map_toArray, List.map_cons, List.map_nil, hs, hx, hr]
  exact h a1 c1 w' _ rfl hf k2 k3
theorem step_append_row {P : Program} {ops : Array Oper} {o : Oper} {a : Act} {K : Act → World → Prop} {Q : Exit → Act → World → Prop} {E : Prop} (hgd : o.guard = none) (s x : Operand) (t tx : TypeId)
    (ho : o.op = .call { callee := .builtin .append, args := #[s, x], argTypes := #[t, tx] })
    (lo : Nat) (e : TypeId) (i : TypeInfo) (z : Value) (size bytes : Nat) (ht : P.underlying t = some (.slice e)) (hinfo : P.info? e = some i) (hz : i.zero = some z)
    (hsize : i.size = size) (hby : i.bytes = bytes) (hzs : z.cells.size = size) (hbp : 0 < bytes)
    (v : Value) (zs : List α) (hs : a.eval s = v) (hF : Fresh enc e size lo v zs w)
    (xv : Value) (ys : List α) (hx : a.eval x = xv) (hsrc : Src P size tx xv ys.length (ys.flatMap enc) w)
    (hbytes : (zs.length + ys.length) * bytes ≤ 140737488355328) (hlo : lo ≤ w.heap.size)
    (h : ∀ a' c' w' us, Hid (us = zs ++ ys) → Fresh enc e size lo (.slice a' us.length c') us w' → w.grownBy w' v.ownBlock → ((Value.slice a' us.length c').ownBlock = v.ownBlock ∨ (Value.slice a' us.length c').ownBlock = some w.heap.size) → K (a.put o.dst (.slice a' us.length c')) w') :
    if Region.wanted o (yielded ops a.tmps) = true then Oper.wp P o a w K Q else E := by
  have hw : Region.wanted o (yielded ops a.tmps) = true := by simp [Region.wanted, hgd]
  rw [if_pos hw]
  exact wp_append_row s x t tx ho lo e i z size bytes ht hinfo hz hsize hby hzs hbp v zs hs hF xv ys hx hsrc hbytes hlo h
end
theorem grown_cell {w w' : World} {row : Option Nat} (h : w.grownBy w' row) {p : Addr} (hp : p.block < w.heap.size) (hne : some p.block ≠ row) : w'.cell? p = w.cell? p := World.cell?_of_block (h.block p.block hp hne)
theorem grown_frozen {w w' : World} {row : Option Nat} (h : w.grownBy w' row) {p : Addr} (hp : p.block < w.heap.size) (hne : some p.block ≠ row) : w'.frozen? p = w.frozen? p := World.frozen?_of_block (h.block p.block hp hne)
theorem SrcAt.grown {b K c : Nat} {a : Option Addr} {xs : List UInt8} {w w' : World} {row : Option Nat} {B : Nat} (h : SrcAt b a c xs K w) (hg : w.grownBy w' row) (hr : ∀ k, row = some k → B ≤ k) (hb : b < B) (ha : ∀ b' o, a = some ⟨b', o, none⟩ → xs = [] ∨ b' < B) : SrcAt b a c xs K w' := by
  obtain ⟨q, seed, h1, h2, h3, c0, c1, c2, hf, hs, hne, hb0⟩ := h
  have hz := hg.size
  have hbn : some b ≠ row := fun e => by have := hr b e.symm; omega
  refine ⟨q, seed, h1, h2, h3, (grown_cell hg (p := ⟨b, 0, none⟩) hb0 hbn).trans c0, (grown_cell hg (p := ⟨b, 1, none⟩) hb0 hbn).trans c1, (grown_cell hg (p := ⟨b, 2, none⟩) hb0 hbn).trans c2, fun o => (grown_frozen hg (p := ⟨b, o, none⟩) hb0 hbn).trans (hf o), ?_, hne, by omega⟩
  rcases hs with hs | ⟨b2, o2, he2, hlt, hcc⟩
  · exact .inl hs
  · rcases ha b2 o2 he2 with h | h
    · exact .inl h
    · exact (Sl.grown (.inr ⟨b2, o2, he2, hlt, hcc⟩) hg (fun b' o e => by
        rw [he2] at e
        cases e
        intro e2
        have := hr b2 e2.symm
        omega))
theorem Mid.grownNew {lo hi : Nat} {a w w' : World} {row : Option Nat} (h : Mid lo hi a w) (hg : w.grownBy w' row) (hr : ∀ k, row = some k → a.heap.size ≤ k) : Mid lo hi a w' :=
  ⟨hg.os.trans h.os, hg.tape.trans h.tape, hg.output.trans h.output, Nat.le_trans h.size hg.size, fun k hk hd => (hg.block k (Nat.lt_of_lt_of_le hk h.size) (fun e => by have := hr k e.symm; omega)).trans (h.block k hk hd)⟩
theorem Fresh.midB {α : Type} {enc : α → List Value} {sz : Nat} {e : TypeId} {B l r : Nat} {v : Value} {xs : List α} {w w' : World} (h : Fresh enc e sz B v xs w) (hm : Mid l r w w') (hr : r ≤ B) : Fresh enc e sz B v xs w' := (h.here.mid hm (.inr hr)).1
theorem SrcAt.drew {b K c : Nat} {a : Option Addr} {xs : List UInt8} {w : World} (h : SrcAt b a c xs K w) : SrcAt b a c xs K w.drew := h.below ((Below.refl _ _).drew)
theorem SrcAt.alloc {b K c : Nat} {a : Option Addr} {xs : List UInt8} {w : World} (h : SrcAt b a c xs K w) (o : Obj) : SrcAt b a c xs K (w.alloc o) := h.below ((Below.refl _ _).alloc (Nat.le_refl _) _)
theorem Mid.alloc {lo hi : Nat} {a w : World} (h : Mid lo hi a w) (o : Obj) : Mid lo hi a (w.alloc o) := h.trans (Mid.of_below _ _ ((Below.refl _ _).alloc (Nat.le_refl _) _))
/-- A log whose terms do not fall, none above τ, none below 1, with short data. -/
def LogUp (τ : Int) (L : List Ent) : Prop := (∀ e ∈ L, 1 ≤ e.1 ∧ e.1 ≤ τ ∧ e.2.size ≤ 4) ∧ L.Pairwise (fun x y => x.1 ≤ y.1)
theorem LogUp.nil (τ : Int) : LogUp τ [] := ⟨fun e h => (by cases h), List.Pairwise.nil⟩
theorem LogUp.mono {τ τ' : Int} {L : List Ent} (h : LogUp τ L) (ht : τ ≤ τ') : LogUp τ' L := ⟨fun e he => by have := h.1 e he; exact ⟨this.1, by omega, this.2.2⟩, h.2⟩
theorem LogUp.snoc {τ τ' : Int} {L : List Ent} {s : ByteArray} (h : LogUp τ L) (h1 : 1 ≤ τ') (ht : τ ≤ τ') (hs : s.size ≤ 4) : LogUp τ' (L ++ [(τ', s)]) := by
  refine ⟨fun e he => ?_, ?_⟩
  · rcases List.mem_append.1 he with he | he
    · exact (h.mono ht).1 e he
    · simp at he
      subst he
      exact ⟨h1, Int.le_refl _, hs⟩
  · refine List.pairwise_append.2 ⟨h.2, by simp, fun x hx y hy => ?_⟩
    simp at hy
    subst hy
    have := (h.1 x hx).2.1
    show x.1 ≤ τ'
    omega
theorem LogUp.take {τ : Int} {L : List Ent} (h : LogUp τ L) (k : Nat) : LogUp τ (L.take k) := ⟨fun e he => h.1 e (List.mem_of_mem_take he), h.2.sublist (List.take_sublist _ _)⟩
theorem LogUp.ok {t v : Int} {L : List Ent} (h : LogUp t L) (ht : 0 ≤ t) (ht2 : t ≤ 1000) (hv : -1 ≤ v) (hv2 : v ≤ 4) (hl : L.length ≤ 60) : stOK t v L = true := by
  refine stOK_true ⟨by simp [inB]; omega, by simp [inB]; omega, hl, fun k hk => ⟨hk, ?_⟩⟩
  have h1 := h.1 L[k] (List.getElem_mem hk)
  refine ⟨by omega, h1.1, h1.2.1, fun h0 => ?_⟩
  exact (List.pairwise_iff_getElem.1 h.2) (k - 1) k (by omega) hk (by omega)
/-- What a drawn state is. -/
def DrawnSt (T N : Nat) (t v : Int) (L : List Ent) : Prop := 0 ≤ t ∧ t ≤ T ∧ -1 ≤ v ∧ v ≤ 2 ∧ L.length ≤ N ∧ LogUp t L
def StateR (b : Nat) (a : Option Addr) (c : Nat) (xs : List UInt8) (K T N : Nat) (w : World) (e : Ending) (w' : World) : Prop :=
  ∃ t v L aL cL, e = .returned (.agg #[.int .i64 t, .int .i64 v, .slice aL (List.length L) cL]) ∧ DrawnSt T N t v L ∧ Fresh entE 109 2 w.heap.size (.slice aL L.length cL) L w' ∧ SrcAt b a c xs K w' ∧ Mid b (b + 1) w w'
end
section
open Go.RowKit
set_option maxRecDepth 100000 in
set_option maxHeartbeats 16000000 in
theorem srcState_c (b : Nat) (a : Option Addr) (c : Nat) (xs : List UInt8) (K : Nat) (w : World) (h : SrcAt b a c xs K w) (hK : K ≤ 1000000000) :
    Calls Try.prog 75 #[.pointer (some ⟨b, 0, none⟩)] w (StateR b a c xs (K + 20) 3 5 w) := by
  obtain ⟨i0, hi, hz0, hz1, hz2⟩ := info_parts Try.infoEntry
  have hb0 : b < w.heap.size := h.lt
  have HFAR := Lib.hid h.far
  have HS0 := Lib.hid (h.alloc (.cells #[.int .i64 0, .int .i64 0, .slice none 0 0] 31))
  clear h
  go_enter Try.func75, Try.ntmps75
  go_wp2_with fail
  refine (srcNext_c b a c xs K 4 _ HS0.out (by omega) (by omega) (by omega)).mono ?_
  rintro e w1 ⟨n1, hn1, rfl, hs1, hm1⟩
  have hz1' := hm1.size
  simp only [World.size_alloc] at hz1'
  have r1_0 : w1.cell? ⟨w.heap.size, 0, none⟩ = some (.int .i64 0) := (hm1.cell (p := ⟨w.heap.size, 0, none⟩) (by show w.heap.size < _; (try simp) <;> (try omega)) (.inr (by show b + 1 ≤ w.heap.size; omega))).trans (by simp [go_sem])
  have r1_1 : w1.cell? ⟨w.heap.size, 1, none⟩ = some (.int .i64 0) := (hm1.cell (p := ⟨w.heap.size, 1, none⟩) (by show w.heap.size < _; (try simp) <;> (try omega)) (.inr (by show b + 1 ≤ w.heap.size; omega))).trans (by simp [go_sem])
  have r1_2 : w1.cell? ⟨w.heap.size, 2, none⟩ = some (.slice none 0 0) := (hm1.cell (p := ⟨w.heap.size, 2, none⟩) (by show w.heap.size < _; (try simp) <;> (try omega)) (.inr (by show b + 1 ≤ w.heap.size; omega))).trans (by simp [go_sem])
  have r1f : ∀ o, w1.frozen? ⟨w.heap.size, o, none⟩ = false := fun o => (hm1.frozen (p := ⟨w.heap.size, o, none⟩) (by show w.heap.size < _; (try simp) <;> (try omega)) (.inr (by show b + 1 ≤ w.heap.size; omega))).trans (by simp [go_sem])
  have HS1 := Lib.hid hs1
  have HM1 : Hid (Mid b (b + 1) w w1) := ((Mid.refl _ _ _).alloc _).trans hm1
  clear hs1 hm1
  go_wp2_with fail
  refine (srcNext_c b a c xs (K + 1) 4 _ HS1.out (by omega) (by omega) (by omega)).mono ?_
  rintro e w2 ⟨n2, hn2, rfl, hs2, hm2⟩
  have hz2' := hm2.size
  have r2_0 : w2.cell? ⟨w.heap.size, 0, none⟩ = some (.int .i64 0) := (hm2.cell (p := ⟨w.heap.size, 0, none⟩) (by show w.heap.size < _; (try simp) <;> (try omega)) (.inr (by show b + 1 ≤ w.heap.size; omega))).trans (r1_0)
  have r2_1 : w2.cell? ⟨w.heap.size, 1, none⟩ = some (.int .i64 0) := (hm2.cell (p := ⟨w.heap.size, 1, none⟩) (by show w.heap.size < _; (try simp) <;> (try omega)) (.inr (by show b + 1 ≤ w.heap.size; omega))).trans (r1_1)
  have r2_2 : w2.cell? ⟨w.heap.size, 2, none⟩ = some (.slice none 0 0) := (hm2.cell (p := ⟨w.heap.size, 2, none⟩) (by show w.heap.size < _; (try simp) <;> (try omega)) (.inr (by show b + 1 ≤ w.heap.size; omega))).trans (r1_2)
  have r2f : ∀ o, w2.frozen? ⟨w.heap.size, o, none⟩ = false := fun o => (hm2.frozen (p := ⟨w.heap.size, o, none⟩) (by show w.heap.size < _; (try simp) <;> (try omega)) (.inr (by show b + 1 ≤ w.heap.size; omega))).trans (r1f o)
  have HS2 := Lib.hid ((hs2.alloc (.cells #[] 109)).alloc (.cells #[.int .i64 n1, .int .i64 ((n2 : Int) - 1), .slice (some ⟨w2.heap.size, 0, none⟩) 0 0] 31))
  have HM2 : Hid (Mid b (b + 1) w w2) := HM1.out.trans hm2
  clear hs2 hm2 r1_0 r1_1 r1_2 r1f
  go_wp2_with fail
  refine (srcNext_c b a c xs (K + 1 + 1) 6 _ HS2.out (by omega) (by omega) (by omega)).mono ?_
  rintro e w3 ⟨n3, hn3, rfl, hs3, hm3⟩
  have hz3' := hm3.size
  simp only [World.size_alloc] at hz3'
  have HF3 : Hid (Fresh entE 109 2 (w.heap.size + 1) (.slice (some ⟨w2.heap.size, 0, none⟩) 0 0) [] w3) := Lib.hid (((fresh_madeE w2 (w.heap.size + 1) (by omega)).alloc _).midB hm3 (by omega))
  have r3_0 : w3.cell? ⟨w.heap.size, 0, none⟩ = some (.int .i64 0) := (hm3.cell (p := ⟨w.heap.size, 0, none⟩) (by show w.heap.size < _; (try simp) <;> (try omega)) (.inr (by show b + 1 ≤ w.heap.size; omega))).trans ((by rw [World.cell?_alloc_lt _ _ _ (by show w.heap.size < _; rw [World.size_alloc]; omega), World.cell?_alloc_lt _ _ _ (by show w.heap.size < _; omega)]; exact r2_0))
  have r3_1 : w3.cell? ⟨w.heap.size, 1, none⟩ = some (.int .i64 0) := (hm3.cell (p := ⟨w.heap.size, 1, none⟩) (by show w.heap.size < _; (try simp) <;> (try omega)) (.inr (by show b + 1 ≤ w.heap.size; omega))).trans ((by rw [World.cell?_alloc_lt _ _ _ (by show w.heap.size < _; rw [World.size_alloc]; omega), World.cell?_alloc_lt _ _ _ (by show w.heap.size < _; omega)]; exact r2_1))
  have r3_2 : w3.cell? ⟨w.heap.size, 2, none⟩ = some (.slice none 0 0) := (hm3.cell (p := ⟨w.heap.size, 2, none⟩) (by show w.heap.size < _; (try simp) <;> (try omega)) (.inr (by show b + 1 ≤ w.heap.size; omega))).trans ((by rw [World.cell?_alloc_lt _ _ _ (by show w.heap.size < _; rw [World.size_alloc]; omega), World.cell?_alloc_lt _ _ _ (by show w.heap.size < _; omega)]; exact r2_2))
  have r3f : ∀ o, w3.frozen? ⟨w.heap.size, o, none⟩ = false := fun o => (hm3.frozen (p := ⟨w.heap.size, o, none⟩) (by show w.heap.size < _; (try simp) <;> (try omega)) (.inr (by show b + 1 ≤ w.heap.size; omega))).trans ((by rw [((Below.refl _ _).alloc (Nat.le_refl _) _ : Below _ _ _).frozen (p := ⟨w.heap.size, o, none⟩) (by show w.heap.size < _; rw [World.size_alloc]; omega), ((Below.refl _ _).alloc (Nat.le_refl _) _ : Below _ _ _).frozen (p := ⟨w.heap.size, o, none⟩) (by show w.heap.size < _; omega)]; exact r2f o))
  have x3_0 : w3.cell? ⟨(w2.heap.size + 1), 0, none⟩ = some (.int .i64 n1) := (hm3.cell (p := ⟨(w2.heap.size + 1), 0, none⟩) (by show (w2.heap.size + 1) < _; (try simp) <;> (try omega)) (.inr (by show b + 1 ≤ (w2.heap.size + 1); omega))).trans (by simp [go_sem])
  have x3_1 : w3.cell? ⟨(w2.heap.size + 1), 1, none⟩ = some (.int .i64 ((n2 : Int) - 1)) := (hm3.cell (p := ⟨(w2.heap.size + 1), 1, none⟩) (by show (w2.heap.size + 1) < _; (try simp) <;> (try omega)) (.inr (by show b + 1 ≤ (w2.heap.size + 1); omega))).trans (by simp [go_sem])
  have x3_2 : w3.cell? ⟨(w2.heap.size + 1), 2, none⟩ = some (.slice (some ⟨w2.heap.size, 0, none⟩) 0 0) := (hm3.cell (p := ⟨(w2.heap.size + 1), 2, none⟩) (by show (w2.heap.size + 1) < _; (try simp) <;> (try omega)) (.inr (by show b + 1 ≤ (w2.heap.size + 1); omega))).trans (by simp [go_sem])
  have x3f : ∀ o, w3.frozen? ⟨(w2.heap.size + 1), o, none⟩ = false := fun o => (hm3.frozen (p := ⟨(w2.heap.size + 1), o, none⟩) (by show (w2.heap.size + 1) < _; (try simp) <;> (try omega)) (.inr (by show b + 1 ≤ (w2.heap.size + 1); omega))).trans (by simp [go_sem])
  have HS3 := Lib.hid hs3
  have HM3 : Hid (Mid b (b + 1) w w3) := ((HM2.out.alloc _).alloc _).trans hm3
  clear hs3 hm3 r2_0 r2_1 r2_2 r2f
  go_wp2_with fail
  go_loopw [4, 5] (fun τv iv wr => ∃ (τ : Int) (j : Nat) (L : List Ent) (aL : Option Addr) (cL : Nat), iv = .int .i64 j ∧ j ≤ 5 ∧ τv = .int .i64 τ ∧ 1 ≤ τ ∧ (0 < n1 → τ ≤ (n1 : Int)) ∧ τ ≤ 10 ∧ Hid (LogUp (n1 : Int) L ∧ LogUp τ L) ∧ L.length + j ≤ 5 ∧ wr.cell? ⟨(w2.heap.size + 1), 0, none⟩ = some (.int .i64 n1) ∧ wr.cell? ⟨(w2.heap.size + 1), 1, none⟩ = some (.int .i64 ((n2 : Int) - 1)) ∧ wr.cell? ⟨(w2.heap.size + 1), 2, none⟩ = some (.slice aL L.length cL) ∧ (∀ o, wr.frozen? ⟨(w2.heap.size + 1), o, none⟩ = false) ∧ wr.cell? ⟨w.heap.size, 0, none⟩ = some (.int .i64 0) ∧ wr.cell? ⟨w.heap.size, 1, none⟩ = some (.int .i64 0) ∧ wr.cell? ⟨w.heap.size, 2, none⟩ = some (.slice none 0 0) ∧ (∀ o, wr.frozen? ⟨w.heap.size, o, none⟩ = false) ∧ Fresh entE 109 2 (w.heap.size + 1) (.slice aL L.length cL) L wr ∧ (Value.slice aL L.length cL).ownBlock ≠ some (w2.heap.size + 1) ∧ SrcAt b a c xs (K + 3 + 2 * (5 - j)) wr ∧ Mid b (b + 1) w wr ∧ (w2.heap.size + 1) < wr.heap.size) (fun _ i _ => (intOf i).toNat)
  case atStart => exact ⟨1, n3, [], _, _, rfl, by omega, rfl, by omega, fun h => by omega, by omega, ⟨LogUp.nil _, LogUp.nil _⟩, by simp; omega, x3_0, x3_1, x3_2, x3f, r3_0, r3_1, r3_2, r3f, HF3.out, (by simp [Value.ownBlock]), HS3.out.mono (by omega), HM3.out, by omega⟩
  case round =>
    obtain ⟨τ, j, L, aL, cL, rfl, hj, rfl, hτ1, hτn, hτ10, hLU, hLj, s_0, s_1, s_2, sf, r_0, r_1, r_2, rf, hf, hne, hsrc, hmid, hBw⟩ := hrel
    have HL := Lib.hid hf
    have HNE := Lib.hid hne
    have HS := Lib.hid hsrc
    have HM := Lib.hid hmid
    have hz := hmid.size
    have hb1 : b + 1 ≤ w2.heap.size + 1 := by omega
    have hneA : ¬ w2.heap.size + 1 = w.heap.size := by omega
    have hneB : ¬ w.heap.size = w2.heap.size + 1 := by omega
    clear hf hne hsrc hmid
    by_cases hgo : 0 < j ∧ 0 < n1
    · obtain ⟨hj0, hn0⟩ := hgo
      obtain ⟨i, rfl⟩ : ∃ i, j = i + 1 := ⟨j - 1, by omega⟩
      have hτn' := hτn hn0
      have k1 : (0 : Int) < (((i + 1 : Nat)) : Int) := by omega
      have k2 : (0 : Int) < (n1 : Int) := by omega
      clear hτn
      have HNX : Hid (∀ w', SrcAt b a c xs (K + 3 + 2 * (5 - (i + 1))) w' → Calls Try.prog 134 #[.pointer (some ⟨b, 0, none⟩), .int .i64 2] w' (ByteR b a c xs (K + 3 + 2 * (5 - (i + 1)) + 1) 2 w')) := Lib.hid (fun w' h => srcNext_c b a c xs _ 2 w' h (by omega) (by omega) (by omega))
      have HEN : Hid (∀ w' t, SrcAt b a c xs (K + 3 + 2 * (5 - (i + 1)) + 1) w' → Calls Try.prog 135 #[.pointer (some ⟨b, 0, none⟩), .int .i64 t] w' (EntryR b a c xs (K + 3 + 2 * (5 - (i + 1)) + 1 + 1) t w')) := Lib.hid (fun w' t h => srcEntry_c b a c xs _ t w' h (by omega))
      go_wp2_with fail
      go_region_held3 (fun w' => w'.cell? ⟨w2.heap.size + 1, 0, none⟩ = some (.int .i64 n1))
        (first | (simp [go_sem, s_0]; done) | (simp [go_sem, ns_0]; done) | go_keep)
        (first
          | (go_at_call 134
             refine (HNX.out _ HS.out.drew).mono ?_
             rintro e w5 ⟨m, hm, rfl, hs5, hm5⟩
             have hz5 := hm5.size
             simp only [World.size_drew] at hz5
             have ew : IntKind.i64.wrap (τ + (m : Int)) = τ + (m : Int) := IntWalk.i64_in _ ⟨by omega, by omega⟩
             have ns_0 : w5.cell? ⟨w2.heap.size + 1, 0, none⟩ = some (.int .i64 n1) := (hm5.cell (p := ⟨w2.heap.size + 1, 0, none⟩) (by show w2.heap.size + 1 < wr.heap.size; omega) (.inr hb1)).trans s_0))
      have HS5 := Lib.hid hs5
      have HM5 : Hid (Mid b (b + 1) w w5) := HM.out.drew.trans hm5
      have HL5 : Hid (Fresh entE 109 2 (w.heap.size + 1) (.slice aL L.length cL) L w5) := (HL.out.drew).midB hm5 (by omega)
      have ns_1 : w5.cell? ⟨w2.heap.size + 1, 1, none⟩ = some (.int .i64 ((n2 : Int) - 1)) := (hm5.cell (p := ⟨w2.heap.size + 1, 1, none⟩) (by show w2.heap.size + 1 < wr.heap.size; omega) (.inr (by show b + 1 ≤ w2.heap.size + 1; omega))).trans s_1
      have ns_2 : w5.cell? ⟨w2.heap.size + 1, 2, none⟩ = some (.slice aL L.length cL) := (hm5.cell (p := ⟨w2.heap.size + 1, 2, none⟩) (by show w2.heap.size + 1 < wr.heap.size; omega) (.inr (by show b + 1 ≤ w2.heap.size + 1; omega))).trans s_2
      have nsf : ∀ o, w5.frozen? ⟨w2.heap.size + 1, o, none⟩ = false := fun o => (hm5.frozen (p := ⟨w2.heap.size + 1, o, none⟩) (by show w2.heap.size + 1 < wr.heap.size; omega) (.inr (by show b + 1 ≤ w2.heap.size + 1; omega))).trans (sf o)
      have nr_0 : w5.cell? ⟨w.heap.size, 0, none⟩ = some (.int .i64 0) := (hm5.cell (p := ⟨w.heap.size, 0, none⟩) (by show w.heap.size < wr.heap.size; omega) (.inr (by show b + 1 ≤ w.heap.size; omega))).trans r_0
      have nr_1 : w5.cell? ⟨w.heap.size, 1, none⟩ = some (.int .i64 0) := (hm5.cell (p := ⟨w.heap.size, 1, none⟩) (by show w.heap.size < wr.heap.size; omega) (.inr (by show b + 1 ≤ w.heap.size; omega))).trans r_1
      have nr_2 : w5.cell? ⟨w.heap.size, 2, none⟩ = some (.slice none 0 0) := (hm5.cell (p := ⟨w.heap.size, 2, none⟩) (by show w.heap.size < wr.heap.size; omega) (.inr (by show b + 1 ≤ w.heap.size; omega))).trans r_2
      have nrf : ∀ o, w5.frozen? ⟨w.heap.size, o, none⟩ = false := fun o => (hm5.frozen (p := ⟨w.heap.size, o, none⟩) (by show w.heap.size < wr.heap.size; omega) (.inr (by show b + 1 ≤ w.heap.size; omega))).trans (rf o)
      obtain ⟨τ', hτ'⟩ : ∃ t, t = min (n1 : Int) (τ + (m : Int)) := ⟨_, rfl⟩
      have hτa : τ ≤ τ' := by omega
      have hτb : τ' ≤ (n1 : Int) := by omega
      rw [← hτ']
      clear hs5 hm5 hτ' ew s_0 s_1 s_2 sf r_0 r_1 r_2 rf
      have hw5 : w2.heap.size + 1 < w5.heap.size := by omega
      have hAl : ∀ x, (w5.alloc x).cell? ⟨w2.heap.size + 1, 2, none⟩ = some (.slice aL L.length cL) := fun x => by
        rw [World.cell?_alloc_lt _ _ _ (by show w2.heap.size + 1 < _; omega)]
        exact ns_2
      go_wp2_with fail
      go_region_law
        (first
          | (go_simp
             go_at_call 135
             refine (HEN.out _ τ' HS5.out.drew).mono ?_
             rintro e w7 ⟨s, hsz, rfl, hs7, hm7⟩
             have hz7 := hm7.size
             simp only [World.size_drew] at hz7
             have ts_2 : w7.cell? ⟨w2.heap.size + 1, 2, none⟩ = some (.slice aL L.length cL) := (hm7.cell (p := ⟨w2.heap.size + 1, 2, none⟩) (by show w2.heap.size + 1 < w5.heap.size; omega) (.inr hb1)).trans ns_2
             have hAl7 : ∀ x, (w7.alloc x).cell? ⟨w2.heap.size + 1, 2, none⟩ = some (.slice aL L.length cL) := fun x => by
               rw [World.cell?_alloc_lt _ _ _ (by show w2.heap.size + 1 < _; omega)]
               exact ts_2
             have tsf : ∀ o, w7.frozen? ⟨w2.heap.size + 1, o, none⟩ = false := fun o => (hm7.frozen (p := ⟨w2.heap.size + 1, o, none⟩) (by show w2.heap.size + 1 < w5.heap.size; omega) (.inr hb1)).trans (nsf o)
             have HL7 : Hid (Fresh entE 109 2 (w.heap.size + 1) (.slice aL L.length cL) L w7) := (HL5.out.drew).midB hm7 (by omega)
             simp only [])
          | (refine step_append_row (by rfl) (.tmp 32) (.tmp 36) 29 29 (by rfl) (w.heap.size + 1) 109 i0 (.agg #[.int .i64 0, .string ⟨#[]⟩]) 2 24 Try.underlying29 hi hz0 hz1 hz2 rfl (by decide) (.slice aL L.length cL) L (by rfl) (HL7.out.alloc _) _ [(τ', s)] (by rfl) (Src.ofBox (enc := entE) Try.underlying29 (fun _ => rfl) entOne (τ', s) #[.int .i64 τ', .string s] 109 rfl w7.heap.size (by simp)) (by simp; omega) (by simp; omega) ?_
             intro a8 c8 w8 L8 hL8 hf8 hg8 hb8
             have hz8 := hg8.size
             simp only [World.size_alloc] at hz8
             have us_2 : w8.cell? ⟨w2.heap.size + 1, 2, none⟩ = some (.slice aL L.length cL) := (grown_cell hg8 (p := ⟨w2.heap.size + 1, 2, none⟩) (by show w2.heap.size + 1 < _; rw [World.size_alloc]; omega) (fun e => HNE.out e.symm)).trans (hAl7 _)
             have usf : ∀ o, w8.frozen? ⟨w2.heap.size + 1, o, none⟩ = false := fun o => (grown_frozen hg8 (p := ⟨w2.heap.size + 1, o, none⟩) (by show w2.heap.size + 1 < _; rw [World.size_alloc]; omega) (fun e => HNE.out e.symm)).trans (by rw [((Below.refl _ _).alloc (Nat.le_refl _) _ : Below _ _ _).frozen (p := ⟨w2.heap.size + 1, o, none⟩) (by show w2.heap.size + 1 < _; omega)]; exact tsf o)))
      all_goals
        have hrow : ∀ k, (Value.slice aL L.length cL).ownBlock = some k → w.heap.size + 1 ≤ k := fun k hk => (Fresh.lt HL7.out hk).1
        have HS8 : Hid (SrcAt b a c xs (K + 3 + 2 * (5 - (i + 1)) + 1 + 1) w8) := (hs7.alloc _).grown hg8 hrow (by omega) (fun b' o e => (HFAR.out b' o e).imp id (fun h => by omega))
        have HM8 : Hid (Mid b (b + 1) w w8) := ((HM5.out.drew.trans hm7).alloc _).grownNew hg8 (fun k hk => by have := hrow k hk; omega)
        have HN8 : (Value.slice a8 L8.length c8).ownBlock ≠ some (w2.heap.size + 1) := fun e => by
          rcases hb8 with h | h
          · rw [h] at e
            exact HNE.out e
          · rw [h] at e
            have h2 := Option.some.inj e
            rw [World.size_alloc] at h2
            omega
        have hL8' := hL8.out
        have HLU8 : Hid (LogUp (n1 : Int) L8 ∧ LogUp τ' L8) := by
          have h1 : LogUp τ' L8 := by
            rw [hL8']
            exact hLU.out.2.snoc (by omega) hτa hsz
          exact ⟨h1.mono hτb, h1⟩
        have hl8 : L8.length + i ≤ 5 := by
          rw [hL8']
          simp
          omega
        have vs_0 : w8.cell? ⟨w2.heap.size + 1, 0, none⟩ = some (.int .i64 n1) := (grown_cell hg8 (p := ⟨w2.heap.size + 1, 0, none⟩) (by show w2.heap.size + 1 < _; rw [World.size_alloc]; omega) (fun e => HNE.out e.symm)).trans ((World.cell?_alloc_lt _ _ _ (by show w2.heap.size + 1 < w7.heap.size; omega)).trans ((hm7.cell (p := ⟨w2.heap.size + 1, 0, none⟩) (by show w2.heap.size + 1 < w5.heap.size; omega) (.inr (by show b + 1 ≤ w2.heap.size + 1; omega))).trans ns_0))
        have vs_1 : w8.cell? ⟨w2.heap.size + 1, 1, none⟩ = some (.int .i64 ((n2 : Int) - 1)) := (grown_cell hg8 (p := ⟨w2.heap.size + 1, 1, none⟩) (by show w2.heap.size + 1 < _; rw [World.size_alloc]; omega) (fun e => HNE.out e.symm)).trans ((World.cell?_alloc_lt _ _ _ (by show w2.heap.size + 1 < w7.heap.size; omega)).trans ((hm7.cell (p := ⟨w2.heap.size + 1, 1, none⟩) (by show w2.heap.size + 1 < w5.heap.size; omega) (.inr (by show b + 1 ≤ w2.heap.size + 1; omega))).trans ns_1))
        have vr_0 : w8.cell? ⟨w.heap.size, 0, none⟩ = some (.int .i64 0) := (grown_cell hg8 (p := ⟨w.heap.size, 0, none⟩) (by show w.heap.size < _; rw [World.size_alloc]; omega) (fun e => by have := hrow w.heap.size e.symm; omega)).trans ((World.cell?_alloc_lt _ _ _ (by show w.heap.size < w7.heap.size; omega)).trans ((hm7.cell (p := ⟨w.heap.size, 0, none⟩) (by show w.heap.size < w5.heap.size; omega) (.inr (by show b + 1 ≤ w.heap.size; omega))).trans nr_0))
        have vr_1 : w8.cell? ⟨w.heap.size, 1, none⟩ = some (.int .i64 0) := (grown_cell hg8 (p := ⟨w.heap.size, 1, none⟩) (by show w.heap.size < _; rw [World.size_alloc]; omega) (fun e => by have := hrow w.heap.size e.symm; omega)).trans ((World.cell?_alloc_lt _ _ _ (by show w.heap.size < w7.heap.size; omega)).trans ((hm7.cell (p := ⟨w.heap.size, 1, none⟩) (by show w.heap.size < w5.heap.size; omega) (.inr (by show b + 1 ≤ w.heap.size; omega))).trans nr_1))
        have vr_2 : w8.cell? ⟨w.heap.size, 2, none⟩ = some (.slice none 0 0) := (grown_cell hg8 (p := ⟨w.heap.size, 2, none⟩) (by show w.heap.size < _; rw [World.size_alloc]; omega) (fun e => by have := hrow w.heap.size e.symm; omega)).trans ((World.cell?_alloc_lt _ _ _ (by show w.heap.size < w7.heap.size; omega)).trans ((hm7.cell (p := ⟨w.heap.size, 2, none⟩) (by show w.heap.size < w5.heap.size; omega) (.inr (by show b + 1 ≤ w.heap.size; omega))).trans nr_2))
        have vrf : ∀ o, w8.frozen? ⟨w.heap.size, o, none⟩ = false := fun o => (grown_frozen hg8 (p := ⟨w.heap.size, o, none⟩) (by show w.heap.size < _; rw [World.size_alloc]; omega) (fun e => by have := hrow w.heap.size e.symm; omega)).trans ((((Below.refl _ _).alloc (Nat.le_refl _) _ : Below _ _ _).frozen (p := ⟨w.heap.size, o, none⟩) (by show w.heap.size < w7.heap.size; omega)).trans ((hm7.frozen (p := ⟨w.heap.size, o, none⟩) (by show w.heap.size < w5.heap.size; omega) (.inr (by show b + 1 ≤ w.heap.size; omega))).trans (nrf o)))
        have hw8 : w2.heap.size + 1 < w8.heap.size := by omega
        clear hL8'
        go_wp2_with fail
        go_roundw
        case rel =>
          refine ⟨τ', i, L8, a8, c8, by go_num, by omega, rfl, by omega, fun _ => hτb, by omega, HLU8.out, hl8, ?_, ?_, ?_, ?_, ?_, ?_, ?_, ?_, ?_, HN8, ?_, ?_, ?_⟩
          · simp [go_sem, vs_0, hneA, hneB]
          · simp [go_sem, vs_1, hneA, hneB]
          · simp [go_sem, us_2, hneA, hneB]
          · intro o
            simp [go_sem, usf, hneA, hneB]
          · simp [go_sem, vr_0, hneA, hneB]
          · simp [go_sem, vr_1, hneA, hneB]
          · simp [go_sem, vr_2, hneA, hneB]
          · intro o
            simp [go_sem, vrf, hneA, hneB]
          · exact Fresh.setNe hf8 HN8 _ _
          · exact (HS8.out.setCell (p := ⟨w2.heap.size + 1, 2, none⟩) (by show ¬ w2.heap.size + 1 = b; omega) (fun b' o e => (HFAR.out b' o e).imp id (fun h => by show b' ≠ w2.heap.size + 1; omega)) _).mono (by omega)
          · exact HM8.out.setNew (p := ⟨w2.heap.size + 1, 2, none⟩) (by show w.heap.size ≤ w2.heap.size + 1; omega) _
          · simpa using hw8
        case measure => first | (simp [intOf]; done) | (simp [intOf]; omega)
    · rcases Nat.eq_zero_or_pos j with hj0 | hj0
      · subst hj0
        go_wp2_with fail
        refine bodyPost_ret (v := .agg #[.int .i64 n1, .int .i64 ((n2 : Int) - 1), .slice aL L.length cL]) (by simp [results, Try.results75, go_sem, r_0, r_1, r_2, rf, s_0, s_1, s_2, hneA, hneB]) rfl ?_
        refine ⟨n1, (n2 : Int) - 1, L, aL, cL, rfl, ⟨by omega, by omega, by omega, by omega, by omega, hLU.out.1⟩, ?_, ?_, ?_⟩
        · refine Fresh.mono (B := w.heap.size + 1) ?_ (by omega)
          repeat (first | (with_reducible exact HL.out) | (with_reducible refine Fresh.setCell ?_ ?_ _; rotate_left; ((try simp) <;> (try omega))))
        · refine SrcAt.mono (K := K + 3 + 2 * (5 - 0)) ?_ (by omega)
          repeat (first | (with_reducible exact HS.out) | (with_reducible refine SrcAt.setCell ?_ ?_ ?_ _; rotate_left; (show ¬ w.heap.size = b; omega); (exact fun b' o e => (HFAR.out b' o e).imp id (fun h => by show b' ≠ w.heap.size; omega))))
        · repeat (first | (with_reducible exact HM.out) | (with_reducible refine Mid.setNew ?_ ?_ _; rotate_left; (exact Nat.le_refl _)))
      · have hn0 : n1 = 0 := by
          rcases Nat.eq_zero_or_pos n1 with h | h
          · exact h
          · exact absurd ⟨hj0, h⟩ hgo
        have k1 : (0 : Int) < (j : Int) := by omega
        subst hn0
        go_wp2_with fail
        refine bodyPost_ret (v := .agg #[.int .i64 ((0 : Nat) : Int), .int .i64 ((n2 : Int) - 1), .slice aL L.length cL]) (by simp [results, Try.results75, go_sem, r_0, r_1, r_2, rf, s_0, s_1, s_2, hneA, hneB]) rfl ?_
        refine ⟨((0 : Nat) : Int), (n2 : Int) - 1, L, aL, cL, rfl, ⟨by omega, by omega, by omega, by omega, by omega, hLU.out.1⟩, ?_, ?_, ?_⟩
        · refine Fresh.mono (B := w.heap.size + 1) ?_ (by omega)
          repeat (first | (with_reducible exact HL.out) | (with_reducible refine Fresh.setCell ?_ ?_ _; rotate_left; ((try simp) <;> (try omega))))
        · refine SrcAt.mono (K := K + 3 + 2 * (5 - j)) ?_ (by omega)
          repeat (first | (with_reducible exact HS.out) | (with_reducible refine SrcAt.setCell ?_ ?_ ?_ _; rotate_left; (show ¬ w.heap.size = b; omega); (exact fun b' o e => (HFAR.out b' o e).imp id (fun h => by show b' ≠ w.heap.size; omega))))
        · repeat (first | (with_reducible exact HM.out) | (with_reducible refine Mid.setNew ?_ ?_ _; rotate_left; (exact Nat.le_refl _)))
end
section
open Go.RowKit
def LaterR (b : Nat) (a : Option Addr) (c : Nat) (xs : List UInt8) (K T N : Nat) (t0 : Int) (w : World) (e : Ending) (w' : World) : Prop :=
  ∃ t v L aL cL, e = .returned (.agg #[.int .i64 t, .int .i64 v, .slice aL (List.length L) cL]) ∧ DrawnSt T N t v L ∧ t0 ≤ t ∧ Fresh entE 109 2 w.heap.size (.slice aL L.length cL) L w' ∧ SrcAt b a c xs K w' ∧ Mid b (b + 1) w w'
/-- What the walk of 'later' knows of the memory: the state under way in block B, the result in block R, the source. -/
def LatW (b : Nat) (a : Option Addr) (c : Nat) (xs : List UInt8) (K : Nat) (w : World) (B R lo : Nat) (t v : Int) (aL : Option Addr) (cL : Nat) (L : List Ent) (wx : World) : Prop :=
  wx.cell? ⟨B, 0, none⟩ = some (.int .i64 t) ∧ wx.cell? ⟨B, 1, none⟩ = some (.int .i64 v) ∧ wx.cell? ⟨B, 2, none⟩ = some (.slice aL L.length cL) ∧ (∀ o, wx.frozen? ⟨B, o, none⟩ = false) ∧ wx.cell? ⟨R, 0, none⟩ = some (.int .i64 0) ∧ wx.cell? ⟨R, 1, none⟩ = some (.int .i64 0) ∧ wx.cell? ⟨R, 2, none⟩ = some (.slice none 0 0) ∧ (∀ o, wx.frozen? ⟨R, o, none⟩ = false) ∧
    Fresh entE 109 2 lo (.slice aL L.length cL) L wx ∧ (Value.slice aL L.length cL).ownBlock ≠ some B ∧ SrcAt b a c xs K wx ∧ Mid b (b + 1) w wx ∧ B < wx.heap.size
theorem LatW.mid {b : Nat} {a : Option Addr} {c : Nat} {xs : List UInt8} {K K' : Nat} {w : World} {B R lo : Nat} {t v : Int} {aL : Option Addr} {cL : Nat} {L : List Ent} {wx w' : World} (h : LatW b a c xs K w B R lo t v aL cL L wx) (hm : Mid b (b + 1) wx w') (hs : SrcAt b a c xs K' w') (hB : b + 1 ≤ B) (hR : b + 1 ≤ R) (hl : b + 1 ≤ lo) (hRB : R < B) : LatW b a c xs K' w B R lo t v aL cL L w' := by
  obtain ⟨c0, c1, c2, cf, d0, d1, d2, df, hf, hne, _, hm0, hsz⟩ := h
  have hz := hm.size
  have k : ∀ j, w'.cell? ⟨B, j, none⟩ = wx.cell? ⟨B, j, none⟩ := fun j => hm.cell (p := ⟨B, j, none⟩) hsz (.inr hB)
  have k' : ∀ j, w'.cell? ⟨R, j, none⟩ = wx.cell? ⟨R, j, none⟩ := fun j => hm.cell (p := ⟨R, j, none⟩) (by show R < _; omega) (.inr hR)
  exact ⟨(k 0).trans c0, (k 1).trans c1, (k 2).trans c2, fun o => (hm.frozen (p := ⟨B, o, none⟩) hsz (.inr hB)).trans (cf o), (k' 0).trans d0, (k' 1).trans d1, (k' 2).trans d2, fun o => (hm.frozen (p := ⟨R, o, none⟩) (by show R < _; omega) (.inr hR)).trans (df o), hf.midB hm hl, hne, hs, hm0.trans hm, by omega⟩
theorem LatW.drew {b : Nat} {a : Option Addr} {c : Nat} {xs : List UInt8} {K : Nat} {w : World} {B R lo : Nat} {t v : Int} {aL : Option Addr} {cL : Nat} {L : List Ent} {wx : World} (h : LatW b a c xs K w B R lo t v aL cL L wx) : LatW b a c xs K w B R lo t v aL cL L wx.drew := by
  obtain ⟨c0, c1, c2, cf, d0, d1, d2, df, hf, hne, hs, hm0, hsz⟩ := h
  exact ⟨c0, c1, c2, cf, d0, d1, d2, df, hf.drew, hne, hs.drew, hm0.drew, hsz⟩
section
variable {b : Nat} {a : Option Addr} {c : Nat} {xs : List UInt8} {K : Nat} {w : World} {B R lo : Nat} {t v : Int} {aL : Option Addr} {cL : Nat} {L : List Ent} {wx : World}
theorem LatW.store0 (h : LatW b a c xs K w B R lo t v aL cL L wx) (t' : Int) (hRB : R < B) (hbB : b < B) (hw : w.heap.size ≤ B) (hfar : ∀ b' o, a = some ⟨b', o, none⟩ → xs = [] ∨ b' < w.heap.size) : LatW b a c xs K w B R lo t' v aL cL L (wx.setCell ⟨B, 0, none⟩ (.int .i64 t')) := by
  obtain ⟨c0, c1, c2, cf, d0, d1, d2, df, hf, hne, hs, hm0, hsz⟩ := h
  have n1 : ¬ B = R := by omega
  have n2 : ¬ R = B := by omega
  refine ⟨by simp [go_sem, c0], by simp [go_sem, c1], by simp [go_sem, c2], fun o => by simp [go_sem, cf], by simp [go_sem, d0, n1, n2], by simp [go_sem, d1, n1, n2], by simp [go_sem, d2, n1, n2], fun o => by simp [go_sem, df], hf.setNe hne _ _, hne, hs.setCell (p := ⟨B, 0, none⟩) (by show ¬ B = b; omega) (fun b' o e => (hfar b' o e).imp id (fun h => by show b' ≠ B; omega)) _, hm0.setNew (p := ⟨B, 0, none⟩) hw _, by simpa using hsz⟩
theorem LatW.store1 (h : LatW b a c xs K w B R lo t v aL cL L wx) (v' : Int) (hRB : R < B) (hbB : b < B) (hw : w.heap.size ≤ B) (hfar : ∀ b' o, a = some ⟨b', o, none⟩ → xs = [] ∨ b' < w.heap.size) : LatW b a c xs K w B R lo t v' aL cL L (wx.setCell ⟨B, 1, none⟩ (.int .i64 v')) := by
  obtain ⟨c0, c1, c2, cf, d0, d1, d2, df, hf, hne, hs, hm0, hsz⟩ := h
  have n1 : ¬ B = R := by omega
  have n2 : ¬ R = B := by omega
  refine ⟨by simp [go_sem, c0], by simp [go_sem, c1], by simp [go_sem, c2], fun o => by simp [go_sem, cf], by simp [go_sem, d0, n1, n2], by simp [go_sem, d1, n1, n2], by simp [go_sem, d2, n1, n2], fun o => by simp [go_sem, df], hf.setNe hne _ _, hne, hs.setCell (p := ⟨B, 1, none⟩) (by show ¬ B = b; omega) (fun b' o e => (hfar b' o e).imp id (fun h => by show b' ≠ B; omega)) _, hm0.setNew (p := ⟨B, 1, none⟩) hw _, by simpa using hsz⟩
theorem LatW.store2 (h : LatW b a c xs K w B R lo t v aL cL L wx) {a' : Option Addr} {c' : Nat} {L' : List Ent} (hf' : Fresh entE 109 2 lo (.slice a' L'.length c') L' wx) (hne' : (Value.slice a' L'.length c').ownBlock ≠ some B) (hRB : R < B) (hbB : b < B) (hw : w.heap.size ≤ B) (hfar : ∀ b' o, a = some ⟨b', o, none⟩ → xs = [] ∨ b' < w.heap.size) : LatW b a c xs K w B R lo t v a' c' L' (wx.setCell ⟨B, 2, none⟩ (.slice a' L'.length c')) := by
  obtain ⟨c0, c1, c2, cf, d0, d1, d2, df, hf, hne, hs, hm0, hsz⟩ := h
  have n1 : ¬ B = R := by omega
  have n2 : ¬ R = B := by omega
  refine ⟨by simp [go_sem, c0], by simp [go_sem, c1], by simp [go_sem, c2], fun o => by simp [go_sem, cf], by simp [go_sem, d0, n1, n2], by simp [go_sem, d1, n1, n2], by simp [go_sem, d2, n1, n2], fun o => by simp [go_sem, df], hf'.setNe hne' _ _, hne', hs.setCell (p := ⟨B, 2, none⟩) (by show ¬ B = b; omega) (fun b' o e => (hfar b' o e).imp id (fun h => by show b' ≠ B; omega)) _, hm0.setNew (p := ⟨B, 2, none⟩) hw _, by simpa using hsz⟩
theorem LatW.fin {sl : Value} (c0 : wx.cell? ⟨B, 0, none⟩ = some (.int .i64 t)) (c1 : wx.cell? ⟨B, 1, none⟩ = some (.int .i64 v)) (c2 : wx.cell? ⟨B, 2, none⟩ = some sl) (cf : ∀ o, wx.frozen? ⟨B, o, none⟩ = false) (d0 : wx.cell? ⟨R, 0, none⟩ = some (.int .i64 0)) (d1 : wx.cell? ⟨R, 1, none⟩ = some (.int .i64 0)) (d2 : wx.cell? ⟨R, 2, none⟩ = some (.slice none 0 0)) (df : ∀ o, wx.frozen? ⟨R, o, none⟩ = false)
    (hs : SrcAt b a c xs K wx) (hm0 : Mid b (b + 1) w wx) (hsz : B < wx.heap.size) (hf' : Fresh entE 109 2 lo (.slice aL L.length cL) L wx) (hne' : (Value.slice aL L.length cL).ownBlock ≠ some B) (hRB : R < B) (hbB : b < B) (hw : w.heap.size ≤ B) (hfar : ∀ b' o, a = some ⟨b', o, none⟩ → xs = [] ∨ b' < w.heap.size) : LatW b a c xs K w B R lo t v aL cL L (wx.setCell ⟨B, 2, none⟩ (.slice aL L.length cL)) := by
  have n1 : ¬ B = R := by omega
  have n2 : ¬ R = B := by omega
  refine ⟨by simp [go_sem, c0], by simp [go_sem, c1], by simp [go_sem, c2], fun o => by simp [go_sem, cf], by simp [go_sem, d0, n1, n2], by simp [go_sem, d1, n1, n2], by simp [go_sem, d2, n1, n2], fun o => by simp [go_sem, df], hf'.setNe hne' _ _, hne', hs.setCell (p := ⟨B, 2, none⟩) (by show ¬ B = b; omega) (fun b' o e => (hfar b' o e).imp id (fun h => by show b' ≠ B; omega)) _, hm0.setNew (p := ⟨B, 2, none⟩) hw _, by simpa using hsz⟩
/-- Behind a box and an append: everything but the log is as it was. -/
theorem LatW.appended (h : LatW b a c xs K w B R lo t v aL cL L wx) {o : Obj} {w' : World} (hg : (wx.alloc o).grownBy w' (Value.slice aL L.length cL).ownBlock) (hlo : w.heap.size ≤ lo) (hRl : R < lo) (hRB : R < B) (hbl : b < lo) (hfar : ∀ b' o, a = some ⟨b', o, none⟩ → xs = [] ∨ b' < w.heap.size) :
    w'.cell? ⟨B, 0, none⟩ = some (.int .i64 t) ∧ w'.cell? ⟨B, 1, none⟩ = some (.int .i64 v) ∧ w'.cell? ⟨B, 2, none⟩ = some (.slice aL L.length cL) ∧ (∀ o, w'.frozen? ⟨B, o, none⟩ = false) ∧ w'.cell? ⟨R, 0, none⟩ = some (.int .i64 0) ∧ w'.cell? ⟨R, 1, none⟩ = some (.int .i64 0) ∧ w'.cell? ⟨R, 2, none⟩ = some (.slice none 0 0) ∧ (∀ o, w'.frozen? ⟨R, o, none⟩ = false) ∧ SrcAt b a c xs K w' ∧ Mid b (b + 1) w w' ∧ B < w'.heap.size := by
  obtain ⟨c0, c1, c2, cf, d0, d1, d2, df, hf, hne, hs, hm0, hsz⟩ := h
  have hrow : ∀ k, (Value.slice aL L.length cL).ownBlock = some k → lo ≤ k := fun k hk => (Fresh.lt hf hk).1
  have hz := hg.size
  rw [World.size_alloc] at hz
  have kB : ∀ j, w'.cell? ⟨B, j, none⟩ = wx.cell? ⟨B, j, none⟩ := fun j => (grown_cell hg (p := ⟨B, j, none⟩) (by show B < _; rw [World.size_alloc]; omega) (fun e => hne e.symm)).trans (World.cell?_alloc_lt _ _ _ (by show B < wx.heap.size; omega))
  have kR : ∀ j, w'.cell? ⟨R, j, none⟩ = wx.cell? ⟨R, j, none⟩ := fun j => (grown_cell hg (p := ⟨R, j, none⟩) (by show R < _; rw [World.size_alloc]; omega) (fun e => by have := hrow R e.symm; omega)).trans (World.cell?_alloc_lt _ _ _ (by show R < wx.heap.size; omega))
  have fB : ∀ j, w'.frozen? ⟨B, j, none⟩ = wx.frozen? ⟨B, j, none⟩ := fun j => (grown_frozen hg (p := ⟨B, j, none⟩) (by show B < _; rw [World.size_alloc]; omega) (fun e => hne e.symm)).trans (((Below.refl _ _).alloc (Nat.le_refl _) _ : Below _ _ _).frozen (p := ⟨B, j, none⟩) (by show B < wx.heap.size; omega))
  have fR : ∀ j, w'.frozen? ⟨R, j, none⟩ = wx.frozen? ⟨R, j, none⟩ := fun j => (grown_frozen hg (p := ⟨R, j, none⟩) (by show R < _; rw [World.size_alloc]; omega) (fun e => by have := hrow R e.symm; omega)).trans (((Below.refl _ _).alloc (Nat.le_refl _) _ : Below _ _ _).frozen (p := ⟨R, j, none⟩) (by show R < wx.heap.size; omega))
  exact ⟨(kB 0).trans c0, (kB 1).trans c1, (kB 2).trans c2, fun o => (fB o).trans (cf o), (kR 0).trans d0, (kR 1).trans d1, (kR 2).trans d2, fun o => (fR o).trans (df o), (hs.alloc _).grown hg hrow hbl (fun b' o e => (hfar b' o e).imp id (fun h => by omega)), (hm0.alloc _).grownNew hg (fun k hk => by have := hrow k hk; omega), by omega⟩
end
theorem own_cases {L : List Ent} {lo cap : Nat} {a : Option Addr} {w : World} (h : Fresh entE 109 2 lo (.slice a L.length cap) L w) : (a = none ∧ cap = 0 ∧ L.length = 0) ∨ ∃ g, a = some ⟨g, 0, none⟩ := by
  obtain ⟨a', c', hv, _, h2⟩ := h
  cases hv
  rcases h2.2 with ⟨hv, hn⟩ | ⟨g, cap', cur, hv, _⟩
  · simp only [Value.slice.injEq] at hv
    exact .inl ⟨hv.1, hv.2.2, hn⟩
  · simp only [Value.slice.injEq] at hv
    exact .inr ⟨g, hv.1⟩
theorem cut_index {n m1 m2 : Nat} (h1 : m1 < n + 1) (h2 : m2 < 2) : ∃ k : Nat, (n : Int) - (m1 : Int) * (m2 : Int) = (k : Int) ∧ k ≤ n := by
  have h3 : m2 = 0 ∨ m2 = 1 := by omega
  rcases h3 with rfl | rfl
  · exact ⟨n, by simp, Nat.le_refl _⟩
  · exact ⟨n - m1, by simp; omega, by omega⟩
theorem Fresh.takeN {L : List Ent} {lo cap : Nat} {a : Option Addr} {w : World} (h : Fresh entE 109 2 lo (.slice a L.length cap) L w) (k : Nat) (hk : k ≤ L.length) : Fresh entE 109 2 lo (.slice a (L.take k).length cap) (L.take k) w := by
  have h1 := (FreshIn.take (enc := entE) (sz := 2) (fun _ => rfl) h.here k hk).1
  have h2 : (L.take k).length = k := by simp; omega
  rw [h2]
  exact h1
end
section
open Go
section
variable {P : Program} {ops : Array Oper} {Q : Exit → Act → World → Prop} {md : Region.Mode} {S : World → Prop} {ex : Nat → Bool}
/-- Whatever order is picked: each operation keeps S, but those of ex. -/
def wpAnyG (P : Program) (md : Region.Mode) (ops : Array Oper) (Q : Exit → Act → World → Prop) (S : World → Prop) (ex : Nat → Bool) : Nat → Array Bool → Act → World → Prop
  | 0, listed, a, w => Region.ready md ops listed = [] ∧ Q .normal a w
  | fuel + 1, listed, a, w =>
    (Region.ready md ops listed = [] → Q .normal a w) ∧
    ∀ i ∈ Region.ready md ops listed, wpOp P ops Q i (fun a' w' => (ex i = true ∨ (S w → S w')) ∧ wpAnyG P md ops Q S ex fuel (listed.setIfInBounds i true) a' w') a w
theorem wpAny_of_G : ∀ (fuel : Nat) (listed : Array Bool) (a : Act) (w : World), wpAnyG P md ops Q S ex fuel listed a w → wpAny P md ops Q fuel listed a w
  | 0, _, _, _, h => h
  | fuel + 1, _, _, _, h => ⟨h.1, fun i hi => wpOp_mono (fun a' w' h' => wpAny_of_G fuel _ a' w' h'.2) (h.2 i hi)⟩
/-- What is of ex waits for number i. -/
def waitsB (md : Region.Mode) (ops : Array Oper) (ex : Nat → Bool) (i : Nat) : Bool :=
  (List.range ops.size).all fun j => !ex j || (match ops[j]? with | some o => o.after.any fun e => Region.binds md e && e.on == i | none => true)
theorem wpAnyG_first {i : Nat} {oi : Oper} {v : Value} (hi : ops[i]? = some oi) (hsel : ∀ (j : Nat) (o : Oper) cs b, ops[j]? = some o → o.op ≠ .select cs b)
    (hQ : ∀ c a w, Q (.panic c) (a.put oi.dst v) w → Q (.panic c) a w)
    (hex : ∀ j oj, ops[j]? = some oj → ex j = true → ∃ e ∈ oj.after, Region.binds md e = true ∧ e.on = i) :
    ∀ (fuel : Nat) (listed : Array Bool) (a : Act) (w : World),
      (∀ j oj, ops[j]? = some oj → j ≠ i → listed.getD j true = false → (∀ e ∈ oj.after, Region.binds md e = true → e.on ≠ i) → oi.apart ops oj = true) →
      i ∈ Region.ready md ops listed → YieldsIf P ops S oi v a → S w →
      wpAnyG P md ops Q S ex fuel (listed.setIfInBounds i true) (a.put oi.dst v) w → wpAnyG P md ops Q S ex (fuel + 1) listed a w := by
  intro fuel
  induction fuel with
  | zero =>
    intro listed a w _ hr hy hS H
    refine ⟨fun h => (by rw [h] at hr; cases hr), fun j hj => ?_⟩
    by_cases hji : j = i
    · subst hji; exact hy.wpOp hi hS ⟨.inr id, H⟩
    · have := ready_mono hj hji
      rw [H.1] at this
      cases this
  | succ fuel ih =>
    intro listed a w hfree hr hy hS H
    refine ⟨fun h => (by rw [h] at hr; cases hr), fun j hj => ?_⟩
    by_cases hji : j = i
    · subst hji; exact hy.wpOp hi hS ⟨.inr id, H⟩
    · have h1 := H.2 j (ready_mono hj hji)
      obtain ⟨hjun, oj, hoj, hall⟩ := mem_ready.1 hj
      have hnot : ∀ e ∈ oj.after, Region.binds md e = true → e.on ≠ i := fun e he hb heq => by
        have h1 := hall e he hb
        have h0 := (mem_ready.1 hr).1
        rw [heq] at h1
        rcases Nat.lt_or_ge i listed.size with h' | h'
        · simp [h'] at h0 h1; rw [h0] at h1; cases h1
        · simp [Array.getElem?_eq_none h'] at h1
      have hjex : ex j = true → False := fun he => by
        obtain ⟨e, h2, h3, h4⟩ := hex j oj hoj he
        exact hnot e h2 h3 h4
      have h2 := wpOp_putIf hoj (hfree j oj hoj hji hjun hnot) (fun cs b => hsel i oi cs b hi) (fun cs b => hsel j oj cs b hoj) hQ hy h1
      have hfree' : ∀ k ok, ops[k]? = some ok → k ≠ i → (listed.setIfInBounds j true).getD k true = false →
          (∀ e ∈ ok.after, Region.binds md e = true → e.on ≠ i) → oi.apart ops ok = true := fun k ok hk hki hun hno => by
        refine hfree k ok hk hki ?_ hno
        by_cases hjk : j = k
        · subst hjk; exact hjun
        · rw [getD_set_ne true hjk] at hun; exact hun
      refine wpOp_mono (fun a' w' h3 => ?_) h2
      have hSw : S w' := h3.2.1.resolve_left (fun he => hjex he) hS
      refine ⟨.inr (fun _ => hSw), ih (listed.setIfInBounds j true) a' w' hfree' (ready_mono hr (Ne.symm hji)) h3.1 hSw ?_⟩
      rw [Array.setIfInBounds_comm _ _ hji]
      exact h3.2.2
theorem wpAnyG_firstW {i : Nat} {oi : Oper} {v : Value} (hi : ops[i]? = some oi) (hsel : ∀ (j : Nat) (o : Oper) cs b, ops[j]? = some o → o.op ≠ .select cs b)
    (hQ : ∀ c a w, Q (.panic c) (a.put oi.dst v) w → Q (.panic c) a w) :
    ∀ (fuel : Nat) (listed : Array Bool) (a : Act) (w : World),
      (∀ j oj, ops[j]? = some oj → j ≠ i → listed.getD j true = false → (∀ e ∈ oj.after, Region.binds md e = true → e.on ≠ i) → oi.apart ops oj = true) →
      i ∈ Region.ready md ops listed → YieldsIf P ops (fun _ => True) oi v a →
      wpAnyG P md ops Q S ex fuel (listed.setIfInBounds i true) (a.put oi.dst v) w → wpAnyG P md ops Q S ex (fuel + 1) listed a w := by
  intro fuel
  induction fuel with
  | zero =>
    intro listed a w _ hr hy H
    refine ⟨fun h => (by rw [h] at hr; cases hr), fun j hj => ?_⟩
    by_cases hji : j = i
    · subst hji; exact hy.wpOp hi trivial ⟨.inr id, H⟩
    · have := ready_mono hj hji
      rw [H.1] at this
      cases this
  | succ fuel ih =>
    intro listed a w hfree hr hy H
    refine ⟨fun h => (by rw [h] at hr; cases hr), fun j hj => ?_⟩
    by_cases hji : j = i
    · subst hji; exact hy.wpOp hi trivial ⟨.inr id, H⟩
    · have h1 := H.2 j (ready_mono hj hji)
      obtain ⟨hjun, oj, hoj, hall⟩ := mem_ready.1 hj
      have hnot : ∀ e ∈ oj.after, Region.binds md e = true → e.on ≠ i := fun e he hb heq => by
        have h1 := hall e he hb
        have h0 := (mem_ready.1 hr).1
        rw [heq] at h1
        rcases Nat.lt_or_ge i listed.size with h' | h'
        · simp [h'] at h0 h1; rw [h0] at h1; cases h1
        · simp [Array.getElem?_eq_none h'] at h1
      have h2 := wpOp_putIf hoj (hfree j oj hoj hji hjun hnot) (fun cs b => hsel i oi cs b hi) (fun cs b => hsel j oj cs b hoj) hQ hy h1
      have hfree' : ∀ k ok, ops[k]? = some ok → k ≠ i → (listed.setIfInBounds j true).getD k true = false →
          (∀ e ∈ ok.after, Region.binds md e = true → e.on ≠ i) → oi.apart ops ok = true := fun k ok hk hki hun hno => by
        refine hfree k ok hk hki ?_ hno
        by_cases hjk : j = k
        · subst hjk; exact hjun
        · rw [getD_set_ne true hjk] at hun; exact hun
      refine wpOp_mono (fun a' w' h3 => ?_) h2
      refine ⟨h3.2.1, ih (listed.setIfInBounds j true) a' w' hfree' (ready_mono hr (Ne.symm hji)) h3.1 ?_⟩
      rw [Array.setIfInBounds_comm _ _ hji]
      exact h3.2.2
theorem wpAnyG_takeW {i : Nat} {oi : Oper} {v : Value} {fuel : Nat} {listed : Array Bool} {a : Act} {w : World} (hi : ops[i]? = some oi)
    (hs : Region.noSelect ops = true) (hf : Region.free md ops listed i = true) (hr : (Region.ready md ops listed).contains i = true)
    (hQ : ∀ c a w, Q (.panic c) (a.put oi.dst v) w → Q (.panic c) a w) (hy : YieldsIf P ops (fun _ => True) oi v a)
    (h : wpAnyG P md ops Q S ex fuel (listed.setIfInBounds i true) (a.put oi.dst v) w) : wpAnyG P md ops Q S ex (fuel + 1) listed a w :=
  wpAnyG_firstW hi (Region.noSelect_spec hs) hQ fuel listed a w (Region.free_spec hi hf) (by simpa using hr) hy h
theorem waitsB_spec {i : Nat} (h : waitsB md ops ex i = true) : ∀ j oj, ops[j]? = some oj → ex j = true → ∃ e ∈ oj.after, Region.binds md e = true ∧ e.on = i := by
  intro j oj hj he
  have h1 := (List.all_eq_true.1 h) j (List.mem_range.2 (Array.getElem?_eq_some_iff.1 hj).1)
  rw [hj, he] at h1
  simp only [Bool.not_true, Bool.false_or] at h1
  obtain ⟨k, hk, h2⟩ := Array.any_eq_true.1 h1
  simp only [Bool.and_eq_true, beq_iff_eq] at h2
  exact ⟨oj.after[k], Array.getElem_mem hk, h2.1, h2.2⟩
theorem wpAnyG_take {i : Nat} {oi : Oper} {v : Value} {fuel : Nat} {listed : Array Bool} {a : Act} {w : World} (hi : ops[i]? = some oi)
    (hs : Region.noSelect ops = true) (hf : Region.free md ops listed i = true) (hr : (Region.ready md ops listed).contains i = true) (hw : waitsB md ops ex i = true)
    (hQ : ∀ c a w, Q (.panic c) (a.put oi.dst v) w → Q (.panic c) a w) (hS : S w) (hy : YieldsIf P ops S oi v a)
    (h : wpAnyG P md ops Q S ex fuel (listed.setIfInBounds i true) (a.put oi.dst v) w) : wpAnyG P md ops Q S ex (fuel + 1) listed a w :=
  wpAnyG_first hi (Region.noSelect_spec hs) hQ (waitsB_spec hw) fuel listed a w (Region.free_spec hi hf) (by simpa using hr) hy hS h
/-- One operation alone may come up. -/
theorem wpAnyG_one {i : Nat} {o : Oper} {fuel : Nat} {listed : Array Bool} {a : Act} {w : World} (hr : Region.ready md ops listed = [i]) (ho : ops[i]? = some o)
    (hS : S w) (h : ∀ K' : Act → World → Prop, Shut (∀ a w, (ex i = true ∨ S w) → wpAnyG P md ops Q S ex fuel (listed.setIfInBounds i true) a w → K' a w) → if Region.wanted o (yielded ops a.tmps) = true then Oper.wp P o a w K' Q else K' (a.put o.dst undef) w) : wpAnyG P md ops Q S ex (fuel + 1) listed a w :=
  ⟨fun h0 => (by rw [hr] at h0; cases h0), fun j hj => by
    rw [hr] at hj
    obtain rfl : j = i := by simpa using hj
    exact wpOp_step ho (fun K' hK => h K' (fun a w h1 h2 => hK a w ⟨h1.imp id (fun h3 _ => h3), h2⟩))⟩
theorem wpAnyG_done {listed : Array Bool} {a : Act} {w : World} (hr : Region.ready md ops listed = []) (h : Q .normal a w) : ∀ fuel, wpAnyG P md ops Q S ex fuel listed a w
  | 0 => ⟨hr, h⟩
  | _ + 1 => ⟨fun _ => h, by rw [hr]; simp⟩
theorem wp_region_G {id : Nat} {a : Act} {w : World} (S : World → Prop) (ex : Nat → Bool) (hm : P.follows .mixedOrders = true) (hS : S w.drew)
    (h : wpAnyG P .any ops Q S ex ops.size (Array.replicate ops.size false) a w.drew) : (Code.region id ops true).wp P Q a w :=
  wp_region_any hm (wpAny_of_G _ _ _ _ h)
end
end
section
open Go.RowKit
set_option maxRecDepth 100000 in
set_option maxHeartbeats 16000000 in
theorem srcLater_c (b : Nat) (a : Option Addr) (c : Nat) (xs : List UInt8) (K : Nat) (t v : Int) (L : List Ent) (aS : Option Addr) (cS : Nat) (T N : Nat) (w : World) (h : SrcAt b a c xs K w) (hK : K ≤ 1000000000) (hd : DrawnSt T N t v L) (hT : T ≤ 100) (hN : N ≤ 40) (hl : Sl entE 2 w aS L) :
    Calls Try.prog 76 #[.pointer (some ⟨b, 0, none⟩), .agg #[.int .i64 t, .int .i64 v, .slice aS L.length cS]] w (LaterR b a c xs (K + 20) (T + 1) (N + 2) t w) := by
  obtain ⟨i0, hi, hz0, hz1, hz2⟩ := info_parts Try.infoEntry
  obtain ⟨ht0, htT, hv1, hv2, hLN, hLU⟩ := hd
  have hb0 : b < w.heap.size := h.lt
  have HFAR := Lib.hid h.far
  have HU := Lib.hid hLU
  clear hLU
  have HSL := Lib.hid ((hl.alloc (.cells #[.int .i64 t, .int .i64 v, .slice aS L.length cS] 31)).alloc (.cells #[.int .i64 0, .int .i64 0, .slice none 0 0] 31))
  have HS0 := Lib.hid ((h.alloc (.cells #[.int .i64 t, .int .i64 v, .slice aS L.length cS] 31)).alloc (.cells #[.int .i64 0, .int .i64 0, .slice none 0 0] 31))
  clear h hl
  go_enter Try.func76, Try.ntmps76
  go_wp2_with fail
  refine (l07Own_c aS cS L t v _ HSL.out (by omega)).mono ?_
  rintro e w1 ⟨a1, c1, rfl, hf1, hb1⟩
  have hz1' := hb1.size
  simp only [World.size_alloc] at hz1' hf1
  have r1_0 : w1.cell? ⟨w.heap.size + 1, 0, none⟩ = some (.int .i64 0) := (hb1.cell (p := ⟨w.heap.size + 1, 0, none⟩) (by show w.heap.size + 1 < _; simp)).trans (by simp [go_sem])
  have r1_1 : w1.cell? ⟨w.heap.size + 1, 1, none⟩ = some (.int .i64 0) := (hb1.cell (p := ⟨w.heap.size + 1, 1, none⟩) (by show w.heap.size + 1 < _; simp)).trans (by simp [go_sem])
  have r1_2 : w1.cell? ⟨w.heap.size + 1, 2, none⟩ = some (.slice none 0 0) := (hb1.cell (p := ⟨w.heap.size + 1, 2, none⟩) (by show w.heap.size + 1 < _; simp)).trans (by simp [go_sem])
  have r1f : ∀ o, w1.frozen? ⟨w.heap.size + 1, o, none⟩ = false := fun o => (hb1.frozen (p := ⟨w.heap.size + 1, o, none⟩) (by show w.heap.size + 1 < _; simp)).trans (by simp [go_sem])
  have HW1 : Hid (LatW b a c xs K w w1.heap.size (w.heap.size + 1) (w.heap.size + 2) t v a1 c1 L (w1.alloc (.cells #[.int .i64 t, .int .i64 v, .slice a1 L.length c1] 31))) := by
    refine ⟨by simp [go_sem], by simp [go_sem], by simp [go_sem], fun o => by simp [go_sem], ?_, ?_, ?_, fun o => ?_, hf1.alloc _, fun e => ?_, (HS0.out.below hb1).alloc _, ((((Mid.refl _ _ _).alloc _).alloc _).trans (Mid.of_below _ _ hb1)).alloc _, by simp⟩
    · rw [World.cell?_alloc_lt _ _ _ (by show w.heap.size + 1 < _; omega)]; exact r1_0
    · rw [World.cell?_alloc_lt _ _ _ (by show w.heap.size + 1 < _; omega)]; exact r1_1
    · rw [World.cell?_alloc_lt _ _ _ (by show w.heap.size + 1 < _; omega)]; exact r1_2
    · rw [((Below.refl _ _).alloc (Nat.le_refl _) _ : Below _ _ _).frozen (p := ⟨w.heap.size + 1, o, none⟩) (by show w.heap.size + 1 < _; omega)]; exact r1f o
    · have := (hf1.lt e).2
      omega
  clear r1_0 r1_1 r1_2 r1f hf1 hb1
  have hB1 : b + 1 ≤ w1.heap.size := by omega
  have hR1 : b + 1 ≤ w.heap.size + 1 := by omega
  have hl1 : b + 1 ≤ w.heap.size + 2 := by omega
  have hRB : w.heap.size + 1 < w1.heap.size := by omega
  have hbB : b < w1.heap.size := by omega
  have hwB : w.heap.size ≤ w1.heap.size := by omega
  have hneA : ¬ w1.heap.size = w.heap.size + 1 := by omega
  have hneB : ¬ w.heap.size + 1 = w1.heap.size := by omega
  go_upto_region 2 with fail
  generalize w1.alloc (.cells #[.int .i64 t, .int .i64 v, .slice a1 L.length c1] 31) = wa at HW1 ⊢
  go_cut [5] (fun s wx => s = .pointer (some ⟨w1.heap.size, 0, none⟩) ∧ ∃ t' : Int, t ≤ t' ∧ t' ≤ t + 1 ∧ LatW b a c xs (K + 1) w w1.heap.size (w.heap.size + 1) (w.heap.size + 2) t' v a1 c1 L wx)
  case first =>
    have s_0 := HW1.out.1
    have hBa : w1.heap.size < wa.heap.size := HW1.out.2.2.2.2.2.2.2.2.2.2.2.2
    have HSa : Hid (SrcAt b a c xs K wa) := HW1.out.2.2.2.2.2.2.2.2.2.2.1
    go_region_law
      (go_simp
       go_at_call 134
       refine (srcNext_c b a c xs K 2 _ HSa.out.drew (by omega) (by omega) (by omega)).mono ?_
       rintro e w2 ⟨m, hm, rfl, hs2, hm2⟩
       have HW2 := Lib.hid (HW1.out.drew.mid hm2 hs2 hB1 hR1 hl1 hRB)
       have ew : IntKind.i64.wrap (t + (m : Int)) = t + (m : Int) := IntWalk.i64_in _ ⟨by omega, by omega⟩
       have ns_0 : w2.cell? ⟨w1.heap.size, 0, none⟩ = some (.int .i64 t) := HW2.out.1
       have nsf : ∀ o, w2.frozen? ⟨w1.heap.size, o, none⟩ = false := HW2.out.2.2.2.1
       simp only [])
    all_goals
      go_wp2_with fail
      go_meet
      exact ⟨rfl, t + (m : Int), by omega, by omega, HW2.out.store0 _ hRB hbB hwB HFAR.out⟩
  case rest =>
    obtain ⟨rfl, t', ht1, ht2, hW⟩ := hcut
    have HWc := Lib.hid hW
    have HSc : Hid (SrcAt b a c xs (K + 1) wc) := hW.2.2.2.2.2.2.2.2.2.2.1
    clear hW
    obtain ⟨wd, hwd⟩ : ∃ x, x = wc := ⟨_, rfl⟩
    subst hwd
    go_wp2_with fail
    refine (srcNext_c b a c xs (K + 1) 4 _ HSc.out (by omega) (by omega) (by omega)).mono ?_
    rintro e w3 ⟨n4, hn4, rfl, hs3, hm3⟩
    have HW3 := Lib.hid (HWc.out.mid hm3 hs3 hB1 hR1 hl1 hRB)
    have s_1 : w3.cell? ⟨w1.heap.size, 1, none⟩ = some (.int .i64 v) := HW3.out.2.1
    have sf : ∀ o, w3.frozen? ⟨w1.heap.size, o, none⟩ = false := HW3.out.2.2.2.1
    have HW4 := Lib.hid (HW3.out.store1 ((n4 : Int) - 1) hRB hbB hwB HFAR.out)
    clear hs3 hm3
    go_upto_region 4 with fail
    clear s_1 sf
    generalize w3.setCell ⟨w1.heap.size, 1, none⟩ (.int .i64 ((n4 : Int) - 1)) = wb at HW4 ⊢
    obtain ⟨v', hv'⟩ : ∃ v' : Int, v' = (n4 : Int) - 1 := ⟨_, rfl⟩
    rw [← hv'] at HW4
    have hv3 : -1 ≤ v' := by omega
    have hv4 : v' ≤ 2 := by omega
    go_cut [5] (fun s wx => s = .pointer (some ⟨w1.heap.size, 0, none⟩) ∧ ∃ k, k ≤ L.length ∧ LatW b a c xs (K + 4) w w1.heap.size (w.heap.size + 1) (w.heap.size + 2) t' v' a1 c1 (L.take k) wx)
    case first =>
      have HSb : Hid (SrcAt b a c xs (K + 1 + 1) wb) := HW4.out.2.2.2.2.2.2.2.2.2.2.1
      have hF4 := HW4.out.2.2.2.2.2.2.2.2.1
      have hcap : L.length ≤ c1 := hF4.here.fits
      have HN1 : Hid (∀ w', SrcAt b a c xs (K + 1 + 1) w' → Calls Try.prog 134 #[.pointer (some ⟨b, 0, none⟩), .int .i64 ((L.length : Int) + 1)] w' (ByteR b a c xs (K + 1 + 1 + 1) (L.length + 1) w')) := Lib.hid (fun w' h => by
        have := srcNext_c b a c xs (K + 1 + 1) (L.length + 1) w' h (by omega) (by omega) (by omega)
        simpa using this)
      have HN2 : Hid (∀ w', SrcAt b a c xs (K + 1 + 1 + 1) w' → Calls Try.prog 134 #[.pointer (some ⟨b, 0, none⟩), .int .i64 2] w' (ByteR b a c xs (K + 1 + 1 + 1 + 1) 2 w')) := Lib.hid (fun w' h => srcNext_c b a c xs (K + 1 + 1 + 1) 2 w' h (by omega) (by omega) (by omega))
      have el : IntKind.i64.wrap ((L.length : Int) + 1) = (L.length : Int) + 1 := IntWalk.i64_in _ ⟨by omega, by omega⟩
      have hfo := hF4
      have HCAP := Lib.hid hcap
      clear hcap
      rcases own_cases hF4 with ⟨rfl, rfl, -⟩ | ⟨gL, rfl⟩
      all_goals
        have s_2 := HW4.out.2.2.1
        have hLb : L.length ≤ 40 := by omega
        clear hF4 hfo HSL HS0 HU HSc HWc HW3 ht0 htT hv1 hv2 ht1 ht2 hv3 hv4 hv' hn4 hneA hneB hK hT hN hLN
        skip
        refine wp_region_G (fun w' => w'.cell? ⟨w1.heap.size, 2, none⟩ = some (.slice _ L.length _)) (fun i => i == 17) (by kernel_rfl) s_2 ?_
        refine wpAnyG_take (i := 0) (v := ?_) rfl (by kernel_rfl) (by kernel_rfl) (by kernel_rfl) (by kernel_rfl) (fun _ _ _ h => h) s_2 (Or.inl ⟨by rfl, ?_⟩) ?_
        rotate_left
        · intro w' hSw
          go_simp
          try (with_reducible rfl)
        try simp only [Act.put, List.getElem_toArray, List.getElem_cons_zero, List.getElem_cons_succ, List.setIfInBounds_toArray, List.set_cons_zero, List.set_cons_succ]
        refine wpAnyG_take (i := 1) (v := ?_) rfl (by kernel_rfl) (by kernel_rfl) (by kernel_rfl) (by kernel_rfl) (fun _ _ _ h => h) s_2 (Or.inl ⟨by rfl, ?_⟩) ?_
        rotate_left
        · intro w' hSw
          go_simp
          try (with_reducible rfl)
        try simp only [Act.put, List.getElem_toArray, List.getElem_cons_zero, List.getElem_cons_succ, List.setIfInBounds_toArray, List.set_cons_zero, List.set_cons_succ]
        refine wpAnyG_take (i := 2) (v := ?_) rfl (by kernel_rfl) (by kernel_rfl) (by kernel_rfl) (by kernel_rfl) (fun _ _ _ h => h) s_2 (Or.inl ⟨by rfl, ?_⟩) ?_
        rotate_left
        · intro w' hSw
          go_simp
          try (with_reducible rfl)
        try simp only [Act.put, List.getElem_toArray, List.getElem_cons_zero, List.getElem_cons_succ, List.setIfInBounds_toArray, List.set_cons_zero, List.set_cons_succ]
        refine wpAnyG_take (i := 3) (v := ?_) rfl (by kernel_rfl) (by kernel_rfl) (by kernel_rfl) (by kernel_rfl) (fun _ _ _ h => h) s_2 (Or.inl ⟨by rfl, ?_⟩) ?_
        rotate_left
        · intro w' hSw
          go_simp
          try (with_reducible rfl)
        try simp only [Act.put, List.getElem_toArray, List.getElem_cons_zero, List.getElem_cons_succ, List.setIfInBounds_toArray, List.set_cons_zero, List.set_cons_succ]
        refine wpAnyG_take (i := 4) (v := ?_) rfl (by kernel_rfl) (by kernel_rfl) (by kernel_rfl) (by kernel_rfl) (fun _ _ _ h => h) s_2 (Or.inl ⟨by rfl, ?_⟩) ?_
        rotate_left
        · intro w' hSw
          go_simp
          try (with_reducible rfl)
        try simp only [Act.put, List.getElem_toArray, List.getElem_cons_zero, List.getElem_cons_succ, List.setIfInBounds_toArray, List.set_cons_zero, List.set_cons_succ]
        refine wpAnyG_take (i := 5) (v := ?_) rfl (by kernel_rfl) (by kernel_rfl) (by kernel_rfl) (by kernel_rfl) (fun _ _ _ h => h) s_2 (Or.inl ⟨by rfl, ?_⟩) ?_
        rotate_left
        · intro w' hSw
          go_simp
          try (with_reducible rfl)
        try simp only [Act.put, List.getElem_toArray, List.getElem_cons_zero, List.getElem_cons_succ, List.setIfInBounds_toArray, List.set_cons_zero, List.set_cons_succ]
        refine wpAnyG_take (i := 6) (v := ?_) rfl (by kernel_rfl) (by kernel_rfl) (by kernel_rfl) (by kernel_rfl) (fun _ _ _ h => h) s_2 (Or.inl ⟨by rfl, ?_⟩) ?_
        rotate_left
        · intro w' hSw
          go_simp
          try (with_reducible rfl)
        try simp only [Act.put, List.getElem_toArray, List.getElem_cons_zero, List.getElem_cons_succ, List.setIfInBounds_toArray, List.set_cons_zero, List.set_cons_succ]
        refine wpAnyG_take (i := 7) (v := ?_) rfl (by kernel_rfl) (by kernel_rfl) (by kernel_rfl) (by kernel_rfl) (fun _ _ _ h => h) s_2 (Or.inl ⟨by rfl, ?_⟩) ?_
        rotate_left
        · intro w' hSw
          go_simp
          try (with_reducible rfl)
        try simp only [Act.put, List.getElem_toArray, List.getElem_cons_zero, List.getElem_cons_succ, List.setIfInBounds_toArray, List.set_cons_zero, List.set_cons_succ]
        refine wpAnyG_take (i := 8) (v := ?_) rfl (by kernel_rfl) (by kernel_rfl) (by kernel_rfl) (by kernel_rfl) (fun _ _ _ h => h) s_2 (Or.inl ⟨by rfl, ?_⟩) ?_
        rotate_left
        · intro w' hSw
          go_simp
          try (with_reducible rfl)
        try simp only [Act.put, List.getElem_toArray, List.getElem_cons_zero, List.getElem_cons_succ, List.setIfInBounds_toArray, List.set_cons_zero, List.set_cons_succ]
        refine wpAnyG_take (i := 9) (v := ?_) rfl (by kernel_rfl) (by kernel_rfl) (by kernel_rfl) (by kernel_rfl) (fun _ _ _ h => h) s_2 (Or.inl ⟨by rfl, ?_⟩) ?_
        rotate_left
        · intro w' hSw
          go_simp
          try (with_reducible rfl)
        try simp only [Act.put, List.getElem_toArray, List.getElem_cons_zero, List.getElem_cons_succ, List.setIfInBounds_toArray, List.set_cons_zero, List.set_cons_succ]
        refine wpAnyG_takeW (i := 11) (v := ?_) rfl (by kernel_rfl) (by kernel_rfl) (by kernel_rfl) (fun _ _ _ h => h) (Or.inl ⟨by rfl, ?_⟩) ?_
        rotate_left
        · intro w' hSw
          go_simp
          try (with_reducible rfl)
        try simp only [Act.put, List.getElem_toArray, List.getElem_cons_zero, List.getElem_cons_succ, List.setIfInBounds_toArray, List.set_cons_zero, List.set_cons_succ]
        refine wpAnyG_one (i := 10) (by kernel_rfl) rfl s_2 (fun K' hK => ?_)
        simp only [List.getElem_toArray, List.getElem_cons_zero, List.getElem_cons_succ]
        go_simp
        go_at_call 134
        refine (HN1.out _ HSb.out.drew).mono ?_
        rintro e w5 ⟨m1, hm1, rfl, hs5, hm5⟩
        have HW5 := Lib.hid (HW4.out.drew.mid hm5 hs5 hB1 hR1 hl1 hRB)
        have ns_2 := HW5.out.2.2.1
        simp only []
        refine hK.out _ _ (Or.inr ns_2) ?_
        clear hK K'
        try simp only [Act.put, List.getElem_toArray, List.getElem_cons_zero, List.getElem_cons_succ, List.setIfInBounds_toArray, List.set_cons_zero, List.set_cons_succ]
        refine wpAnyG_one (i := 12) (by kernel_rfl) rfl ns_2 (fun K' hK => ?_)
        simp only [List.getElem_toArray, List.getElem_cons_zero, List.getElem_cons_succ]
        go_simp
        go_at_call 134
        refine (HN2.out _ hs5).mono ?_
        rintro e w6 ⟨m2, hm2, rfl, hs6, hm6⟩
        have HW6 := Lib.hid (HW5.out.mid hm6 hs6 hB1 hR1 hl1 hRB)
        have us_2 := HW6.out.2.2.1
        have usf : ∀ o, w6.frozen? ⟨w1.heap.size, o, none⟩ = false := HW6.out.2.2.2.1
        obtain ⟨k, hk, hkl⟩ := cut_index hm1 hm2
        have e1 : IntKind.i64.wrap ((m1 : Int) * (m2 : Int)) = (m1 : Int) * (m2 : Int) := IntWalk.i64_in _ ⟨by omega, by omega⟩
        have e2 : IntKind.i64.wrap ((L.length : Int) - (m1 : Int) * (m2 : Int)) = (k : Int) := by rw [IntWalk.i64_in _ ⟨by omega, by omega⟩]; exact hk
        have e3 : (k : Int) ≤ (L.length : Int) := by omega
        have e4 := Nat.le_trans hkl HCAP.out
        have e5 := Int.ofNat_le.2 e4
        have e6 : IntKind.i64.wrap (k : Int) = (k : Int) := IntWalk.i64_in _ ⟨by omega, by omega⟩
        have e7 : (0 : Int) ≤ (k : Int) := by omega
        have e10 : IntKind.i64.wrap 0 = 0 := IntWalk.i64_in _ ⟨by omega, by omega⟩
        try have e9 : k = 0 := by omega
        simp only []
        refine hK.out _ _ (Or.inr us_2) ?_
        clear hK K'
        try simp only [Act.put, List.getElem_toArray, List.getElem_cons_zero, List.getElem_cons_succ, List.setIfInBounds_toArray, List.set_cons_zero, List.set_cons_succ]
        refine wpAnyG_take (i := 13) (v := ?_) rfl (by kernel_rfl) (by kernel_rfl) (by kernel_rfl) (by kernel_rfl) (fun _ _ _ h => h) us_2 (Or.inl ⟨by rfl, ?_⟩) ?_
        rotate_left
        · intro w' hSw
          go_simp
          try (with_reducible rfl)
        try simp only [Act.put, List.getElem_toArray, List.getElem_cons_zero, List.getElem_cons_succ, List.setIfInBounds_toArray, List.set_cons_zero, List.set_cons_succ]
        refine wpAnyG_take (i := 14) (v := ?_) rfl (by kernel_rfl) (by kernel_rfl) (by kernel_rfl) (by kernel_rfl) (fun _ _ _ h => h) us_2 (Or.inl ⟨by rfl, ?_⟩) ?_
        rotate_left
        · intro w' hSw
          go_simp
          try (with_reducible rfl)
        try simp only [Act.put, List.getElem_toArray, List.getElem_cons_zero, List.getElem_cons_succ, List.setIfInBounds_toArray, List.set_cons_zero, List.set_cons_succ]
        refine wpAnyG_take (i := 15) (v := ?_) rfl (by kernel_rfl) (by kernel_rfl) (by kernel_rfl) (by kernel_rfl) (fun _ _ _ h => h) us_2 (Or.inl ⟨by rfl, ?_⟩) ?_
        rotate_left
        · intro w' hSw
          go_simp
          try (with_reducible rfl)
        try simp only [Act.put, List.getElem_toArray, List.getElem_cons_zero, List.getElem_cons_succ, List.setIfInBounds_toArray, List.set_cons_zero, List.set_cons_succ]
        refine wpAnyG_take (i := 16) (v := ?_) rfl (by kernel_rfl) (by kernel_rfl) (by kernel_rfl) (by kernel_rfl) (fun _ _ _ h => h) us_2 (Or.inl ⟨by rfl, ?_⟩) ?_
        rotate_left
        · intro w' hSw
          go_simp
          try (with_reducible rfl)
        try simp only [Act.put, List.getElem_toArray, List.getElem_cons_zero, List.getElem_cons_succ, List.setIfInBounds_toArray, List.set_cons_zero, List.set_cons_succ]
        refine wpAnyG_one (i := 17) (by kernel_rfl) rfl us_2 (fun K' hK => ?_)
        simp only [List.getElem_toArray, List.getElem_cons_zero, List.getElem_cons_succ]
        go_simp
        refine hK.out _ _ (Or.inl rfl) ?_
        clear hK K'
        try simp only [Act.put, List.getElem_toArray, List.getElem_cons_zero, List.getElem_cons_succ, List.setIfInBounds_toArray, List.set_cons_zero, List.set_cons_succ]
        refine wpAnyG_done (by kernel_rfl) ?_ _
        all_goals
          go_wp2_with fail
          go_meet
          have hTk : (L.take k).length = k := by simp; omega
          have hFk := Fresh.takeN HW6.out.2.2.2.2.2.2.2.2.1 k hkl
          have hst := HW6.out.store2 (L' := L.take k) hFk HW6.out.2.2.2.2.2.2.2.2.2.1 hRB hbB hwB HFAR.out
          rw [hTk] at hst
          first
            | exact ⟨rfl, k, hkl, hst⟩
            | exact ⟨rfl, 0, Nat.zero_le _, by rw [e9] at hst; exact hst⟩
    case rest =>
      clear hv'
      obtain ⟨rfl, k, hkL, hW⟩ := hcut
      obtain ⟨L2, hL2⟩ : ∃ L2, L2 = L.take k := ⟨_, rfl⟩
      rw [← hL2] at hW
      have hl2 : L2.length ≤ N := by rw [hL2]; simp; omega
      have HU2 : Hid (LogUp t' L2) := by
        rw [hL2]
        exact (HU.out.take k).mono ht1
      have HWe := Lib.hid hW
      have HSe : Hid (SrcAt b a c xs (K + 4) wc) := hW.2.2.2.2.2.2.2.2.2.2.1
      clear hW hL2 HU hkL
      obtain ⟨wf, hwf⟩ : ∃ x, x = wc := ⟨_, rfl⟩
      subst hwf
      go_wp2_with fail
      refine (srcNext_c b a c xs (K + 4) 3 _ HSe.out (by omega) (by omega) (by omega)).mono ?_
      rintro e w7 ⟨n5, hn5, rfl, hs7, hm7⟩
      have HW7 := Lib.hid (HWe.out.mid hm7 hs7 hB1 hR1 hl1 hRB)
      clear hs7 hm7
      have ht10 : (0 : Int) ≤ t' := by omega
      have ht11 : t' ≤ (T : Int) + 1 := by omega
      go_wp2_with fail
      go_loopw [6] (fun iv wr => ∃ (j : Nat) (L1 : List Ent) (aL : Option Addr) (cL : Nat), iv = .int .i64 j ∧ j ≤ 2 ∧ L1.length + j ≤ N + 2 ∧ Hid (LogUp t' L1) ∧ LatW b a c xs (K + 5 + (2 - j)) w w1.heap.size (w.heap.size + 1) (w.heap.size + 2) t' v' aL cL L1 wr) (fun i _ => (intOf i).toNat)
      case atStart =>
        refine ⟨n5, L2, a1, c1, rfl, by omega, by omega, HU2, ?_⟩
        obtain ⟨d0, d1, d2, d3, d4, d5, d6, d7, d8, d9, d10, d11, d12⟩ := HW7.out
        exact ⟨d0, d1, d2, d3, d4, d5, d6, d7, d8, d9, d10.mono (by omega), d11, d12⟩
      case round =>
        obtain ⟨j, L1, aL, cL, rfl, hj, hLj, hLU, hW⟩ := hrel
        have HW := Lib.hid hW
        obtain ⟨s_0, s_1, s_2, sf, r_0, r_1, r_2, rf, hfr, hne, hsrc, hmid, hBw⟩ := hW
        have HL := Lib.hid hfr
        have HNE := Lib.hid hne
        have HS := Lib.hid hsrc
        have HM := Lib.hid hmid
        have hz := hmid.size
        clear hfr hne hsrc hmid
        by_cases hgo : 0 < j ∧ 0 < t'
        · obtain ⟨hj0, hn0⟩ := hgo
          obtain ⟨i, rfl⟩ : ∃ i, j = i + 1 := ⟨j - 1, by omega⟩
          have k1 : (0 : Int) < (((i + 1 : Nat)) : Int) := by omega
          have HEN : Hid (∀ w' t, SrcAt b a c xs (K + 5 + (2 - (i + 1))) w' → Calls Try.prog 135 #[.pointer (some ⟨b, 0, none⟩), .int .i64 t] w' (EntryR b a c xs (K + 5 + (2 - (i + 1)) + 1) t w')) := Lib.hid (fun w' t h => srcEntry_c b a c xs _ t w' h (by omega))
          have hL40 : L1.length ≤ 42 := by omega
          have hAl : ∀ x, (wr.alloc x).cell? ⟨w1.heap.size, 2, none⟩ = some (.slice aL L1.length cL) := fun x => by
            rw [World.cell?_alloc_lt _ _ _ (by show w1.heap.size < _; omega)]
            exact s_2
          go_wp2_with fail
          go_region_law
            (first
              | (go_simp
                 go_at_call 135
                 refine (HEN.out _ t' HS.out.drew).mono ?_
                 rintro e w8 ⟨s, hsz, rfl, hs8, hm8⟩
                 have hz8 := hm8.size
                 simp only [World.size_drew] at hz8
                 have HW8 := Lib.hid (HW.out.drew.mid hm8 hs8 hB1 hR1 hl1 hRB)
                 have ts_2 : w8.cell? ⟨w1.heap.size, 2, none⟩ = some (.slice aL L1.length cL) := HW8.out.2.2.1
                 have hAl7 : ∀ x, (w8.alloc x).cell? ⟨w1.heap.size, 2, none⟩ = some (.slice aL L1.length cL) := fun x => by
                   rw [World.cell?_alloc_lt _ _ _ (by show w1.heap.size < _; omega)]
                   exact ts_2
                 have HL8 : Hid (Fresh entE 109 2 (w.heap.size + 2) (.slice aL L1.length cL) L1 w8) := HW8.out.2.2.2.2.2.2.2.2.1
                 simp only [])
              | (refine step_append_row (by rfl) (.tmp 48) (.tmp 53) 29 29 (by rfl) (w.heap.size + 2) 109 i0 (.agg #[.int .i64 0, .string ⟨#[]⟩]) 2 24 Try.underlying29 hi hz0 hz1 hz2 rfl (by decide) (.slice aL L1.length cL) L1 (by rfl) (HL8.out.alloc _) _ [(t', s)] (by rfl) (Src.ofBox (enc := entE) Try.underlying29 (fun _ => rfl) entOne (t', s) #[.int .i64 t', .string s] 109 rfl w8.heap.size (by simp)) (by simp; omega) (by simp; omega) ?_
                 intro a9 c9 w9 L9 hL9 hf9 hg9 hb9
                 have hz9 := hg9.size
                 simp only [World.size_alloc] at hz9
                 have HA9 := Lib.hid (HW8.out.appended hg9 (by omega) (by omega) hRB (by omega) HFAR.out)
                 have us_2 : w9.cell? ⟨w1.heap.size, 2, none⟩ = some (.slice aL L1.length cL) := HA9.out.2.2.1
                 have usf : ∀ o, w9.frozen? ⟨w1.heap.size, o, none⟩ = false := HA9.out.2.2.2.1))
          all_goals
            have HN9 : (Value.slice a9 L9.length c9).ownBlock ≠ some w1.heap.size := fun e => by
              rcases hb9 with h | h
              · rw [h] at e
                exact HNE.out e
              · rw [h] at e
                have h2 := Option.some.inj e
                rw [World.size_alloc] at h2
                omega
            have hL9' := hL9.out
            have HU9 : Hid (LogUp t' L9) := by
              rw [hL9']
              exact hLU.out.snoc (by omega) (Int.le_refl _) hsz
            have hl9 : L9.length + i ≤ N + 2 := by
              rw [hL9']
              simp
              omega
            obtain ⟨d0, d1, d2, d3, d4, d5, d6, d7, d8, d9, d10⟩ := HA9.out
            have HWf : Hid (LatW b a c xs (K + 5 + (2 - i)) w w1.heap.size (w.heap.size + 1) (w.heap.size + 2) t' v' a9 c9 L9 (w9.setCell ⟨w1.heap.size, 2, none⟩ (.slice a9 L9.length c9))) := Lib.hid (LatW.fin d0 d1 d2 d3 d4 d5 d6 d7 (d8.mono (by omega)) d9 d10 hf9 HN9 hRB hbB hwB HFAR.out)
            clear hL9' d0 d1 d2 d3 d4 d5 d6 d7
            go_wp2_with fail
            go_roundw
            case rel => exact ⟨i, L9, a9, c9, by go_num, by omega, hl9, HU9, HWf.out⟩
            case measure => first | (simp [intOf]; done) | (simp [intOf]; omega)
        · rcases Nat.eq_zero_or_pos j with hj0 | hj0
          · subst hj0
            go_wp2_with fail
            refine bodyPost_ret (v := .agg #[.int .i64 t', .int .i64 v', .slice aL L1.length cL]) (by simp [results, Try.results76, go_sem, r_0, r_1, r_2, rf, s_0, s_1, s_2, hneA, hneB]) rfl ?_
            refine ⟨t', v', L1, aL, cL, rfl, ⟨ht10, by omega, hv3, hv4, by omega, hLU.out⟩, ht1, ?_, ?_, ?_⟩
            · refine Fresh.mono (B := w.heap.size + 2) ?_ (by omega)
              repeat (first | (with_reducible exact HL.out) | (with_reducible refine Fresh.setCell ?_ ?_ _; rotate_left; ((try simp) <;> (try omega))))
            · refine SrcAt.mono (K := K + 5 + (2 - 0)) ?_ (by omega)
              repeat (first | (with_reducible exact HS.out) | (with_reducible refine SrcAt.setCell ?_ ?_ ?_ _; rotate_left; (show ¬ w.heap.size + 1 = b; omega); (exact fun b' o e => (HFAR.out b' o e).imp id (fun h => by show b' ≠ w.heap.size + 1; omega))))
            · repeat (first | (with_reducible exact HM.out) | (with_reducible refine Mid.setNew ?_ ?_ _; rotate_left; (show w.heap.size ≤ w.heap.size + 1; omega)))
          · have hn0 : t' = 0 := by
              rcases Int.lt_or_le 0 t' with h | h
              · exact absurd ⟨hj0, h⟩ hgo
              · omega
            have k1 : (0 : Int) < (j : Int) := by omega
            have k2 : ¬ (0 : Int) < t' := by omega
            have k3 : t' ≤ 0 := by omega
            go_wp2_with fail
            refine bodyPost_ret (v := .agg #[.int .i64 t', .int .i64 v', .slice aL L1.length cL]) (by simp [results, Try.results76, go_sem, r_0, r_1, r_2, rf, s_0, s_1, s_2, hneA, hneB, hn0]) rfl ?_
            refine ⟨t', v', L1, aL, cL, rfl, ⟨ht10, by omega, hv3, hv4, by omega, hLU.out⟩, ht1, ?_, ?_, ?_⟩
            · refine Fresh.mono (B := w.heap.size + 2) ?_ (by omega)
              repeat (first | (with_reducible exact HL.out) | (with_reducible refine Fresh.setCell ?_ ?_ _; rotate_left; ((try simp) <;> (try omega))))
            · refine SrcAt.mono (K := K + 5 + (2 - j)) ?_ (by omega)
              repeat (first | (with_reducible exact HS.out) | (with_reducible refine SrcAt.setCell ?_ ?_ ?_ _; rotate_left; (show ¬ w.heap.size + 1 = b; omega); (exact fun b' o e => (HFAR.out b' o e).imp id (fun h => by show b' ≠ w.heap.size + 1; omega))))
            · repeat (first | (with_reducible exact HM.out) | (with_reducible refine Mid.setNew ?_ ?_ _; rotate_left; (show w.heap.size ≤ w.heap.size + 1; omega)))
end
section
open Go.RowKit
def DrawR (T N : Nat) (t0 : Int) (w : World) (e : Ending) (w' : World) : Prop :=
  ∃ t v L aL cL, e = .returned (.agg #[.int .i64 t, .int .i64 v, .slice aL (List.length L) cL]) ∧ DrawnSt T N t v L ∧ t0 ≤ t ∧ Fresh entE 109 2 w.heap.size (.slice aL L.length cL) L w' ∧ Below w.heap.size w w'
set_option maxRecDepth 100000 in
set_option maxHeartbeats 2000000 in
theorem l00Source_c (a : Option Addr) (c : Nat) (xs : List UInt8) (w : World) (ha : Sl byteE 1 w a xs) (hl : xs.length ≤ 1048576) :
    Calls Try.prog 74 #[.slice a xs.length c] w fun e w' => e = .returned (.pointer (some ⟨w.heap.size, 0, none⟩)) ∧ SrcAt w.heap.size a c xs 0 w' ∧ Below w.heap.size w w' := by
  have HA := Lib.hid ha
  clear ha
  have hm : xs.length % 1000 < 1000 := Nat.mod_lt _ (by omega)
  have HM : Hid (((xs.length : Int) % 1000) = ((xs.length % 1000 : Nat) : Int)) := Lib.hid (by omega)
  go_enter Try.func74, Try.ntmps74
  go_wp2_with fail
  go_ret
  rw [HM.out]
  generalize xs.length % 1000 = q at hm ⊢
  refine ⟨rfl, ⟨0, q, hl, Nat.le_refl _, by omega, World.cell?_alloc_new _ _ _ _, World.cell?_alloc_new _ _ _ _, World.cell?_alloc_new _ _ _ _, fun o => by simp [go_sem], HA.out.alloc _, fun b' o e => ?_, by simp⟩, (Below.refl _ _).alloc (Nat.le_refl _) _⟩
  rcases HA.out with h | ⟨b2, o2, he, hlt, _⟩
  · exact .inl h
  · rw [he] at e
    cases e
    exact .inr (by omega)
set_option maxRecDepth 100000 in
set_option maxHeartbeats 4000000 in
theorem stateOf_c (a : Option Addr) (c : Nat) (xs : List UInt8) (w : World) (ha : Sl byteE 1 w a xs) (hl : xs.length ≤ 1048576) :
    Calls Try.prog 23 #[.slice a xs.length c] w (DrawR 3 5 0 w) := by
  have HA := Lib.hid (ha.alloc (.cells #[.int .i64 0, .int .i64 0, .slice none 0 0] 31))
  clear ha
  go_enter Try.func23, Try.ntmps23
  go_wp2_with fail
  refine (l00Source_c a c xs _ HA.out hl).mono ?_
  rintro e w1 ⟨rfl, hs1, hb1⟩
  rw [World.size_alloc] at hs1 ⊢
  have hz1 := hb1.size
  rw [World.size_alloc] at hz1
  have HS1 := Lib.hid hs1
  have HB1 : Hid (Below w.heap.size w w1) := ((Below.refl _ _).alloc (Nat.le_refl _) _).trans (hb1.mono (by rw [World.size_alloc]; omega))
  have HB1' := Lib.hid hb1
  clear hs1 hb1
  go_wp2_with fail
  refine (srcState_c (w.heap.size + 1) a c xs 0 _ HS1.out (by omega)).mono ?_
  rintro e w2 ⟨t, v, L, aL, cL, rfl, hd, hf, hs2, hm2⟩
  have hz2 := hm2.size
  have HD := Lib.hid hd
  have HB2 : Hid (Below w.heap.size w w2) := HB1.out.trans (hm2.below (by omega) (by omega))
  have HF : Hid (Fresh entE 109 2 (w.heap.size + 1) (.slice aL L.length cL) L w2) := hf.mono (by omega)
  have q_0 : w2.cell? ⟨w.heap.size, 0, none⟩ = some (.int .i64 0) := (hm2.cell (p := ⟨w.heap.size, 0, none⟩) (by show w.heap.size < _; omega) (.inl (by show w.heap.size < _; omega))).trans ((HB1'.out.cell (p := ⟨w.heap.size, 0, none⟩) (by show w.heap.size < _; rw [World.size_alloc]; omega)).trans (World.cell?_alloc_new _ _ _ _))
  have q_1 : w2.cell? ⟨w.heap.size, 1, none⟩ = some (.int .i64 0) := (hm2.cell (p := ⟨w.heap.size, 1, none⟩) (by show w.heap.size < _; omega) (.inl (by show w.heap.size < _; omega))).trans ((HB1'.out.cell (p := ⟨w.heap.size, 1, none⟩) (by show w.heap.size < _; rw [World.size_alloc]; omega)).trans (World.cell?_alloc_new _ _ _ _))
  have q_2 : w2.cell? ⟨w.heap.size, 2, none⟩ = some (.slice none 0 0) := (hm2.cell (p := ⟨w.heap.size, 2, none⟩) (by show w.heap.size < _; omega) (.inl (by show w.heap.size < _; omega))).trans ((HB1'.out.cell (p := ⟨w.heap.size, 2, none⟩) (by show w.heap.size < _; rw [World.size_alloc]; omega)).trans (World.cell?_alloc_new _ _ _ _))
  have q_f : ∀ o, w2.frozen? ⟨w.heap.size, o, none⟩ = false := fun o => (hm2.frozen (p := ⟨w.heap.size, o, none⟩) (by show w.heap.size < _; omega) (.inl (by show w.heap.size < _; omega))).trans ((HB1'.out.frozen (p := ⟨w.heap.size, o, none⟩) (by show w.heap.size < _; rw [World.size_alloc]; omega)).trans (by simp [go_sem]))
  clear hd hf hs2 hm2
  go_wp2_with fail
  refine bodyPost_ret (v := .agg #[.int .i64 t, .int .i64 v, .slice aL L.length cL]) (by simp [results, Try.results23, go_sem, q_0, q_1, q_2, q_f]) rfl ?_
  refine ⟨t, v, L, aL, cL, rfl, HD.out, HD.out.1, ?_, ?_⟩
  · refine Fresh.mono (B := w.heap.size + 1) ?_ (by omega)
    repeat (first | (with_reducible exact HF.out) | (with_reducible refine Fresh.setCell ?_ ?_ _; rotate_left; ((try simp) <;> (try omega))))
  · repeat (first | (with_reducible exact HB2.out) | (with_reducible refine Below.setCell ?_ ?_ _; rotate_left; ((try simp) <;> (try omega))))
set_option maxRecDepth 100000 in
set_option maxHeartbeats 4000000 in
theorem laterOf_c (a : Option Addr) (c : Nat) (xs : List UInt8) (t v : Int) (L : List Ent) (aS : Option Addr) (cS T N : Nat) (w : World) (ha : Sl byteE 1 w a xs) (hl : xs.length ≤ 1048576) (hd : DrawnSt T N t v L) (hT : T ≤ 100) (hN : N ≤ 40) (hS : Sl entE 2 w aS L) :
    Calls Try.prog 24 #[.slice a xs.length c, .agg #[.int .i64 t, .int .i64 v, .slice aS L.length cS]] w (DrawR (T + 1) (N + 2) t w) := by
  have HA := Lib.hid ((ha.alloc (.cells #[.int .i64 t, .int .i64 v, .slice aS L.length cS] 31)).alloc (.cells #[.int .i64 0, .int .i64 0, .slice none 0 0] 31))
  have HL := Lib.hid ((hS.alloc (.cells #[.int .i64 t, .int .i64 v, .slice aS L.length cS] 31)).alloc (.cells #[.int .i64 0, .int .i64 0, .slice none 0 0] 31))
  have HD0 := Lib.hid hd
  clear ha hS hd
  go_enter Try.func24, Try.ntmps24
  go_wp2_with fail
  go_region_held3 (fun w' => w'.cell? ⟨w.heap.size, 0, none⟩ = some (.int .i64 t) ∧ w'.cell? ⟨w.heap.size, 1, none⟩ = some (.int .i64 v) ∧ w'.cell? ⟨w.heap.size, 2, none⟩ = some (.slice aS L.length cS))
    (first | ((repeat' apply And.intro) <;> (first | (simp [go_sem]; done) | (simp [go_sem, p_0, p_1, p_2]; done) | (simp [go_sem, s_0, s_1, s_2]; done))) | go_keep)
    (first
      | (go_at_call 74
         refine (l00Source_c a c xs _ HA.out.drew hl).mono ?_
         rintro e w1 ⟨rfl, hs1, hb1⟩
         rw [World.size_drew, World.size_alloc, World.size_alloc] at hs1 ⊢
         have hz1 := hb1.size
         rw [World.size_drew, World.size_alloc, World.size_alloc] at hz1
         have p_0 : w1.cell? ⟨w.heap.size, 0, none⟩ = some (.int .i64 t) := (hb1.cell (p := ⟨w.heap.size, 0, none⟩) (by show w.heap.size < _; rw [World.size_drew, World.size_alloc, World.size_alloc]; omega)).trans (by simp [go_sem])
         have p_1 : w1.cell? ⟨w.heap.size, 1, none⟩ = some (.int .i64 v) := (hb1.cell (p := ⟨w.heap.size, 1, none⟩) (by show w.heap.size < _; rw [World.size_drew, World.size_alloc, World.size_alloc]; omega)).trans (by simp [go_sem])
         have p_2 : w1.cell? ⟨w.heap.size, 2, none⟩ = some (.slice aS L.length cS) := (hb1.cell (p := ⟨w.heap.size, 2, none⟩) (by show w.heap.size < _; rw [World.size_drew, World.size_alloc, World.size_alloc]; omega)).trans (by simp [go_sem])
         have HL1 := Lib.hid (HL.out.drew.keep hb1)
         have HS1 := Lib.hid hs1)
      | (go_at_call 76
         refine (srcLater_c (w.heap.size + 1 + 1) a c xs 0 t v L aS cS T N _ HS1.out (by omega) HD0.out hT hN HL1.out).mono ?_
         rintro e w2 ⟨t', v', L', aL, cL, rfl, hd, hle, hf, hs2, hm2⟩
         have hz2 := hm2.size
         have s_0 : w2.cell? ⟨w.heap.size, 0, none⟩ = some (.int .i64 t) := (hm2.cell (p := ⟨w.heap.size, 0, none⟩) (by show w.heap.size < _; omega) (.inl (by show w.heap.size < _; omega))).trans p_0
         have s_1 : w2.cell? ⟨w.heap.size, 1, none⟩ = some (.int .i64 v) := (hm2.cell (p := ⟨w.heap.size, 1, none⟩) (by show w.heap.size < _; omega) (.inl (by show w.heap.size < _; omega))).trans p_1
         have s_2 : w2.cell? ⟨w.heap.size, 2, none⟩ = some (.slice aS L.length cS) := (hm2.cell (p := ⟨w.heap.size, 2, none⟩) (by show w.heap.size < _; omega) (.inl (by show w.heap.size < _; omega))).trans p_2
         have r_0 : w2.cell? ⟨w.heap.size + 1, 0, none⟩ = some (.int .i64 0) := (hm2.cell (p := ⟨w.heap.size + 1, 0, none⟩) (by show w.heap.size + 1 < _; omega) (.inl (by show w.heap.size + 1 < _; omega))).trans ((hb1.cell (p := ⟨w.heap.size + 1, 0, none⟩) (by show w.heap.size + 1 < _; rw [World.size_drew, World.size_alloc, World.size_alloc]; omega)).trans (by simp [go_sem]))
         have r_1 : w2.cell? ⟨w.heap.size + 1, 1, none⟩ = some (.int .i64 0) := (hm2.cell (p := ⟨w.heap.size + 1, 1, none⟩) (by show w.heap.size + 1 < _; omega) (.inl (by show w.heap.size + 1 < _; omega))).trans ((hb1.cell (p := ⟨w.heap.size + 1, 1, none⟩) (by show w.heap.size + 1 < _; rw [World.size_drew, World.size_alloc, World.size_alloc]; omega)).trans (by simp [go_sem]))
         have r_2 : w2.cell? ⟨w.heap.size + 1, 2, none⟩ = some (.slice none 0 0) := (hm2.cell (p := ⟨w.heap.size + 1, 2, none⟩) (by show w.heap.size + 1 < _; omega) (.inl (by show w.heap.size + 1 < _; omega))).trans ((hb1.cell (p := ⟨w.heap.size + 1, 2, none⟩) (by show w.heap.size + 1 < _; rw [World.size_drew, World.size_alloc, World.size_alloc]; omega)).trans (by simp [go_sem]))
         have rf : ∀ o, w2.frozen? ⟨w.heap.size + 1, o, none⟩ = false := fun o => (hm2.frozen (p := ⟨w.heap.size + 1, o, none⟩) (by show w.heap.size + 1 < _; omega) (.inl (by show w.heap.size + 1 < _; omega))).trans ((hb1.frozen (p := ⟨w.heap.size + 1, o, none⟩) (by show w.heap.size + 1 < _; rw [World.size_drew, World.size_alloc, World.size_alloc]; omega)).trans (by simp [go_sem]))))
  all_goals
    have HB2 : Hid (Below w.heap.size w w2) := ((((Below.refl w.heap.size w).alloc (Nat.le_refl _) _).alloc (by rw [World.size_alloc]; omega) _).drew.trans (hb1.mono (by rw [World.size_drew, World.size_alloc, World.size_alloc]; omega))).trans (hm2.below (by omega) (by omega))
    have HF : Hid (Fresh entE 109 2 (w.heap.size + 2) (.slice aL L'.length cL) L' w2) := hf.mono (by omega)
    go_wp2_with fail
    refine bodyPost_ret (v := .agg #[.int .i64 t', .int .i64 v', .slice aL L'.length cL]) (by simp [results, Try.results24, go_sem, r_0, r_1, r_2, rf]) rfl ?_
    refine ⟨t', v', L', aL, cL, rfl, hd, hle, ?_, ?_⟩
    · refine Fresh.mono (B := w.heap.size + 2) ?_ (by omega)
      repeat (first | (with_reducible exact HF.out) | (with_reducible refine Fresh.setCell ?_ ?_ _; rotate_left; ((try simp) <;> (try omega))))
    · repeat (first | (with_reducible exact HB2.out) | (with_reducible refine Below.setCell ?_ ?_ _; rotate_left; ((try simp) <;> (try omega))))
end
end Go.Proofs.Ytmdjcoeijlnloaa
