/- Drawn outputs and parsers; the laws' comparisons where both sides are the same. No conditions but sizes. -/
import Derived.Test.YtlhhlmalihajcaaDoorScalar
import Derived.Test.YtlhhlmalihajcaaDoorSl
import Derived.Test.YtlhhlmalihajcaaDoorMid
import Derived.Lib.Hide
import Derived.BigQuiet
import Derived.Test.YtlhhlmalihajcaaDoorQaC
import Derived.Test.YtlhhlmalihajcaaDoorQLo
namespace Go.Proofs.YtlhhlmalihajcaaDoor
set_option linter.unusedVariables false
set_option linter.unusedSimpArgs false
section
open Go.RowKit
/-- A source of choices in block b, which has been asked K times at most. -/
def SrcAt (b : Nat) (a : Option Addr) (c : Nat) (xs : List UInt8) (K : Nat) (w : World) : Prop :=
  ∃ (p seed : Nat), xs.length ≤ 1048576 ∧ p ≤ K ∧ seed < 2147483648 ∧ w.cell? ⟨b, 0, none⟩ = some (.slice a xs.length c) ∧ w.cell? ⟨b, 1, none⟩ = some (.int .i64 p) ∧ w.cell? ⟨b, 2, none⟩ = some (.int .i64 seed) ∧ (∀ o, w.frozen? ⟨b, o, none⟩ = false) ∧ Sl byteE 1 w a xs ∧ (∀ b' o, a = some ⟨b', o, none⟩ → xs = [] ∨ b' ≠ b) ∧ b < w.heap.size
def ByteR (b : Nat) (a : Option Addr) (c : Nat) (xs : List UInt8) (K m : Nat) (w : World) (e : Ending) (w' : World) : Prop :=
  ∃ n : Nat, n < m ∧ e = .returned (.int .i64 n) ∧ SrcAt b a c xs K w' ∧ Mid b (b + 1) w w'
theorem Sl.setCellE {α : Type} {enc : α → List Value} {sz : Nat} {w : World} {a : Option Addr} {xs : List α} {p : Addr} (h : Sl enc sz w a xs) (hp : ∀ b off, a = some ⟨b, off, none⟩ → xs = [] ∨ b ≠ p.block) (u : Value) : Sl enc sz (w.setCell p u) a xs := by
  by_cases hx : xs = []
  · exact .inl hx
  · exact h.setCell (fun b off e => (hp b off e).resolve_left hx) u
theorem SrcAt.below {b K c : Nat} {a : Option Addr} {xs : List UInt8} {w w' : World} (h : SrcAt b a c xs K w) (hb : Below w.heap.size w w') : SrcAt b a c xs K w' := by
  obtain ⟨p, seed, h1, h2, h3, c0, c1, c2, hf, hs, hne, hb0⟩ := h
  have hz := hb.size
  exact ⟨p, seed, h1, h2, h3, (hb.cell (p := ⟨b, 0, none⟩) hb0).trans c0, (hb.cell (p := ⟨b, 1, none⟩) hb0).trans c1, (hb.cell (p := ⟨b, 2, none⟩) hb0).trans c2, fun o => (hb.frozen (p := ⟨b, o, none⟩) hb0).trans (hf o), hs.keep hb, hne, by omega⟩
theorem SrcAt.mono {b K K' c : Nat} {a : Option Addr} {xs : List UInt8} {w : World} (h : SrcAt b a c xs K w) (hK : K ≤ K') : SrcAt b a c xs K' w := by
  obtain ⟨p, seed, h1, h2, h3, c0, c1, c2, hf, hs, hne, hb0⟩ := h
  exact ⟨p, seed, h1, by omega, h3, c0, c1, c2, hf, hs, hne, hb0⟩
theorem Mid.store {b o : Nat} {u : Value} {w : World} : Mid b (b + 1) w (w.setCell ⟨b, o, none⟩ u) := (Mid.refl b (b + 1) w).setCell (Nat.le_refl _) (by show b < b + 1; omega) u
theorem Mid.drewN {lo hi : Nat} {a w : World} (h : Mid lo hi a w) (n : Nat) : Mid lo hi a (w.drewN n) := h.trans ⟨rfl, rfl, rfl, Nat.le_refl _, fun _ _ _ => rfl⟩
theorem Mid.drew {lo hi : Nat} {a w : World} (h : Mid lo hi a w) : Mid lo hi a w.drew := h.trans ⟨rfl, rfl, rfl, Nat.le_refl _, fun _ _ _ => rfl⟩
theorem SrcAt.lt {b K c : Nat} {a : Option Addr} {xs : List UInt8} {w : World} (h : SrcAt b a c xs K w) : b < w.heap.size := by
  obtain ⟨p, seed, h1, h2, h3, c0, c1, c2, hf, hs, hne, hb0⟩ := h
  exact hb0
/-- The code's bytes lie in memory that is there. -/
theorem SrcAt.far {b K c : Nat} {a : Option Addr} {xs : List UInt8} {w : World} (h : SrcAt b a c xs K w) : ∀ b' o, a = some ⟨b', o, none⟩ → xs = [] ∨ b' < w.heap.size := by
  obtain ⟨p, seed, h1, h2, h3, c0, c1, c2, hf, hs, hne, hb0⟩ := h
  intro b' o he
  rcases hs with hs | ⟨b2, o2, he2, hlt, _⟩
  · exact .inl hs
  · rw [he] at he2
    cases he2
    exact .inr hlt
theorem SrcAt.setCell {b K c : Nat} {a : Option Addr} {xs : List UInt8} {w : World} (h : SrcAt b a c xs K w) {p : Addr} (hp : ¬ p.block = b) (ha : ∀ b' o, a = some ⟨b', o, none⟩ → xs = [] ∨ b' ≠ p.block) (u : Value) : SrcAt b a c xs K (w.setCell p u) := by
  obtain ⟨q, seed, h1, h2, h3, c0, c1, c2, hf, hs, hne, hb0⟩ := h
  have hc : ∀ j, (w.setCell p u).cell? ⟨b, j, none⟩ = w.cell? ⟨b, j, none⟩ := fun j => World.cell?_setCell_other _ _ _ _ (fun e => hp (by first | exact congrArg Addr.block e | exact (congrArg Addr.block e).symm))
  have hfz : ∀ o, (w.setCell p u).frozen? ⟨b, o, none⟩ = w.frozen? ⟨b, o, none⟩ := fun o => by simp [go_sem]
  refine ⟨q, seed, h1, h2, h3, (hc 0).trans c0, (hc 1).trans c1, (hc 2).trans c2, fun o => (hfz o).trans (hf o), ?_, hne, by simpa using hb0⟩
  rcases hs with hs | ⟨b2, o2, he2, hlt, hcc⟩
  · exact .inl hs
  · rcases ha b2 o2 he2 with h | h
    · exact .inl h
    · exact (Sl.setCell (.inr ⟨b2, o2, he2, hlt, hcc⟩) (fun b' o e => by rw [he2] at e; cases e; exact h) u)
theorem Mid.setNew {lo hi : Nat} {a w : World} (h : Mid lo hi a w) {p : Addr} (hp : a.heap.size ≤ p.block) (u : Value) : Mid lo hi a (w.setCell p u) :=
  ⟨h.os, h.tape, h.output, by simpa [World.setCell] using h.size, fun k hk hd => (Below.heap_setCell _ _ _ _ (by omega)).trans (h.block k hk hd)⟩
theorem Sl.boxM {α : Type} {enc : α → List Value} {sz : Nat} {w : World} (hs : ∀ x, (enc x).length = sz) (xs : List α) (cs : Array Value) (T : TypeId) (hc : cs.toList = xs.flatMap enc) (b : Nat) (hb : b = w.heap.size) : Sl enc sz (w.alloc (.cells cs T)) (some ⟨b, 0, none⟩) xs := by
  subst hb
  refine .inr ⟨w.heap.size, 0, rfl, by simp, fun i hi j hj => ?_⟩
  rw [World.cell?_alloc_new, ← Array.getElem?_toList, hc, Nat.zero_add]
  exact flat_get enc sz hs xs i hi j hj
set_option maxRecDepth 100000 in
set_option maxHeartbeats 8000000 in
theorem srcByte_c (b : Nat) (a : Option Addr) (c : Nat) (xs : List UInt8) (K : Nat) (w : World) (h : SrcAt b a c xs K w) (hK : K ≤ 1099511627776) :
    Calls Tryd.prog 81 #[.pointer (some ⟨b, 0, none⟩)] w (ByteR b a c xs (K + 1) 256 w) := by
  obtain ⟨p, seed, h1, h2, h3, c0, c1, c2, hf, hs, hne, hb0⟩ := h
  by_cases hp : p + 1 ≤ xs.length
  · obtain ⟨bF, oF, rfl, hbF, hcF⟩ := hs.at (i := p) (by omega)
    have hneb := (hne bF oF rfl).resolve_left (fun h => by rw [h] at hp; simp at hp)
    have hneb' : ¬ b = bF := fun h => hneb h.symm
    have d := hcF p (by omega) 0 (by omega)
    simp only [byteE, Nat.mul_one, Nat.add_zero, List.getElem?_cons_zero] at d
    have hn := xs[p].toNat_lt
    generalize xs[p].toNat = n at *
    have g1 : decide ((p : Int) + 1 ≤ (xs.length : Int)) = true := by simp; omega
    have g2 : (p : Int) + 1 ≤ (xs.length : Int) := by omega
    have e1 : wrap64 ((p : Int) + 1) = (p : Int) + 1 := IntWalk.wrap64_in _ ⟨by omega, by omega⟩
    have e2 : IntKind.i64.wrap ((p : Int) + 1 - 1) = (p : Int) := by rw [IntWalk.i64_in _ ⟨by omega, by omega⟩]; omega
    have e3 : IntKind.i64.wrap ((seed : Int) * 31) = (seed : Int) * 31 := IntWalk.i64_in _ ⟨by omega, by omega⟩
    have e4 : IntKind.i64.wrap ((seed : Int) * 31 + (n : Int)) = (seed : Int) * 31 + (n : Int) := IntWalk.i64_in _ ⟨by omega, by omega⟩
    have e5 : IntKind.i64.wrap ((seed : Int) * 31 + (n : Int) + 7) = (seed : Int) * 31 + (n : Int) + 7 := IntWalk.i64_in _ ⟨by omega, by omega⟩
    have HS := Lib.hid hs
    have HNE := Lib.hid hne
    clear hs hne hcF
    go_enter Tryd.func81, Tryd.ntmps81
    go_wp2_with fail
    go_quiet (fail)
    go_wp2_with fail
    go_region
    go_wp2_with fail
    go_quiet (fail)
    go_wp2_with fail
    go_ret
    refine ⟨n, hn, rfl, ⟨p + 1, (seed * 31 + n + 7) % 2147483648, h1, by omega, by omega, ?_, ?_, ?_, ?_, ?_, HNE.out, ?_⟩, ?_⟩
    · simp [go_sem, c0]
    · simp [go_sem, c1]
    · simp [go_sem, c2]
    · intro o
      simp [go_sem, hf]
    · repeat (first | (with_reducible exact HS.out) | (with_reducible refine Sl.setCellE ?_ HNE.out _) | (with_reducible refine Sl.drewN ?_ _) | (with_reducible refine Sl.drew ?_))
    · simpa using hb0
    · repeat (first | (with_reducible exact Mid.refl _ _ _) | (with_reducible refine Mid.setCell ?_ ?_ ?_ _; rotate_left; (show b ≤ b; omega); (show b < b + 1; omega)) | (with_reducible refine Mid.drewN ?_ _) | (with_reducible refine Mid.drew ?_))
  · have HS := Lib.hid hs
    have HNE := Lib.hid hne
    clear hs hne
    have g1 : decide ((p : Int) + 1 ≤ (xs.length : Int)) = false := by simp; omega
    have g2 : ¬ (p : Int) + 1 ≤ (xs.length : Int) := by omega
    have e1 : wrap64 ((p : Int) + 1) = (p : Int) + 1 := IntWalk.wrap64_in _ ⟨by omega, by omega⟩
    by_cases hb3 : 3000 < p + 1
    · have g3 : (3000 : Int) < (p : Int) + 1 := by omega
      go_enter Tryd.func81, Tryd.ntmps81
      go_wp2_with fail
      go_quiet (fail)
      go_wp2_with fail
      go_ret
      refine ⟨0, by omega, rfl, ⟨p + 1, seed, h1, by omega, by omega, ?_, ?_, ?_, ?_, ?_, HNE.out, ?_⟩, ?_⟩
      · simp [go_sem, c0]
      · simp [go_sem, c1]
      · simp [go_sem, c2]
      · intro o
        simp [go_sem, hf]
      · repeat (first | (with_reducible exact HS.out) | (with_reducible refine Sl.setCellE ?_ HNE.out _) | (with_reducible refine Sl.drewN ?_ _) | (with_reducible refine Sl.drew ?_))
      · simpa using hb0
      · repeat (first | (with_reducible exact Mid.refl _ _ _) | (with_reducible refine Mid.setCell ?_ ?_ ?_ _; rotate_left; (show b ≤ b; omega); (show b < b + 1; omega)) | (with_reducible refine Mid.drewN ?_ _) | (with_reducible refine Mid.drew ?_))
    · have g3 : ¬ (3000 : Int) < (p : Int) + 1 := by omega
      go_enter Tryd.func81, Tryd.ntmps81
      go_wp2_with fail
      go_quiet (fail)
      go_wp2_with fail
      go_ret
      refine ⟨(seed * 1103515245 + 12345) % 2147483648 / 65536 % 256, by omega, congrArg (fun z => Ending.returned (.int .i64 z)) (by simp), ⟨p + 1, (seed * 1103515245 + 12345) % 2147483648, h1, by omega, by omega, ?_, ?_, ?_, ?_, ?_, HNE.out, ?_⟩, ?_⟩
      · simp [go_sem, c0]
      · simp [go_sem, c1]
      · simp [go_sem, c2]
      · intro o
        simp [go_sem, hf]
      · repeat (first | (with_reducible exact HS.out) | (with_reducible refine Sl.setCellE ?_ HNE.out _) | (with_reducible refine Sl.drewN ?_ _) | (with_reducible refine Sl.drew ?_))
      · simpa using hb0
      · repeat (first | (with_reducible exact Mid.refl _ _ _) | (with_reducible refine Mid.setCell ?_ ?_ ?_ _; rotate_left; (show b ≤ b; omega); (show b < b + 1; omega)) | (with_reducible refine Mid.drewN ?_ _) | (with_reducible refine Mid.drew ?_))
set_option maxRecDepth 100000 in
set_option maxHeartbeats 4000000 in
theorem srcNext_c (b : Nat) (a : Option Addr) (c : Nat) (xs : List UInt8) (K n : Nat) (w : World) (h : SrcAt b a c xs K w) (hK : K ≤ 1099511627776) (hn : 1 ≤ n) (hn2 : n ≤ 256) :
    Calls Tryd.prog 60 #[.pointer (some ⟨b, 0, none⟩), .int .i64 n] w (ByteR b a c xs (K + 1) n w) := by
  have HB := Lib.hid (srcByte_c b a c xs K w h hK)
  have HS := Lib.hid h
  clear h
  by_cases h1 : n = 1
  · subst h1
    go_enter Tryd.func60, Tryd.ntmps60
    go_wp2_with fail
    go_ret
    exact ⟨0, by omega, rfl, HS.out.mono (by omega), Mid.refl _ _ _⟩
  · have g1 : (1 : Int) < (n : Int) := by omega
    have g2 : (n : Int) ≤ 256 := by omega
    have g3 : ¬ n = 0 := by omega
    go_enter Tryd.func60, Tryd.ntmps60
    go_wp2_with fail
    refine HB.out.mono ?_
    rintro e w1 ⟨m, hm, rfl, hs1, hm1⟩
    have HS1 := Lib.hid hs1
    have HM1 := Lib.hid hm1
    clear hs1 hm1
    go_wp2_with fail
    go_ret
    refine ⟨m % n, Nat.mod_lt _ (by omega), congrArg (fun z => Ending.returned (.int .i64 z)) (by simp), HS1.out, HM1.out⟩
def PickR (b : Nat) (a : Option Addr) (c : Nat) (xs : List UInt8) (K : Nat) (L : List ByteArray) (w : World) (e : Ending) (w' : World) : Prop :=
  ∃ s, s ∈ L ∧ e = .returned (.string s) ∧ SrcAt b a c xs K w' ∧ Mid b (b + 1) w w'
set_option maxRecDepth 100000 in
set_option maxHeartbeats 4000000 in
theorem srcPick_c (b : Nat) (a : Option Addr) (c : Nat) (xs : List UInt8) (K : Nat) (a1 : Option Addr) (c1 : Nat) (L : List ByteArray) (w : World) (h : SrcAt b a c xs K w) (hK : K ≤ 1099511627776) (ha : Sl strE 1 w a1 L) (hne : ∀ b' o, a1 = some ⟨b', o, none⟩ → b' ≠ b) (hl : 1 ≤ L.length) (hl2 : L.length ≤ 256) :
    Calls Tryd.prog 59 #[.pointer (some ⟨b, 0, none⟩), .slice a1 L.length c1] w (PickR b a c xs (K + 1) L w) := by
  have HB := Lib.hid (srcNext_c b a c xs K L.length w h hK hl hl2)
  obtain ⟨bF, oF, rfl, hbF, hcF⟩ := ha.at (i := 0) (by omega)
  have hneb := hne bF oF rfl
  have hside : bF < b ∨ b + 1 ≤ bF := by omega
  have HC := Lib.hid hcF
  have g1 : ¬ L.length = 0 := by omega
  have g2 : decide ((L.length : Int) = 0) = false := decide_eq_false (by omega)
  clear h hcF hne ha
  go_enter Tryd.func59, Tryd.ntmps59
  go_wp2_with fail
  refine HB.out.mono ?_
  rintro e w1 ⟨m, hm, rfl, hs1, hm1⟩
  have d := HC.out m hm 0 (by omega)
  simp only [strE, Nat.mul_one, Nat.add_zero, List.getElem?_cons_zero] at d
  have d1 : w1.cell? ⟨bF, oF + m, none⟩ = some (.string L[m]) := by
    rw [hm1.cell (p := ⟨bF, oF + m, none⟩) hbF hside]
    exact d
  have hmem : L[m] ∈ L := List.getElem_mem hm
  have HS1 := Lib.hid hs1
  have HM1 := Lib.hid hm1
  have hm' : (m : Int) < (L.length : Int) := by omega
  have hm0 : (0 : Int) ≤ (m : Int) := by omega
  clear hs1 hm1 d
  generalize L[m] = s at *
  go_wp2_with fail
  go_ret
  exact ⟨s, hmem, rfl, HS1.out, HM1.out⟩
def EntryR (b : Nat) (a : Option Addr) (c : Nat) (xs : List UInt8) (K : Nat) (t : Int) (w : World) (e : Ending) (w' : World) : Prop :=
  ∃ s : ByteArray, s.size ≤ 4 ∧ e = .returned (.agg #[.int .i64 t, .string s]) ∧ SrcAt b a c xs K w' ∧ Mid b (b + 1) w w'
end
section
open Go.RowKit
theorem SrcAt.alloc {b K c : Nat} {a : Option Addr} {xs : List UInt8} {w : World} (h : SrcAt b a c xs K w) (o : Obj) : SrcAt b a c xs K (w.alloc o) := h.below ((Below.refl _ _).alloc (Nat.le_refl _) _)
theorem Mid.alloc {lo hi : Nat} {a w : World} (h : Mid lo hi a w) (o : Obj) : Mid lo hi a (w.alloc o) := h.trans (Mid.of_below _ _ ((Below.refl _ _).alloc (Nat.le_refl _) _))
set_option maxRecDepth 100000 in
set_option maxHeartbeats 2000000 in
theorem l00Source_c (a : Option Addr) (c : Nat) (xs : List UInt8) (w : World) (ha : Sl byteE 1 w a xs) (hl : xs.length ≤ 1048576) :
    Calls Tryd.prog 33 #[.slice a xs.length c] w fun e w' => e = .returned (.pointer (some ⟨w.heap.size, 0, none⟩)) ∧ SrcAt w.heap.size a c xs 0 w' ∧ Below w.heap.size w w' := by
  have HA := Lib.hid ha
  clear ha
  have hm : xs.length % 1000 < 1000 := Nat.mod_lt _ (by omega)
  have HM : Hid (((xs.length : Int) % 1000) = ((xs.length % 1000 : Nat) : Int)) := Lib.hid (by omega)
  go_enter Tryd.func33, Tryd.ntmps33
  go_wp2_with fail
  go_ret
  rw [HM.out]
  generalize xs.length % 1000 = q at hm ⊢
  refine ⟨rfl, ⟨0, q, hl, Nat.le_refl _, by omega, World.cell?_alloc_new _ _ _ _, World.cell?_alloc_new _ _ _ _, World.cell?_alloc_new _ _ _ _, fun o => by simp [go_sem], HA.out.alloc _, fun b' o e => ?_, by simp⟩, (Below.refl _ _).alloc (Nat.le_refl _) _⟩
  rcases HA.out with h | ⟨b2, o2, he, hlt, _⟩
  · exact .inl h
  · rw [he] at e
    cases e
    exact .inr (by omega)
def outL : List ByteArray := [⟨#[116, 101, 120, 116]⟩, ⟨#[97]⟩, ⟨#[13, 10]⟩, ⟨#[10]⟩, ⟨#[8]⟩, ⟨#[9]⟩, ⟨#[27, 91, 72]⟩, ⟨#[27, 91, 50, 74]⟩, ⟨#[27, 91, 75]⟩, ⟨#[27, 91, 49, 59, 51, 49, 109]⟩, ⟨#[27, 91, 48, 109]⟩, ⟨#[27, 91, 51, 59, 50, 72]⟩, ⟨#[27, 91, 50, 65]⟩, ⟨#[27, 91, 66]⟩, ⟨#[27, 91, 53, 67]⟩, ⟨#[27, 91, 68]⟩, ⟨#[27, 91, 50, 59, 52, 114]⟩, ⟨#[27, 91, 114]⟩, ⟨#[27, 91, 76]⟩, ⟨#[27, 91, 50, 77]⟩, ⟨#[27, 55]⟩, ⟨#[27, 56]⟩, ⟨#[27, 68]⟩, ⟨#[27, 77]⟩, ⟨#[27, 69]⟩, ⟨#[27, 99]⟩, ⟨#[27, 93, 48, 59, 116, 105, 116, 108, 101, 7]⟩, ⟨#[27, 93, 120, 27, 92]⟩, ⟨#[195, 164]⟩, ⟨#[226, 130, 172]⟩, ⟨#[240, 159, 152, 128]⟩, ⟨#[128]⟩, ⟨#[226, 40]⟩, ⟨#[27, 91, 63, 50, 53, 104]⟩, ⟨#[27, 91, 49, 59, 50, 59, 51, 59, 52, 59, 53, 59, 54, 59, 55, 59, 56, 59, 57, 109]⟩, ⟨#[27, 91, 57, 57, 57, 57, 57, 65]⟩, ⟨#[27, 91, 49, 36, 120]⟩, ⟨#[7]⟩, ⟨#[27, 91, 83]⟩, ⟨#[27, 91, 84]⟩, ⟨#[27, 91, 49, 74]⟩, ⟨#[27, 91, 49, 75]⟩, ⟨#[119, 114, 97, 112, 32, 97, 114, 111, 117, 110, 100, 32, 105, 116]⟩]
theorem outL_size : ∀ s ∈ outL, 1 ≤ s.size ∧ s.size ≤ 20 := by
  have h : outL.all (fun s => decide (1 ≤ s.size ∧ s.size ≤ 20)) = true := by decide
  intro s hs
  simpa using (List.all_eq_true.1 h) s hs
def TextR (b : Nat) (a : Option Addr) (c : Nat) (xs : List UInt8) (K : Nat) (P : ByteArray → Prop) (w : World) (e : Ending) (w' : World) : Prop := ∃ s : ByteArray, P s ∧ e = .returned (.string s) ∧ SrcAt b a c xs K w' ∧ Mid b (b + 1) w w'
set_option maxRecDepth 100000 in
set_option maxHeartbeats 16000000 in
theorem srcOutput_c (b : Nat) (a : Option Addr) (c : Nat) (xs : List UInt8) (K : Nat) (w : World) (h : SrcAt b a c xs K w) (hK : K ≤ 1000000000) :
    Calls Tryd.prog 35 #[.pointer (some ⟨b, 0, none⟩)] w (TextR b a c xs (K + 9) (fun s => 1 ≤ s.size ∧ s.size ≤ 200) w) := by
  have HN := Lib.hid (srcNext_c b a c xs K 8 w h (by omega) (by omega) (by omega))
  have hb0 : b < w.heap.size := h.lt
  clear h
  go_enter Tryd.func35, Tryd.ntmps35
  go_wp2_with fail
  refine HN.out.mono ?_
  rintro e w1 ⟨m, hm, rfl, hs1, hm1⟩
  have ew : IntKind.i64.wrap (1 + (m : Int)) = 1 + (m : Int) := IntWalk.i64_in _ ⟨by omega, by omega⟩
  have HS1 := Lib.hid hs1
  have HM1 := Lib.hid hm1
  clear hs1 hm1
  go_wp2_with fail
  go_loopw [3, 4] (fun ov iv wr => ∃ (s : ByteArray) (i : Nat), ov = .string s ∧ iv = .int .i64 i ∧ i ≤ 8 ∧ s.size + 20 * i ≤ 160 ∧ Hid (i = 0 → 1 ≤ s.size) ∧ SrcAt b a c xs (K + 9 - i) wr ∧ Mid b (b + 1) w wr) (fun _ iv _ => (intOf iv).toNat)
  case atStart => exact ⟨⟨#[]⟩, 1 + m, rfl, (by first | rfl | (simp) | (congr 1; omega)), by omega, (by show 0 + _ ≤ _; omega), Lib.hid (fun h => by omega), HS1.out.mono (by omega), HM1.out⟩
  case round =>
    obtain ⟨s, i, rfl, rfl, hi8, hsz, hpos, hsrc, hmid⟩ := hrel
    have HP := hpos
    have HS := Lib.hid hsrc
    have HM := Lib.hid hmid
    have hz := hmid.size
    clear hpos hsrc hmid
    by_cases h0 : 0 < i
    · have h0' : (0 : Int) < (i : Int) := by omega
      have ei : IntKind.i64.wrap ((i : Int) - 1) = (i : Int) - 1 := IntWalk.i64_in _ ⟨by omega, by omega⟩
      have HSa := Lib.hid (HS.out.alloc (.cells #[.string ⟨#[116, 101, 120, 116]⟩, .string ⟨#[97]⟩, .string ⟨#[13, 10]⟩, .string ⟨#[10]⟩, .string ⟨#[8]⟩, .string ⟨#[9]⟩, .string ⟨#[27, 91, 72]⟩, .string ⟨#[27, 91, 50, 74]⟩, .string ⟨#[27, 91, 75]⟩, .string ⟨#[27, 91, 49, 59, 51, 49, 109]⟩, .string ⟨#[27, 91, 48, 109]⟩, .string ⟨#[27, 91, 51, 59, 50, 72]⟩, .string ⟨#[27, 91, 50, 65]⟩, .string ⟨#[27, 91, 66]⟩, .string ⟨#[27, 91, 53, 67]⟩, .string ⟨#[27, 91, 68]⟩, .string ⟨#[27, 91, 50, 59, 52, 114]⟩, .string ⟨#[27, 91, 114]⟩, .string ⟨#[27, 91, 76]⟩, .string ⟨#[27, 91, 50, 77]⟩, .string ⟨#[27, 55]⟩, .string ⟨#[27, 56]⟩, .string ⟨#[27, 68]⟩, .string ⟨#[27, 77]⟩, .string ⟨#[27, 69]⟩, .string ⟨#[27, 99]⟩, .string ⟨#[27, 93, 48, 59, 116, 105, 116, 108, 101, 7]⟩, .string ⟨#[27, 93, 120, 27, 92]⟩, .string ⟨#[195, 164]⟩, .string ⟨#[226, 130, 172]⟩, .string ⟨#[240, 159, 152, 128]⟩, .string ⟨#[128]⟩, .string ⟨#[226, 40]⟩, .string ⟨#[27, 91, 63, 50, 53, 104]⟩, .string ⟨#[27, 91, 49, 59, 50, 59, 51, 59, 52, 59, 53, 59, 54, 59, 55, 59, 56, 59, 57, 109]⟩, .string ⟨#[27, 91, 57, 57, 57, 57, 57, 65]⟩, .string ⟨#[27, 91, 49, 36, 120]⟩, .string ⟨#[7]⟩, .string ⟨#[27, 91, 83]⟩, .string ⟨#[27, 91, 84]⟩, .string ⟨#[27, 91, 49, 74]⟩, .string ⟨#[27, 91, 49, 75]⟩, .string ⟨#[119, 114, 97, 112, 32, 97, 114, 111, 117, 110, 100, 32, 105, 116]⟩] 9))
      have HL : Hid (Sl strE 1 (wr.alloc (.cells #[.string ⟨#[116, 101, 120, 116]⟩, .string ⟨#[97]⟩, .string ⟨#[13, 10]⟩, .string ⟨#[10]⟩, .string ⟨#[8]⟩, .string ⟨#[9]⟩, .string ⟨#[27, 91, 72]⟩, .string ⟨#[27, 91, 50, 74]⟩, .string ⟨#[27, 91, 75]⟩, .string ⟨#[27, 91, 49, 59, 51, 49, 109]⟩, .string ⟨#[27, 91, 48, 109]⟩, .string ⟨#[27, 91, 51, 59, 50, 72]⟩, .string ⟨#[27, 91, 50, 65]⟩, .string ⟨#[27, 91, 66]⟩, .string ⟨#[27, 91, 53, 67]⟩, .string ⟨#[27, 91, 68]⟩, .string ⟨#[27, 91, 50, 59, 52, 114]⟩, .string ⟨#[27, 91, 114]⟩, .string ⟨#[27, 91, 76]⟩, .string ⟨#[27, 91, 50, 77]⟩, .string ⟨#[27, 55]⟩, .string ⟨#[27, 56]⟩, .string ⟨#[27, 68]⟩, .string ⟨#[27, 77]⟩, .string ⟨#[27, 69]⟩, .string ⟨#[27, 99]⟩, .string ⟨#[27, 93, 48, 59, 116, 105, 116, 108, 101, 7]⟩, .string ⟨#[27, 93, 120, 27, 92]⟩, .string ⟨#[195, 164]⟩, .string ⟨#[226, 130, 172]⟩, .string ⟨#[240, 159, 152, 128]⟩, .string ⟨#[128]⟩, .string ⟨#[226, 40]⟩, .string ⟨#[27, 91, 63, 50, 53, 104]⟩, .string ⟨#[27, 91, 49, 59, 50, 59, 51, 59, 52, 59, 53, 59, 54, 59, 55, 59, 56, 59, 57, 109]⟩, .string ⟨#[27, 91, 57, 57, 57, 57, 57, 65]⟩, .string ⟨#[27, 91, 49, 36, 120]⟩, .string ⟨#[7]⟩, .string ⟨#[27, 91, 83]⟩, .string ⟨#[27, 91, 84]⟩, .string ⟨#[27, 91, 49, 74]⟩, .string ⟨#[27, 91, 49, 75]⟩, .string ⟨#[119, 114, 97, 112, 32, 97, 114, 111, 117, 110, 100, 32, 105, 116]⟩] 9)) (some ⟨wr.heap.size, 0, none⟩) outL) := Lib.hid (Sl.boxM (enc := strE) (sz := 1) (fun _ => rfl) outL #[.string ⟨#[116, 101, 120, 116]⟩, .string ⟨#[97]⟩, .string ⟨#[13, 10]⟩, .string ⟨#[10]⟩, .string ⟨#[8]⟩, .string ⟨#[9]⟩, .string ⟨#[27, 91, 72]⟩, .string ⟨#[27, 91, 50, 74]⟩, .string ⟨#[27, 91, 75]⟩, .string ⟨#[27, 91, 49, 59, 51, 49, 109]⟩, .string ⟨#[27, 91, 48, 109]⟩, .string ⟨#[27, 91, 51, 59, 50, 72]⟩, .string ⟨#[27, 91, 50, 65]⟩, .string ⟨#[27, 91, 66]⟩, .string ⟨#[27, 91, 53, 67]⟩, .string ⟨#[27, 91, 68]⟩, .string ⟨#[27, 91, 50, 59, 52, 114]⟩, .string ⟨#[27, 91, 114]⟩, .string ⟨#[27, 91, 76]⟩, .string ⟨#[27, 91, 50, 77]⟩, .string ⟨#[27, 55]⟩, .string ⟨#[27, 56]⟩, .string ⟨#[27, 68]⟩, .string ⟨#[27, 77]⟩, .string ⟨#[27, 69]⟩, .string ⟨#[27, 99]⟩, .string ⟨#[27, 93, 48, 59, 116, 105, 116, 108, 101, 7]⟩, .string ⟨#[27, 93, 120, 27, 92]⟩, .string ⟨#[195, 164]⟩, .string ⟨#[226, 130, 172]⟩, .string ⟨#[240, 159, 152, 128]⟩, .string ⟨#[128]⟩, .string ⟨#[226, 40]⟩, .string ⟨#[27, 91, 63, 50, 53, 104]⟩, .string ⟨#[27, 91, 49, 59, 50, 59, 51, 59, 52, 59, 53, 59, 54, 59, 55, 59, 56, 59, 57, 109]⟩, .string ⟨#[27, 91, 57, 57, 57, 57, 57, 65]⟩, .string ⟨#[27, 91, 49, 36, 120]⟩, .string ⟨#[7]⟩, .string ⟨#[27, 91, 83]⟩, .string ⟨#[27, 91, 84]⟩, .string ⟨#[27, 91, 49, 74]⟩, .string ⟨#[27, 91, 49, 75]⟩, .string ⟨#[119, 114, 97, 112, 32, 97, 114, 111, 117, 110, 100, 32, 105, 116]⟩] 9 rfl wr.heap.size rfl)
      go_wp2_with fail
      refine (srcPick_c b a c xs (K + 9 - i) (some ⟨wr.heap.size, 0, none⟩) 43 outL _ HSa.out (by omega) HL.out (fun b' o h => by cases h; omega) (by decide) (by decide)).mono ?_
      rintro e w2 ⟨t, ht, rfl, hs2, hm2⟩
      have hts := outL_size t ht
      have HS2 := Lib.hid hs2
      have HM2 : Hid (Mid b (b + 1) w w2) := (HM.out.alloc _).trans hm2
      have hsize : (s ++ t).size = s.size + t.size := ByteArray.size_append
      have HSZ := Lib.hid hsize
      clear hs2 hm2 ht HSa HL hsize
      go_wp2_with fail
      go_roundw
      case rel => exact ⟨s ++ t, i - 1, rfl, (by congr 1; omega), by omega, (by rw [HSZ.out]; omega), Lib.hid (fun _ => by rw [HSZ.out]; omega), HS2.out.mono (by omega), HM2.out⟩
      case measure => simp [intOf]; omega
    · obtain rfl : i = 0 := by omega
      go_wp2_with fail
      go_ret
      exact ⟨s, ⟨by first | exact HP.out rfl | exact HP.out trivial, by omega⟩, rfl, HS.out, HM.out⟩

def parL : List ByteArray := [⟨#[]⟩, ⟨#[27]⟩, ⟨#[27, 91]⟩, ⟨#[27, 91, 49, 59, 50]⟩, ⟨#[27, 91, 63]⟩, ⟨#[27, 91, 36]⟩, ⟨#[27, 93, 116, 105]⟩, ⟨#[27, 93, 116, 105, 27]⟩, ⟨#[226, 130]⟩, ⟨#[240]⟩]
theorem parL_size : ∀ s ∈ parL, s.size ≤ 5 := by
  have h : parL.all (fun s => decide (s.size ≤ 5)) = true := by decide
  intro s hs
  simpa using (List.all_eq_true.1 h) s hs
/-- A drawn parser. -/
def ParD (b : Nat) (w : World) (e : Ending) (w' : World) : Prop :=
  ∃ (p : PV) (a : Option Addr) (c : Nat), PvOK p ∧ e = .returned (.agg #[.int .i64 p.state, .slice a p.args.length c, .bool p.priv, .string p.text, .string p.utf]) ∧ FreshIn intE 3 1 w.heap.size w'.heap.size (.slice a p.args.length c) p.args w' ∧ Mid b (b + 1) w w'
set_option maxRecDepth 100000 in
set_option maxHeartbeats 8000000 in
theorem srcParser_c (b : Nat) (a : Option Addr) (c : Nat) (xs : List UInt8) (K : Nat) (w : World) (h : SrcAt b a c xs K w) (hK : K ≤ 1000000) :
    Calls Tryd.prog 34 #[.pointer (some ⟨b, 0, none⟩)] w (ParD b w) := by
  have hb0 : b < w.heap.size := h.lt
  have HO := Lib.hid (srcOutput_c b a c xs K (w.alloc (.cells #[.int .i64 0, .slice none 0 0, .bool false, .string ⟨#[]⟩, .string ⟨#[]⟩] 25)) (h.below ((Below.refl _ _).alloc (Nat.le_refl _) _)) (by omega))
  clear h
  go_enter Tryd.func34, Tryd.ntmps34
  go_wp2_with fail
  refine HO.out.mono ?_
  clear HO
  rintro e w1 ⟨s1, ⟨_, hs1⟩, rfl, hsrc, hm⟩
  have HS := Lib.hid hsrc
  have HM := Lib.hid hm
  have hz1 := hm.size
  simp only [World.size_alloc] at hz1
  have HL : Hid (Sl strE 1 (w1.alloc (.cells #[.string ⟨#[]⟩, .string ⟨#[27]⟩, .string ⟨#[27, 91]⟩, .string ⟨#[27, 91, 49, 59, 50]⟩, .string ⟨#[27, 91, 63]⟩, .string ⟨#[27, 91, 36]⟩, .string ⟨#[27, 93, 116, 105]⟩, .string ⟨#[27, 93, 116, 105, 27]⟩, .string ⟨#[226, 130]⟩, .string ⟨#[240]⟩] 9)) (some ⟨w1.heap.size, 0, none⟩) parL) := Lib.hid (Sl.boxM (enc := strE) (sz := 1) (fun _ => rfl) parL #[.string ⟨#[]⟩, .string ⟨#[27]⟩, .string ⟨#[27, 91]⟩, .string ⟨#[27, 91, 49, 59, 50]⟩, .string ⟨#[27, 91, 63]⟩, .string ⟨#[27, 91, 36]⟩, .string ⟨#[27, 93, 116, 105]⟩, .string ⟨#[27, 93, 116, 105, 27]⟩, .string ⟨#[226, 130]⟩, .string ⟨#[240]⟩] 9 rfl w1.heap.size rfl)
  have HPK := Lib.hid (srcPick_c b a c xs (K + 9) (some ⟨w1.heap.size, 0, none⟩) 10 parL (w1.alloc (.cells #[.string ⟨#[]⟩, .string ⟨#[27]⟩, .string ⟨#[27, 91]⟩, .string ⟨#[27, 91, 49, 59, 50]⟩, .string ⟨#[27, 91, 63]⟩, .string ⟨#[27, 91, 36]⟩, .string ⟨#[27, 93, 116, 105]⟩, .string ⟨#[27, 93, 116, 105, 27]⟩, .string ⟨#[226, 130]⟩, .string ⟨#[240]⟩] 9)) (hsrc.below ((Below.refl _ _).alloc (Nat.le_refl _) _)) (by omega) HL.out (fun b' o h => by cases h; omega) (by decide) (by decide))
  have r1_0 : w1.cell? ⟨w.heap.size, 0, none⟩ = some (.int .i64 0) := (hm.cell (p := ⟨w.heap.size, 0, none⟩) (by show w.heap.size < _; simp) (.inr (by show b + 1 ≤ w.heap.size; omega))).trans (by simp [go_sem])
  have r1_1 : w1.cell? ⟨w.heap.size, 1, none⟩ = some (.slice none 0 0) := (hm.cell (p := ⟨w.heap.size, 1, none⟩) (by show w.heap.size < _; simp) (.inr (by show b + 1 ≤ w.heap.size; omega))).trans (by simp [go_sem])
  have r1_2 : w1.cell? ⟨w.heap.size, 2, none⟩ = some (.bool false) := (hm.cell (p := ⟨w.heap.size, 2, none⟩) (by show w.heap.size < _; simp) (.inr (by show b + 1 ≤ w.heap.size; omega))).trans (by simp [go_sem])
  have r1_3 : w1.cell? ⟨w.heap.size, 3, none⟩ = some (.string ⟨#[]⟩) := (hm.cell (p := ⟨w.heap.size, 3, none⟩) (by show w.heap.size < _; simp) (.inr (by show b + 1 ≤ w.heap.size; omega))).trans (by simp [go_sem])
  have r1_4 : w1.cell? ⟨w.heap.size, 4, none⟩ = some (.string ⟨#[]⟩) := (hm.cell (p := ⟨w.heap.size, 4, none⟩) (by show w.heap.size < _; simp) (.inr (by show b + 1 ≤ w.heap.size; omega))).trans (by simp [go_sem])
  have rf1 : ∀ o, w1.frozen? ⟨w.heap.size, o, none⟩ = false := fun o => (hm.frozen (p := ⟨w.heap.size, o, none⟩) (by show w.heap.size < _; simp) (.inr (by show b + 1 ≤ w.heap.size; omega))).trans (by simp [go_sem])
  clear hsrc hm
  go_wp2_with fail
  refine HPK.out.mono ?_
  clear HPK
  rintro e w2 ⟨s2, hin, rfl, _, hm2⟩
  have hs2 := parL_size s2 hin
  have hsz : (s1 ++ s2).size = s1.size + s2.size := ByteArray.size_append
  obtain ⟨s, hs⟩ : ∃ s, s1 ++ s2 = s := ⟨_, rfl⟩
  have hsl : s.size ≤ 205 := by rw [← hs]; omega
  have HM2 : Hid (Mid b (b + 1) w w2) := Lib.hid ((((Mid.of_below _ _ ((Below.refl w.heap.size w).alloc (Nat.le_refl _) _)).trans HM.out).trans (Mid.of_below _ _ ((Below.refl w1.heap.size w1).alloc (Nat.le_refl _) _))).trans hm2)
  have HSE := Lib.hid hs
  have hz2 := hm2.size
  simp only [World.size_alloc] at hz2
  have q1_0 : w2.cell? ⟨w.heap.size, 0, none⟩ = some (.int .i64 0) := (hm2.cell (p := ⟨w.heap.size, 0, none⟩) (by show w.heap.size < _; simp; omega) (.inr (by show b + 1 ≤ w.heap.size; omega))).trans ((World.cell?_alloc_lt _ _ _ (by show w.heap.size < _; omega)).trans r1_0)
  have q1_1 : w2.cell? ⟨w.heap.size, 1, none⟩ = some (.slice none 0 0) := (hm2.cell (p := ⟨w.heap.size, 1, none⟩) (by show w.heap.size < _; simp; omega) (.inr (by show b + 1 ≤ w.heap.size; omega))).trans ((World.cell?_alloc_lt _ _ _ (by show w.heap.size < _; omega)).trans r1_1)
  have q1_2 : w2.cell? ⟨w.heap.size, 2, none⟩ = some (.bool false) := (hm2.cell (p := ⟨w.heap.size, 2, none⟩) (by show w.heap.size < _; simp; omega) (.inr (by show b + 1 ≤ w.heap.size; omega))).trans ((World.cell?_alloc_lt _ _ _ (by show w.heap.size < _; omega)).trans r1_2)
  have q1_3 : w2.cell? ⟨w.heap.size, 3, none⟩ = some (.string ⟨#[]⟩) := (hm2.cell (p := ⟨w.heap.size, 3, none⟩) (by show w.heap.size < _; simp; omega) (.inr (by show b + 1 ≤ w.heap.size; omega))).trans ((World.cell?_alloc_lt _ _ _ (by show w.heap.size < _; omega)).trans r1_3)
  have q1_4 : w2.cell? ⟨w.heap.size, 4, none⟩ = some (.string ⟨#[]⟩) := (hm2.cell (p := ⟨w.heap.size, 4, none⟩) (by show w.heap.size < _; simp; omega) (.inr (by show b + 1 ≤ w.heap.size; omega))).trans ((World.cell?_alloc_lt _ _ _ (by show w.heap.size < _; omega)).trans r1_4)
  have qf1 : ∀ o, w2.frozen? ⟨w.heap.size, o, none⟩ = false := fun o => (hm2.frozen (p := ⟨w.heap.size, o, none⟩) (by show w.heap.size < _; simp; omega) (.inr (by show b + 1 ≤ w.heap.size; omega))).trans (((Below.refl w1.heap.size w1).alloc (Nat.le_refl _) _).frozen (p := ⟨w.heap.size, o, none⟩) (by show w.heap.size < _; omega) |>.trans (rf1 o))
  have HRUN := Lib.hid (run_r (some ⟨w2.heap.size, 0, none⟩) 0 pz s (w2.alloc (.cells #[] 3)) (.inl rfl) (by omega) PvOK.z)
  have HPZ : Hid (PvOK (prun pz s.data.toList).1) := Lib.hid (prun_ok _ PvOK.z)
  clear hs hsz hm2 r1_0 r1_1 r1_2 r1_3 r1_4 rf1 hin
  go_wp2_with fail
  rw [HSE.out]
  refine HRUN.out.mono ?_
  clear HRUN
  rintro e w3 ⟨ap, cp, al, cl, L, rfl, hf, _, _, _, hb⟩
  obtain ⟨R, hR⟩ : ∃ R, prun pz s.data.toList = R := ⟨_, rfl⟩
  rw [hR] at HPZ hf ⊢
  clear hR
  have HF := Lib.hid hf
  have HB := Lib.hid hb
  have hz3 := hb.size
  simp only [World.size_alloc] at hz3
  have ul : w.heap.size < w3.heap.size := by omega
  have u0 : w3.cell? ⟨w.heap.size, 0, none⟩ = some (.int .i64 0) := (hb.cell (p := ⟨w.heap.size, 0, none⟩) (by show w.heap.size < _; simp; omega)).trans ((World.cell?_alloc_lt _ _ _ (by show w.heap.size < _; omega)).trans q1_0)
  have u1 : w3.cell? ⟨w.heap.size, 1, none⟩ = some (.slice none 0 0) := (hb.cell (p := ⟨w.heap.size, 1, none⟩) (by show w.heap.size < _; simp; omega)).trans ((World.cell?_alloc_lt _ _ _ (by show w.heap.size < _; omega)).trans q1_1)
  have u2 : w3.cell? ⟨w.heap.size, 2, none⟩ = some (.bool false) := (hb.cell (p := ⟨w.heap.size, 2, none⟩) (by show w.heap.size < _; simp; omega)).trans ((World.cell?_alloc_lt _ _ _ (by show w.heap.size < _; omega)).trans q1_2)
  have u3 : w3.cell? ⟨w.heap.size, 3, none⟩ = some (.string ⟨#[]⟩) := (hb.cell (p := ⟨w.heap.size, 3, none⟩) (by show w.heap.size < _; simp; omega)).trans ((World.cell?_alloc_lt _ _ _ (by show w.heap.size < _; omega)).trans q1_3)
  have u4 : w3.cell? ⟨w.heap.size, 4, none⟩ = some (.string ⟨#[]⟩) := (hb.cell (p := ⟨w.heap.size, 4, none⟩) (by show w.heap.size < _; simp; omega)).trans ((World.cell?_alloc_lt _ _ _ (by show w.heap.size < _; omega)).trans q1_4)
  have uf : ∀ o, w3.frozen? ⟨w.heap.size, o, none⟩ = false := fun o => (hb.frozen (p := ⟨w.heap.size, o, none⟩) (by show w.heap.size < _; simp; omega)).trans (((Below.refl w2.heap.size w2).alloc (Nat.le_refl _) _).frozen (p := ⟨w.heap.size, o, none⟩) (by show w.heap.size < _; omega) |>.trans (qf1 o))
  clear hf hb q1_0 q1_1 q1_2 q1_3 q1_4 qf1
  go_wp2_with fail
  refine bodyPost_ret (v := .agg #[.int .i64 R.1.state, .slice ap R.1.args.length cp, .bool R.1.priv, .string R.1.text, .string R.1.utf]) (by simp [results, Tryd.results34, go_sem, u0, u1, u2, u3, u4, ul]) rfl ?_
  have hfin : ∀ wz, Ch (fun k => k = w.heap.size) w3 wz → ParD b w (.returned (.agg #[.int .i64 R.1.state, .slice ap R.1.args.length cp, .bool R.1.priv, .string R.1.text, .string R.1.utf])) wz := fun wz hc => by
    refine ⟨R.1, ap, cp, HPZ.out, rfl, ?_, ?_⟩
    · have hfb := FreshIn.blks HF.out
      simp only [World.size_alloc] at hfb
      have h1 := HF.out.ch hc (fun k hk h => by have := (hfb k hk).1; omega)
      exact h1.mono (by simp only [World.size_alloc]; omega) (Nat.le_refl _)
    · have hM := (HM2.out.trans (Mid.of_below b (b + 1) ((Below.refl w2.heap.size w2).alloc (Nat.le_refl _) _))).trans (Mid.of_below _ _ HB.out)
      exact ⟨hc.os.trans hM.os, hc.tape.trans hM.tape, hc.output.trans hM.output, Nat.le_trans hM.size hc.size, fun k hk hd => (hc.block k (by have := hM.size; omega) (by omega)).trans (hM.block k hk hd)⟩
  refine hfin _ ?_
  repeat (first | (with_reducible exact Ch.refl) | (with_reducible refine Ch.alloc ?_ _) | (with_reducible refine Ch.setB ?_ _ _))
set_option maxRecDepth 100000 in
set_option maxHeartbeats 4000000 in
theorem outputOf_c (a : Option Addr) (c : Nat) (xs : List UInt8) (w : World) (ha : Sl byteE 1 w a xs) (hl : xs.length ≤ 1048576) :
    Calls Tryd.prog 7 #[.slice a xs.length c] w fun e w' => (∃ s : ByteArray, e = .returned (.string s) ∧ 1 ≤ s.size ∧ s.size ≤ 200) ∧ Below w.heap.size w w' := by
  have HS := Lib.hid (l00Source_c a c xs w ha hl)
  clear ha
  go_enter Tryd.func7, Tryd.ntmps7
  go_wp2_with fail
  refine HS.out.mono ?_
  rintro e w1 ⟨rfl, hs1, hb1⟩
  have HB1 := Lib.hid hb1
  have HO := Lib.hid (srcOutput_c w.heap.size a c xs 0 w1 hs1 (by omega))
  clear hs1 hb1
  go_wp2_with fail
  refine HO.out.mono ?_
  rintro e w2 ⟨s, ⟨hs1, hs⟩, rfl, _, hm⟩
  have HM := Lib.hid hm
  clear hm
  go_wp2_with fail
  go_ret
  exact ⟨⟨s, rfl, hs1, hs⟩, HB1.out.trans (HM.out.below (Nat.le_refl _) HB1.out.size)⟩
/-- A drawn parser, in memory of its own. -/
def ParO (w : World) (e : Ending) (w' : World) : Prop :=
  ∃ (p : PV) (a : Option Addr) (c : Nat), PvOK p ∧ e = .returned (.agg #[.int .i64 p.state, .slice a p.args.length c, .bool p.priv, .string p.text, .string p.utf]) ∧ FreshIn intE 3 1 w.heap.size w'.heap.size (.slice a p.args.length c) p.args w' ∧ Below w.heap.size w w'
set_option maxRecDepth 100000 in
set_option maxHeartbeats 4000000 in
theorem parserOf_c (a : Option Addr) (c : Nat) (xs : List UInt8) (w : World) (ha : Sl byteE 1 w a xs) (hl : xs.length ≤ 1048576) :
    Calls Tryd.prog 6 #[.slice a xs.length c] w (ParO w) := by
  have HS := Lib.hid (l00Source_c a c xs (w.alloc (.cells #[.int .i64 0, .slice none 0 0, .bool false, .string ⟨#[]⟩, .string ⟨#[]⟩] 25)) (ha.alloc _) hl)
  clear ha
  go_enter Tryd.func6, Tryd.ntmps6
  go_wp2_with fail
  refine HS.out.mono ?_
  rintro e w1 ⟨rfl, hs1, hb1⟩
  have HB1 := Lib.hid hb1
  have hz1 := hb1.size
  simp only [World.size_alloc] at hz1 hs1
  have HP := Lib.hid (srcParser_c (w.heap.size + 1) a c xs 0 w1 hs1 (by omega))
  have r1_0 : w1.cell? ⟨w.heap.size, 0, none⟩ = some (.int .i64 0) := (hb1.cell (p := ⟨w.heap.size, 0, none⟩) (by show w.heap.size < _; simp)).trans (by simp [go_sem])
  have r1_1 : w1.cell? ⟨w.heap.size, 1, none⟩ = some (.slice none 0 0) := (hb1.cell (p := ⟨w.heap.size, 1, none⟩) (by show w.heap.size < _; simp)).trans (by simp [go_sem])
  have r1_2 : w1.cell? ⟨w.heap.size, 2, none⟩ = some (.bool false) := (hb1.cell (p := ⟨w.heap.size, 2, none⟩) (by show w.heap.size < _; simp)).trans (by simp [go_sem])
  have r1_3 : w1.cell? ⟨w.heap.size, 3, none⟩ = some (.string ⟨#[]⟩) := (hb1.cell (p := ⟨w.heap.size, 3, none⟩) (by show w.heap.size < _; simp)).trans (by simp [go_sem])
  have r1_4 : w1.cell? ⟨w.heap.size, 4, none⟩ = some (.string ⟨#[]⟩) := (hb1.cell (p := ⟨w.heap.size, 4, none⟩) (by show w.heap.size < _; simp)).trans (by simp [go_sem])
  have rf1 : ∀ o, w1.frozen? ⟨w.heap.size, o, none⟩ = false := fun o => (hb1.frozen (p := ⟨w.heap.size, o, none⟩) (by show w.heap.size < _; simp)).trans (by simp [go_sem])
  clear hs1 hb1
  go_wp2_with fail
  refine HP.out.mono ?_
  rintro e w2 ⟨p, a2, c2, hok, rfl, hf, hm⟩
  have HOK := Lib.hid hok
  have HF := Lib.hid hf
  have HM := Lib.hid hm
  have hz2 := hm.size
  have ul : w.heap.size < w2.heap.size := by omega
  have u0 : w2.cell? ⟨w.heap.size, 0, none⟩ = some (.int .i64 0) := (hm.cell (p := ⟨w.heap.size, 0, none⟩) (by show w.heap.size < _; omega) (.inl (by show w.heap.size < _; omega))).trans r1_0
  have u1 : w2.cell? ⟨w.heap.size, 1, none⟩ = some (.slice none 0 0) := (hm.cell (p := ⟨w.heap.size, 1, none⟩) (by show w.heap.size < _; omega) (.inl (by show w.heap.size < _; omega))).trans r1_1
  have u2 : w2.cell? ⟨w.heap.size, 2, none⟩ = some (.bool false) := (hm.cell (p := ⟨w.heap.size, 2, none⟩) (by show w.heap.size < _; omega) (.inl (by show w.heap.size < _; omega))).trans r1_2
  have u3 : w2.cell? ⟨w.heap.size, 3, none⟩ = some (.string ⟨#[]⟩) := (hm.cell (p := ⟨w.heap.size, 3, none⟩) (by show w.heap.size < _; omega) (.inl (by show w.heap.size < _; omega))).trans r1_3
  have u4 : w2.cell? ⟨w.heap.size, 4, none⟩ = some (.string ⟨#[]⟩) := (hm.cell (p := ⟨w.heap.size, 4, none⟩) (by show w.heap.size < _; omega) (.inl (by show w.heap.size < _; omega))).trans r1_4
  have uf : ∀ o, w2.frozen? ⟨w.heap.size, o, none⟩ = false := fun o => (hm.frozen (p := ⟨w.heap.size, o, none⟩) (by show w.heap.size < _; omega) (.inl (by show w.heap.size < _; omega))).trans (rf1 o)
  clear hok hf hm
  go_wp2_with fail
  refine bodyPost_ret (v := .agg #[.int .i64 p.state, .slice a2 p.args.length c2, .bool p.priv, .string p.text, .string p.utf]) (by simp [results, Tryd.results6, go_sem, u0, u1, u2, u3, u4, ul]) rfl ?_
  have hfin : ∀ wz, Ch (fun k => k = w.heap.size) w2 wz → ParO w (.returned (.agg #[.int .i64 p.state, .slice a2 p.args.length c2, .bool p.priv, .string p.text, .string p.utf])) wz := fun wz hc => by
    refine ⟨p, a2, c2, HOK.out, rfl, ?_, ?_⟩
    · have hfb := FreshIn.blks HF.out
      exact (HF.out.ch hc (fun k hk h => by have := (hfb k hk).1; omega)).mono (by omega) (Nat.le_refl _)
    · exact (((Below.refl w.heap.size w).alloc (Nat.le_refl _) _).trans (HB1.out.mono (by simp)) |>.trans (HM.out.below (by omega) (by omega))).trans (hc.below (by omega) (fun k h => by omega))
  refine hfin _ ?_
  repeat (first | (with_reducible exact Ch.refl) | (with_reducible refine Ch.alloc ?_ _) | (with_reducible refine Ch.setB ?_ _ _))
end
section
open Go.RowKit
set_option maxHeartbeats 400000 in
theorem sameInts_c (a b : Option Addr) (ca cb : Nat) (xs ys : List Int) (w : World) (ha : Sl intE 1 w a xs) (hb : Sl intE 1 w b ys) (la : xs.length ≤ 1048576) (lb : ys.length ≤ 1048576) :
    Calls Tryd.prog 42 #[.slice a xs.length ca, .slice b ys.length cb] w fun e w' => e = .returned (.bool (decide (xs = ys))) ∧ Below w.heap.size w w' := by
  by_cases hl : xs.length = ys.length
  · go_enter Tryd.func42, Tryd.ntmps42
    go_wp2_with fail
    go_loopw [5] (fun i wr => ∃ k : Nat, k ≤ xs.length ∧ i = .int .i64 k ∧ xs.take k = ys.take k ∧ Below w.heap.size w wr) (fun i _ => xs.length - (intOf i).toNat)
    case atStart => exact ⟨0, Nat.zero_le _, rfl, rfl, Below.refl _ _⟩
    case round =>
      obtain ⟨k, hk, rfl, ht, hbel⟩ := hrel
      have HT := Lib.hid ht
      clear ht
      by_cases hlt : k < xs.length
      · have hlt2 : k < ys.length := by omega
        obtain ⟨b1, o1, rfl, hb1, hc1⟩ := (ha.keep hbel).at hlt
        obtain ⟨b2, o2, rfl, hb2, hc2⟩ := (hb.keep hbel).at hlt2
        have c1 := hc1 k hlt 0 (by omega)
        have c2 := hc2 k hlt2 0 (by omega)
        simp only [intE, Nat.mul_one, Nat.add_zero, List.getElem?_cons_zero] at c1 c2
        clear hc1 hc2
        have HL := Lib.hid hl
        clear hl
        by_cases he : xs[k] = ys[k]
        · have he' : (xs[k] == ys[k]) = true := by rw [he]; simp
          have HE := Lib.hid he
          clear he
          go_wp2_with fail
          go_quiet (fail)
          go_wp2_with fail
          go_roundw
          case rel =>
            refine ⟨k + 1, by omega, by go_num, ?_, hbel.trans (below_drewN _ _ _)⟩
            rw [List.take_succ_eq_append_getElem hlt, List.take_succ_eq_append_getElem hlt2, HT.out, HE.out]
          case measure => simp [intOf]; omega
        · have he' : (xs[k] == ys[k]) = false := by simp [he]
          have HE := Lib.hid he
          clear he
          go_wp2_with fail
          go_quiet (fail)
          go_wp2_with fail
          go_ret
          refine ⟨?_, hbel.trans (below_drewN _ _ _)⟩
          have hne : xs ≠ ys := by rintro rfl; exact HE.out rfl
          simp [hne]
      · have hkn : k = xs.length := by omega
        go_wp2_with fail
        go_ret
        refine ⟨?_, hbel⟩
        have h1 := HT.out
        rw [List.take_of_length_le (by omega), List.take_of_length_le (by omega)] at h1
        simp [h1]
  · have hl' : ((xs.length : Int) == (ys.length : Int)) = false := by simp; omega
    have hd : decide (xs = ys) = false := by simp; intro h; exact hl (by rw [h])
    rw [hd]
    clear hd
    go_enter Tryd.func42, Tryd.ntmps42
    go_wp2_with fail
    go_ret
    exact ⟨rfl, (by repeat (first | exact Below.refl _ _ | (refine Below.alloc ?_ (by (try simp) <;> (try omega)) _) | (refine Below.setCell ?_ (by (try simp) <;> (try omega)) _) | (refine Below.drew ?_) | (refine Below.trans ?_ (Below.mono (by assumption) (by (try simp) <;> (try omega))))))⟩
theorem sameInts_same (a b : Option Addr) (ca cb : Nat) (xs : List Int) (w : World) (ha : Sl intE 1 w a xs) (hb : Sl intE 1 w b xs) (la : xs.length ≤ 1048576) :
    Calls Tryd.prog 42 #[.slice a xs.length ca, .slice b xs.length cb] w fun e w' => e = .returned (.bool true) ∧ Below w.heap.size w w' :=
  (sameInts_c a b ca cb xs xs w ha hb la la).mono (by rintro e w' ⟨h, hb⟩; exact ⟨by rw [h]; simp, hb⟩)
set_option maxRecDepth 100000 in
set_option maxHeartbeats 2000000 in
theorem sameParser_same (ap aq : Option Addr) (cp cq : Nat) (p : PV) (w : World) (ha : Sl intE 1 w ap p.args) (hb : Sl intE 1 w aq p.args) (hl : p.args.length ≤ 1048576) :
    Calls Tryd.prog 10 #[.agg #[.int .i64 p.state, .slice ap p.args.length cp, .bool p.priv, .string p.text, .string p.utf], .agg #[.int .i64 p.state, .slice aq p.args.length cq, .bool p.priv, .string p.text, .string p.utf]] w fun e w' => e = .returned (.bool true) ∧ Below w.heap.size w w' := by
  have HC := Lib.hid (sameInts_same ap aq cp cq p.args ((w.alloc (.cells #[.int .i64 p.state, .slice ap p.args.length cp, .bool p.priv, .string p.text, .string p.utf] 25)).alloc (.cells #[.int .i64 p.state, .slice aq p.args.length cq, .bool p.priv, .string p.text, .string p.utf] 25)) ((ha.alloc _).alloc _) ((hb.alloc _).alloc _) hl)
  clear ha hb
  go_enter Tryd.func10, Tryd.ntmps10
  go_wp2_with fail
  refine HC.out.mono ?_
  rintro e w1 ⟨rfl, hb1⟩
  have HB := Lib.hid hb1
  clear hb1
  go_wp2_with fail
  go_ret
  exact ⟨rfl, (((Below.refl w.heap.size w).alloc (Nat.le_refl _) _).alloc (by simp) _).trans (HB.out.mono (by simp; omega))⟩
set_option maxRecDepth 100000 in
set_option maxHeartbeats 8000000 in
theorem sameActions_same (a b : Option Addr) (ca cb : Nat) (rs ts : List ActA) (w : World) (ha : ActS w a rs) (hb : ActS w b ts) (he : ts.map (·.A) = rs.map (·.A)) (hs : ∀ r ∈ rs, r.A.args.length ≤ 1048576) (la : rs.length ≤ 1048576) :
    Calls Tryd.prog 11 #[.slice a rs.length ca, .slice b ts.length cb] w fun e w' => e = .returned (.bool true) ∧ Below w.heap.size w w' := by
  have hl : ts.length = rs.length := mapA_len he
  rw [hl]
  have HS := Lib.hid hs
  have HE := Lib.hid he
  have HL := Lib.hid hl
  clear hs he hl
  go_enter Tryd.func11, Tryd.ntmps11
  go_wp2_with fail
  go_loopw [5] (fun i wr => ∃ k : Nat, k ≤ rs.length ∧ i = .int .i64 k ∧ Below w.heap.size w wr) (fun i _ => rs.length - (intOf i).toNat)
  case atStart => exact ⟨0, Nat.zero_le _, rfl, Below.refl _ _⟩
  case round =>
    obtain ⟨k, hk, rfl, hbel⟩ := hrel
    by_cases hlt : k < rs.length
    · obtain ⟨b1, o1, rfl, hb1, hc1⟩ := (ha.1.keep hbel).at hlt
      have hlt2 : k < ts.length := by have := HL.out; omega
      obtain ⟨b2, o2, rfl, hb2, hc2⟩ := (hb.1.keep hbel).at hlt2
      have c0 := hc1 k hlt 0 (by omega)
      have c1 := hc1 k hlt 1 (by omega)
      have c2 := hc1 k hlt 2 (by omega)
      have c3 := hc1 k hlt 3 (by omega)
      have c4 := hc1 k hlt 4 (by omega)
      simp only [actE, Nat.add_zero, List.getElem?_cons_zero, List.getElem?_cons_succ] at c0 c1 c2 c3 c4
      have d0 := hc2 k hlt2 0 (by omega)
      have d1 := hc2 k hlt2 1 (by omega)
      have d2 := hc2 k hlt2 2 (by omega)
      have d3 := hc2 k hlt2 3 (by omega)
      have d4 := hc2 k hlt2 4 (by omega)
      simp only [actE, Nat.add_zero, List.getElem?_cons_zero, List.getElem?_cons_succ] at d0 d1 d2 d3 d4
      clear hc1 hc2
      have hsz := HS.out rs[k] (List.getElem_mem _)
      have ok1 := (ha.2 rs[k] (List.getElem_mem _)).keep hbel
      have ok2 := (hb.2 ts[k] (List.getElem_mem _)).keep hbel
      have hm := mapA_at HE.out k hlt2 hlt
      generalize rs[k] = r at *
      generalize ts[k] = t at *
      rw [hm] at d0 d1 d2 d3 d4
      have hM2 : Sl intE 1 wr t.aa r.A.args := by rw [hm] at ok2; exact ok2
      clear hm ok2
      have HCX : Hid (∀ x, Calls Tryd.prog 42 #[.slice r.aa r.A.args.length r.ca, .slice t.aa r.A.args.length t.ca] (extW wr x) fun e w' => e = .returned (.bool true) ∧ Below (extW wr x).heap.size (extW wr x) w') := Lib.hid (fun x => sameInts_same _ _ _ _ _ _ (ok1.keep (extW_below wr x)) (hM2.keep (extW_below wr x)) hsz)
      obtain ⟨A, aa, ca'⟩ := r
      obtain ⟨A2, ab, cb'⟩ := t
      simp only at c0 c1 c2 c3 c4 d0 d1 d2 d3 d4 HCX
      go_wp2_with fail
      have xq0 := extW_cell (w := wr) (b := b1) (by (try simp) <;> (try omega))
      have xq1 := extW_cell (w := wr) (b := b2) (by (try simp) <;> (try omega))
      refine wp_region_quietx (wr) rfl (by kernel_rfl) (by kernel_rfl) ?_
      repeat (go_big_quiet_step ((go_at_call 42; exact Calls.quietx (HCX.out _))))
      refine wpQuiet_nil ?_
      intro _ hw'
      obtain ⟨xq, hw''⟩ := hw'
      subst hw''
      have hbq := extW_below (wr) xq
      generalize extW (wr) xq = wq at hbq ⊢
      clear xq0
      clear xq1
      go_wp2_with fail
      go_roundw
      case rel => exact ⟨k + 1, by omega, by go_num, hbel.trans (hbq.mono hbel.size)⟩
      case measure => simp [intOf]; omega
    · obtain rfl : k = rs.length := by omega
      go_wp2_with fail
      go_ret
      exact ⟨rfl, hbel⟩
set_option maxRecDepth 100000 in
set_option maxHeartbeats 2000000 in
theorem implParserOK_b (ap : Option Addr) (cp : Nat) (p : PV) (w : World) (ha : Sl intE 1 w ap p.args) (hZ : PvSz p 1048576) :
    Calls Tryd.prog 12 #[.agg #[.int .i64 p.state, .slice ap p.args.length cp, .bool p.priv, .string p.text, .string p.utf]] w fun e w' => e = .returned (.bool (pvB p)) ∧ Below w.heap.size w w' := implParserOK_c ap cp p w ha hZ
end
section
open Go.RowKit
set_option maxRecDepth 100000 in
set_option maxHeartbeats 4000000 in
theorem lawAt2_c (a : Option Addr) (ca : Nat) (xs : List UInt8) (i n : Nat) (w : World) (ha : Sl byteE 1 w a xs) (la : xs.length ≤ 1048576) (hi : i ≤ 1000) (hn : n ≤ 1000000) (h2 : 2 ≤ n) :
    Calls Tryd.prog 13 #[.slice a xs.length ca, .int .i64 i, .int .i64 n] w fun e w' => (∃ m : Nat, e = .returned (.int .i64 m) ∧ m < n) ∧ Below w.heap.size w w' := by
  have HA := Lib.hid ha
  clear ha
  have h1' : (1 : Int) < (n : Int) := by omega
  have h0 : ¬ n = 0 := by omega
  by_cases hx : xs = []
  · subst hx
    go_enter Tryd.func13, Tryd.ntmps13
    go_wp2_with fail
    go_ret
    exact ⟨⟨i * 7 % n, congrArg (fun z => Ending.returned (.int .i64 z)) (by simp), Nat.mod_lt _ (by omega)⟩, Below.refl _ _⟩
  · have hl0 : 0 < xs.length := List.length_pos_iff.2 hx
    have g1 : decide ((xs.length : Int) = 0) = false := decide_eq_false (by omega)
    have g2 : ((xs.length : Int) == 0) = false := by simp; omega
    have g3 : ¬ xs.length = 0 := by omega
    have hp := Nat.mod_lt i hl0
    have hq := Nat.mod_lt (i + 1) hl0
    obtain ⟨b1, o1, rfl, hb1, hc⟩ := HA.out.at hl0
    have d1 := hc _ hp 0 (by omega)
    have d2 := hc _ hq 0 (by omega)
    simp only [byteE, Nat.mul_one, Nat.add_zero, List.getElem?_cons_zero] at d1 d2
    have hn1 := xs[i % xs.length].toNat_lt
    have hn2 := xs[(i + 1) % xs.length].toNat_lt
    clear hc
    generalize xs[i % xs.length].toNat = n1 at *
    generalize xs[(i + 1) % xs.length].toNat = n2 at *
    have e1 : (i : Int) % (xs.length : Int) = ((i % xs.length : Nat) : Int) := by simp
    have e2 : ((i : Int) + 1) % (xs.length : Int) = (((i + 1) % xs.length : Nat) : Int) := by simp
    generalize hP : i % xs.length = p1 at *
    generalize hQ : (i + 1) % xs.length = p2 at *
    have k1 : (0 : Int) ≤ (p1 : Int) := by omega
    have k2 : (p1 : Int) < (xs.length : Int) := by omega
    have k3 : (0 : Int) ≤ (p2 : Int) := by omega
    have k4 : (p2 : Int) < (xs.length : Int) := by omega
    clear hP hQ
    go_enter Tryd.func13, Tryd.ntmps13
    go_wp2_with fail
    go_quiet (fail)
    go_wp2_with fail
    go_ret
    have hd : i / xs.length ≤ 1000 := Nat.le_trans (Nat.div_le_self _ _) hi
    have hdv : (i : Int) / (xs.length : Int) = ((i / xs.length : Nat) : Int) := by simp
    generalize i / xs.length = q at hd hdv
    refine ⟨⟨(n1 * 31 + n2 + q) % n, congrArg (fun z => Ending.returned (.int .i64 z)) ?_, Nat.mod_lt _ (by omega)⟩, below_drewN _ _ _⟩
    rw [hdv, IntWalk.wrap64_in (q : Int) ⟨by omega, by omega⟩, IntWalk.wrap64_in _ ⟨by omega, by omega⟩, Int.tmod_eq_emod_of_nonneg (by omega)]
    simp
end
end Go.Proofs.YtlhhlmalihajcaaDoor
