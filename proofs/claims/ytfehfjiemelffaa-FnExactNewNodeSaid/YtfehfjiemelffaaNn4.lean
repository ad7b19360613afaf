/- spec.NewNode, impl.NewNode: what each returns. -/
import Derived.Test.YtfehfjiemelffaaNn3
import Derived.Test.YtfehfjiemelffaaNodeOK5
namespace Go.Proofs.Ytfehfjiemelffaa
set_option linter.unusedVariables false
set_option linter.unusedSimpArgs false
open Go.RowKit
/-- The new node's value, and the code beside it. -/
def okNN (id n : Int) : Bool := inB n 1 5 && inB id 0 (n - 1)
def newV (id n : Int) : NodeV := if okNN id n then ⟨id, n, 0, -1, 0, true, [], 0, 0, 5 + id, [], List.replicate n.toNat 1, List.replicate n.toNat 0⟩ else ⟨0, 0, 0, 0, 0, false, [], 0, 0, 0, [], [], []⟩
def newE (id n : Int) : Int := if okNN id n then 0 else 4
theorem newV_sz (id n : Int) : NodeSz (newV id n) 1048576 := by
  unfold newV
  by_cases h : okNN id n = true
  · rw [if_pos h]
    have h1 : 1 ≤ n ∧ n ≤ 5 := by simp [okNN, inB] at h; omega
    exact ⟨by simp, by simp, by simp, by simp; omega, by simp; omega⟩
  · rw [if_neg h]
    exact ⟨by simp, by simp, by simp, by simp, by simp⟩
theorem l08Nodes_c (n : Int) (w : World) : Calls Try.prog 9 #[.int .i64 n] w fun e w' => e = .returned (.bool (inB n 1 5)) ∧ w = w' := by
  go_enter Try.func9, Try.ntmps9
  go_wp2_with (go_at_call 10; refine (l01In_c _ _ _ _).mono ?_; rintro e w' ⟨rfl, rfl⟩)
  go_ret
  exact ⟨rfl, rfl⟩
def SlInE {α : Type} (enc : α → List Value) (sz lo hi : Nat) (w : World) (a : Option Addr) (xs : List α) : Prop := xs = [] ∨ SlIn enc sz lo hi w a xs
section
variable {α : Type} {enc : α → List Value} {sz lo hi : Nat} {w w' : World} {a : Option Addr} {xs : List α}
theorem SlInE.below (h : SlInE enc sz lo hi w a xs) (hb : Below w.heap.size w w') : SlInE enc sz lo hi w' a xs := h.imp id (fun h => h.below hb)
theorem SlInE.mid {l r : Nat} (h : SlInE enc sz lo hi w a xs) (hm : Mid l r w w') (hd : hi ≤ l ∨ r ≤ lo) : SlInE enc sz lo hi w' a xs := h.imp id (fun h => h.mid hm hd)
theorem SlInE.sl (h : SlInE enc sz lo hi w a xs) : Sl enc sz w a xs := by
  rcases h with h | h
  · exact .inl h
  · exact h.1
end
/-- A node whose four slices read as its lists and lie in blocks from lo on and below hi. -/
def NodeSlIn (lo hi : Nat) (N : NodeV) (w : World) (al : Option Addr) (cl : Nat) (av : Option Addr) (cv : Nat) (an : Option Addr) (cn : Nat) (am : Option Addr) (cm : Nat) : Prop := SlInE entE 2 lo hi w al N.log ∧ SlInE intE 1 lo hi w av N.votes ∧ SlInE intE 1 lo hi w an N.next ∧ SlInE intE 1 lo hi w am N.mtch
section
variable {N : NodeV} {w w' : World} {al av an am : Option Addr} {cl cv cn cm lo hi : Nat}
theorem NodeSlIn.below (h : NodeSlIn lo hi N w al cl av cv an cn am cm) (hb : Below w.heap.size w w') : NodeSlIn lo hi N w' al cl av cv an cn am cm := ⟨h.1.below hb, h.2.1.below hb, h.2.2.1.below hb, h.2.2.2.below hb⟩
theorem NodeSlIn.mid {l r : Nat} (h : NodeSlIn lo hi N w al cl av cv an cn am cm) (hm : Mid l r w w') (hd : hi ≤ l ∨ r ≤ lo) : NodeSlIn lo hi N w' al cl av cv an cn am cm := ⟨h.1.mid hm hd, h.2.1.mid hm hd, h.2.2.1.mid hm hd, h.2.2.2.mid hm hd⟩
theorem NodeSlIn.alloc (h : NodeSlIn lo hi N w al cl av cv an cn am cm) (o : Obj) : NodeSlIn lo hi N (w.alloc o) al cl av cv an cn am cm := h.below ((Below.refl _ _).alloc (Nat.le_refl _) _)
theorem NodeSlIn.drew (h : NodeSlIn lo hi N w al cl av cv an cn am cm) : NodeSlIn lo hi N w.drew al cl av cv an cn am cm := h.below ((Below.refl _ _).drew)
theorem NodeSlIn.sl (h : NodeSlIn lo hi N w al cl av cv an cn am cm) : NodeSl w al av an am N := ⟨h.1.sl, h.2.1.sl, h.2.2.1.sl, h.2.2.2.sl⟩
end
def SpecNN (N : NodeV) (r : Int) (w : World) (e : Ending) (w' : World) : Prop :=
  ∃ al cl av cv an cn am cm, e = .returned (.tuple #[.agg #[.int .i64 N.id, .int .i64 N.nodes, .int .i64 N.term, .int .i64 N.vote, .int .i64 N.role, .bool N.up, .slice al N.log.length cl, .int .i64 N.commit, .int .i64 N.elapsed, .int .i64 N.wait, .slice av N.votes.length cv, .slice an N.next.length cn, .slice am N.mtch.length cm], .int .i64 r]) ∧ NodeSlIn w.heap.size w'.heap.size N w' al cl av cv an cn am cm ∧ Below w.heap.size w w'
def ImplNN (N : NodeV) (r : Int) (w : World) (e : Ending) (w' : World) : Prop :=
  ∃ al cl av cv an cn am cm, e = .returned (.tuple #[.agg #[.int .i64 N.id, .int .i64 N.nodes, .int .i64 N.term, .int .i64 N.vote, .int .i64 N.role, .bool N.up, .slice al N.log.length cl, .int .i64 N.commit, .int .i64 N.elapsed, .int .i64 N.wait, .slice av N.votes.length cv, .slice an N.next.length cn, .slice am N.mtch.length cm], .int .i64 r]) ∧ FreshNodeIn w.heap.size w'.heap.size N w' al cl av cv an cn am cm ∧ Below w.heap.size w w'
set_option maxRecDepth 100000 in
set_option maxHeartbeats 8000000 in
theorem specNewNode_no (id n : Int) (w : World) (h : inB n 1 5 = false ∨ inB id 0 (n - 1) = false) :
    Calls Try.prog 4 #[.int .i64 id, .int .i64 n] w fun e w' => e = .returned (.tuple #[.agg #[.int .i64 0, .int .i64 0, .int .i64 0, .int .i64 0, .int .i64 0, .bool false, .slice none 0 0, .int .i64 0, .int .i64 0, .int .i64 0, .slice none 0 0, .slice none 0 0, .slice none 0 0], .int .i64 4]) ∧ Below w.heap.size w w' := by
  obtain ⟨b, hb⟩ : ∃ b, inB n 1 5 = b := ⟨_, rfl⟩
  have E := Lib.hid hb
  cases b
  case false =>
    clear h hb
    go_enter Try.func4, Try.ntmps4
    go_wp2_with (first
        | (go_at_call 9; refine (l08Nodes_c _ _).mono ?_; rw [E.out]; rintro e w' ⟨rfl, rfl⟩)
        | (go_at_call 10; refine (l01In_c _ _ _ _).mono ?_; rw [E2.out]; rintro e w' ⟨rfl, rfl⟩))
    refine bodyPost_ret (v := .tuple #[.agg #[.int .i64 0, .int .i64 0, .int .i64 0, .int .i64 0, .int .i64 0, .bool false, .slice none 0 0, .int .i64 0, .int .i64 0, .int .i64 0, .slice none 0 0, .slice none 0 0, .slice none 0 0], .int .i64 4]) (by simp [results, Try.results4, go_sem]) rfl ?_
    exact ⟨rfl, (by repeat (first | (with_reducible exact Below.refl _ _) | (with_reducible refine Below.setCell ?_ ?_ _; rotate_left; (simp)) | (with_reducible refine Below.alloc ?_ ?_ _; rotate_left; (simp))))⟩
  case true =>
    have hn : 1 ≤ n ∧ n ≤ 5 := by simpa [inB] using hb
    have E2 : Hid (inB id 0 (n - 1) = false) := Lib.hid (by rcases h with h | h; rw [hb] at h; cases h; exact h)
    have ew : IntKind.i64.wrap (n - 1) = n - 1 := IntWalk.i64_in _ ⟨by omega, by omega⟩
    clear h hb
    go_enter Try.func4, Try.ntmps4
    go_wp2_with (first
        | (go_at_call 9; refine (l08Nodes_c _ _).mono ?_; rw [E.out]; rintro e w' ⟨rfl, rfl⟩)
        | (go_at_call 10; refine (l01In_c _ _ _ _).mono ?_; rw [E2.out]; rintro e w' ⟨rfl, rfl⟩))
    refine bodyPost_ret (v := .tuple #[.agg #[.int .i64 0, .int .i64 0, .int .i64 0, .int .i64 0, .int .i64 0, .bool false, .slice none 0 0, .int .i64 0, .int .i64 0, .int .i64 0, .slice none 0 0, .slice none 0 0, .slice none 0 0], .int .i64 4]) (by simp [results, Try.results4, go_sem]) rfl ?_
    exact ⟨rfl, (by repeat (first | (with_reducible exact Below.refl _ _) | (with_reducible refine Below.setCell ?_ ?_ _; rotate_left; (simp)) | (with_reducible refine Below.alloc ?_ ?_ _; rotate_left; (simp))))⟩
set_option maxRecDepth 100000 in
set_option maxHeartbeats 8000000 in
theorem specNewNode_yes (id : Int) (c : Nat) (hc : (c : Int) = 1 ∨ (c : Int) = 2 ∨ (c : Int) = 3 ∨ (c : Int) = 4 ∨ (c : Int) = 5) (w : World) (hid : inB id 0 ((c : Int) - 1) = true) :
    Calls Try.prog 4 #[.int .i64 id, .int .i64 c] w fun e w' => ∃ b6 b12 b14 a11 c11, e = .returned (.tuple #[.agg #[.int .i64 id, .int .i64 c, .int .i64 0, .int .i64 (-1), .int .i64 0, .bool true, .slice (some ⟨b6, 0, none⟩) 0 0, .int .i64 0, .int .i64 0, .int .i64 (5 + id), .slice (some ⟨b12, 0, none⟩) 0 0, .slice a11 c c11, .slice (some ⟨b14, 0, none⟩) c c], .int .i64 0]) ∧ SlIn intE 1 w.heap.size w'.heap.size w' a11 (List.replicate c 1) ∧ SlIn intE 1 w.heap.size w'.heap.size w' (some ⟨b14, 0, none⟩) (List.replicate c 0) ∧ Below w.heap.size w w' := by
  have hi : 0 ≤ id ∧ id ≤ (c : Int) - 1 := by simpa [inB] using hid
  have E : Hid (inB (c : Int) 1 5 = true) := Lib.hid (by simp [inB]; omega)
  have E2 := Lib.hid hid
  have hc5 : c ≤ 5 := by omega
  have ew : IntKind.i64.wrap ((c : Int) - 1) = (c : Int) - 1 := IntWalk.i64_in _ ⟨by omega, by omega⟩
  have HN := Lib.hid (l08New_c id c hc (w.alloc (.cells #[.int .i64 0, .int .i64 0, .int .i64 0, .int .i64 0, .int .i64 0, .bool false, .slice none 0 0, .int .i64 0, .int .i64 0, .int .i64 0, .slice none 0 0, .slice none 0 0, .slice none 0 0] 25)) (by omega) (by omega))
  clear hc hid
  go_enter Try.func4, Try.ntmps4
  go_wp2_with (first
      | (go_at_call 9; refine (l08Nodes_c _ _).mono ?_; rw [E.out]; rintro e w' ⟨rfl, rfl⟩)
      | (go_at_call 10; refine (l01In_c _ _ _ _).mono ?_; (first | rw [E.out] | rw [E2.out]); rintro e w' ⟨rfl, rfl⟩))
  refine HN.out.mono ?_
  rintro e w1 ⟨b6, b12, b14, a11, c11, rfl, hs1, hs2, hb1⟩
  have hz1 := hb1.size
  simp only [World.size_alloc] at hz1
  have HS1 : Hid (Sl intE 1 w1 a11 (List.replicate c 1)) := hs1.1
  have HS2 : Hid (Sl intE 1 w1 (some ⟨b14, 0, none⟩) (List.replicate c 0)) := hs2.1
  have HA1 : Hid (∀ b off, a11 = some ⟨b, off, none⟩ → w.heap.size ≤ b ∧ b < w1.heap.size) := Lib.hid (fun b off e => by have h := hs1.2 b off e; simp only [World.size_alloc] at h; omega)
  have HA2 : Hid (∀ b off, some (⟨b14, 0, none⟩ : Addr) = some ⟨b, off, none⟩ → w.heap.size ≤ b ∧ b < w1.heap.size) := Lib.hid (fun b off e => by have h := hs2.2 b off e; simp only [World.size_alloc] at h; omega)
  have HN1 : Hid (∀ b off, a11 = some ⟨b, off, none⟩ → b ≠ w.heap.size) := Lib.hid (fun b off e => by have h := (hs1.2 b off e).1; simp only [World.size_alloc] at h; omega)
  have HN2 : Hid (∀ b off, some (⟨b14, 0, none⟩ : Addr) = some ⟨b, off, none⟩ → b ≠ w.heap.size) := Lib.hid (fun b off e => by have h := (hs2.2 b off e).1; simp only [World.size_alloc] at h; omega)
  have z_0 : w1.cell? ⟨w.heap.size, 0, none⟩ = some (.int .i64 0) := (hb1.cell (p := ⟨w.heap.size, 0, none⟩) (by show w.heap.size < _; simp)).trans (by simp [go_sem])
  have z_1 : w1.cell? ⟨w.heap.size, 1, none⟩ = some (.int .i64 0) := (hb1.cell (p := ⟨w.heap.size, 1, none⟩) (by show w.heap.size < _; simp)).trans (by simp [go_sem])
  have z_2 : w1.cell? ⟨w.heap.size, 2, none⟩ = some (.int .i64 0) := (hb1.cell (p := ⟨w.heap.size, 2, none⟩) (by show w.heap.size < _; simp)).trans (by simp [go_sem])
  have z_3 : w1.cell? ⟨w.heap.size, 3, none⟩ = some (.int .i64 0) := (hb1.cell (p := ⟨w.heap.size, 3, none⟩) (by show w.heap.size < _; simp)).trans (by simp [go_sem])
  have z_4 : w1.cell? ⟨w.heap.size, 4, none⟩ = some (.int .i64 0) := (hb1.cell (p := ⟨w.heap.size, 4, none⟩) (by show w.heap.size < _; simp)).trans (by simp [go_sem])
  have z_5 : w1.cell? ⟨w.heap.size, 5, none⟩ = some (.bool false) := (hb1.cell (p := ⟨w.heap.size, 5, none⟩) (by show w.heap.size < _; simp)).trans (by simp [go_sem])
  have z_6 : w1.cell? ⟨w.heap.size, 6, none⟩ = some (.slice none 0 0) := (hb1.cell (p := ⟨w.heap.size, 6, none⟩) (by show w.heap.size < _; simp)).trans (by simp [go_sem])
  have z_7 : w1.cell? ⟨w.heap.size, 7, none⟩ = some (.int .i64 0) := (hb1.cell (p := ⟨w.heap.size, 7, none⟩) (by show w.heap.size < _; simp)).trans (by simp [go_sem])
  have z_8 : w1.cell? ⟨w.heap.size, 8, none⟩ = some (.int .i64 0) := (hb1.cell (p := ⟨w.heap.size, 8, none⟩) (by show w.heap.size < _; simp)).trans (by simp [go_sem])
  have z_9 : w1.cell? ⟨w.heap.size, 9, none⟩ = some (.int .i64 0) := (hb1.cell (p := ⟨w.heap.size, 9, none⟩) (by show w.heap.size < _; simp)).trans (by simp [go_sem])
  have z_10 : w1.cell? ⟨w.heap.size, 10, none⟩ = some (.slice none 0 0) := (hb1.cell (p := ⟨w.heap.size, 10, none⟩) (by show w.heap.size < _; simp)).trans (by simp [go_sem])
  have z_11 : w1.cell? ⟨w.heap.size, 11, none⟩ = some (.slice none 0 0) := (hb1.cell (p := ⟨w.heap.size, 11, none⟩) (by show w.heap.size < _; simp)).trans (by simp [go_sem])
  have z_12 : w1.cell? ⟨w.heap.size, 12, none⟩ = some (.slice none 0 0) := (hb1.cell (p := ⟨w.heap.size, 12, none⟩) (by show w.heap.size < _; simp)).trans (by simp [go_sem])
  have zf : ∀ o, w1.frozen? ⟨w.heap.size, o, none⟩ = false := fun o => (hb1.frozen (p := ⟨w.heap.size, o, none⟩) (by show w.heap.size < _; simp)).trans (by simp [go_sem])
  have HB1 : Hid (Below w.heap.size w w1) := ((Below.refl _ _).alloc (Nat.le_refl _) _).trans (hb1.mono (by simp))
  clear hs1 hs2 hb1
  go_wp2_with fail
  refine bodyPost_ret (v := .tuple #[.agg #[.int .i64 id, .int .i64 c, .int .i64 0, .int .i64 (-1), .int .i64 0, .bool true, .slice (some ⟨b6, 0, none⟩) 0 0, .int .i64 0, .int .i64 0, .int .i64 (5 + id), .slice (some ⟨b12, 0, none⟩) 0 0, .slice a11 c c11, .slice (some ⟨b14, 0, none⟩) c c], .int .i64 0]) (by simp [results, Try.results4, go_sem, z_0, z_1, z_2, z_3, z_4, z_5, z_6, z_7, z_8, z_9, z_10, z_11, z_12, zf]) rfl ?_
  refine ⟨b6, b12, b14, a11, c11, rfl, ?_, ?_, ?_⟩
  · refine ⟨?_, fun b off e => by simpa using HA1.out b off e⟩
    repeat (first | (with_reducible exact HS1.out) | (with_reducible refine Sl.setCell ?_ ?_ _; rotate_left; (exact HN1.out)))
  · refine ⟨?_, fun b off e => by simpa using HA2.out b off e⟩
    repeat (first | (with_reducible exact HS2.out) | (with_reducible refine Sl.setCell ?_ ?_ _; rotate_left; (exact HN2.out)))
  · repeat (first | (with_reducible exact HB1.out) | (with_reducible refine Below.setCell ?_ ?_ _; rotate_left; (show w.heap.size ≤ w.heap.size; omega)))

theorem okNN_no {id n : Int} (h : okNN id n = false) : inB n 1 5 = false ∨ inB id 0 (n - 1) = false := by
  unfold okNN at h
  cases h1 : inB n 1 5
  · exact .inl rfl
  · rw [h1] at h; exact .inr (by simpa using h)
theorem okNN_yes {id n : Int} (h : okNN id n = true) : ∃ c : Nat, n = (c : Int) ∧ ((c : Int) = 1 ∨ (c : Int) = 2 ∨ (c : Int) = 3 ∨ (c : Int) = 4 ∨ (c : Int) = 5) ∧ inB id 0 ((c : Int) - 1) = true := by
  unfold okNN at h
  have h1 : inB n 1 5 = true := by cases hh : inB n 1 5 <;> simp [hh] at h ⊢
  have h2 : inB id 0 (n - 1) = true := by rw [h1] at h; simpa using h
  have h3 : 1 ≤ n ∧ n ≤ 5 := by simpa [inB] using h1
  obtain ⟨c, rfl⟩ : ∃ c : Nat, n = (c : Int) := ⟨n.toNat, by omega⟩
  exact ⟨c, rfl, by omega, h2⟩
theorem specNN_c (id n : Int) (N : NodeV) (r : Int) (hN : newV id n = N ∧ newE id n = r) (w : World) : Calls Try.prog 4 #[.int .i64 id, .int .i64 n] w (SpecNN N r w) := by
  obtain ⟨rfl, rfl⟩ := hN
  cases hok : okNN id n
  · refine (specNewNode_no id n w (okNN_no hok)).mono ?_
    rintro e w' ⟨rfl, hb⟩
    refine ⟨none, 0, none, 0, none, 0, none, 0, by simp [newV, newE, hok], ?_, hb⟩
    simp only [newV, hok]
    exact ⟨.inl rfl, .inl rfl, .inl rfl, .inl rfl⟩
  · obtain ⟨c, rfl, hc, hid⟩ := okNN_yes hok
    refine (specNewNode_yes id c hc w hid).mono ?_
    rintro e w' ⟨b6, b12, b14, a11, c11, rfl, h1, h2, hb⟩
    refine ⟨some ⟨b6, 0, none⟩, 0, some ⟨b12, 0, none⟩, 0, a11, c11, some ⟨b14, 0, none⟩, c, by simp [newV, newE, hok], ?_, hb⟩
    simp only [newV, hok, if_true, Int.toNat_natCast]
    exact ⟨.inl rfl, .inl rfl, .inr h1, .inr h2⟩
theorem implNN_c (id n : Int) (N : NodeV) (r : Int) (hN : newV id n = N ∧ newE id n = r) (w : World) : Calls Try.prog 5 #[.int .i64 id, .int .i64 n] w (ImplNN N r w) := by
  obtain ⟨rfl, rfl⟩ := hN
  cases hok : okNN id n
  · refine (implNewNode_no id n w (okNN_no hok)).mono ?_
    rintro e w' ⟨rfl, hb⟩
    have hz := hb.size
    refine ⟨none, 0, none, 0, none, 0, none, 0, by simp [newV, newE, hok], ?_, hb⟩
    simp only [newV, hok]
    exact ⟨w.heap.size, w.heap.size, w.heap.size, w.heap.size, w.heap.size, w.heap.size, Nat.le_refl _, Nat.le_refl _, by omega, .inl (Nat.le_refl _), FreshIn.nil _ _ _ _ _ _, FreshIn.nil _ _ _ _ _ _, FreshIn.nil _ _ _ _ _ _, FreshIn.nil _ _ _ _ _ _⟩
  · obtain ⟨c, rfl, hc, hid⟩ := okNN_yes hok
    refine (implNewNode_yes id c hc w hid).mono ?_
    rintro e w' ⟨v, rfl, g1, g2, rfl, hg1, hg2, hne, hl1, hl2, hf1, hf2, hb⟩
    refine ⟨none, 0, none, 0, some ⟨g1, 0, none⟩, c, some ⟨g2, 0, none⟩, c, by simp [newV, newE, hok], ?_, hb⟩
    simp only [newV, hok, if_true, Int.toNat_natCast]
    exact ⟨w.heap.size, w.heap.size, g1, g1 + 1, g2, g2 + 1, Nat.le_refl _, Nat.le_refl _, by omega, by omega, FreshIn.nil _ _ _ _ _ _, FreshIn.nil _ _ _ _ _ _, by simpa using hf1, by simpa using hf2⟩
end Go.Proofs.Ytfehfjiemelffaa
