/- The reference's run: ground, tell, control, size, skip, plain, escape, oscEnd. No conditions but sizes. -/
import Derived.Test.YtlhhlmalihajcaaDoorPaB
import Derived.Test.YtlhhlmalihajcaaDoorCh2
namespace Go.Proofs.YtlhhlmalihajcaaDoor
set_option linter.unusedVariables false
set_option linter.unusedSimpArgs false
section
open Go.RowKit
/-- A parser and a list in one box. -/
structure QS (X lo : Nat) (p : PV) (ap : Option Addr) (cp : Nat) (L : List ActA) (al : Option Addr) (cl : Nat) (w : World) : Prop where
  ps : PS X lo p ap cp L al cl w
  c5 : w.cell? ⟨X, 5, none⟩ = some (.slice al L.length cl)
  lo : lo ≤ X
section
variable {X lo : Nat} {p p' : PV} {ap ap' al al' : Option Addr} {cp cp' cl cl' : Nat} {L us : List ActA} {w w' w1 : World}
theorem QS.keep (h : QS X lo p ap cp L al cl w) (hb : Below w.heap.size w w') : QS X lo p ap cp L al cl w' := ⟨h.ps.keep hb, (hb.cell (p := ⟨X, 5, none⟩) h.ps.lt).trans h.c5, h.lo⟩
/-- One action more, its numbers in memory apart from all else. -/
theorem PS.pushX (h : PS X lo p ap cp L al cl w) {x : ActA} (hx : actOwn lo w x) (hd : ∀ k ∈ blkOf x.aa, k ≠ X ∧ k ∉ blkOf ap ∧ k ∉ acB al L) (hus : us = L ++ [x]) (hf : FreshIn actE 46 5 lo w'.heap.size (.slice al' us.length cl') us w') (hc : Ch (· ∈ blkOf al) w w')
    (hk : ∀ k ∈ blkOf al', k ∈ blkOf al ∨ k = w.heap.size) : PS X lo p ap cp us al' cl' w' := by
  have hB : X ∉ blkOf al := fun hb => h.nB (by simp [roB, hb])
  have hA : ∀ k ∈ blkOf ap, k ∉ blkOf al := fun k hk1 hk2 => h.nd k hk1 (by simp [roB, hk2])
  have hro : ActO lo us al' cl' w' := h.ro.push actL hx (fun k hk1 => (hd k hk1).2.2) hus hf hc hk
  have hin : ∀ k ∈ acB al' us, k ∈ acB al L ∨ k ∈ blkOf x.aa ∨ k = w.heap.size := by
    intro k hk1
    simp only [roB, List.mem_append] at hk1 ⊢
    rcases hk1 with hk1 | hk1
    · rcases hk k hk1 with h2 | h2
      · exact .inl (.inl h2)
      · exact .inr (.inr h2)
    · rw [hus] at hk1
      simp only [List.flatMap_append, List.flatMap_cons, List.flatMap_nil, List.append_nil, List.mem_append] at hk1
      rcases hk1 with hk1 | hk1
      · exact .inl (.inr hk1)
      · exact .inr (.inl hk1)
  refine ⟨(hc.cell (p := ⟨X, 0, none⟩) h.lt hB).trans h.c0, (hc.cell (p := ⟨X, 1, none⟩) h.lt hB).trans h.c1, (hc.cell (p := ⟨X, 2, none⟩) h.lt hB).trans h.c2, (hc.cell (p := ⟨X, 3, none⟩) h.lt hB).trans h.c3, (hc.cell (p := ⟨X, 4, none⟩) h.lt hB).trans h.c4, fun o => (hc.frozen (p := ⟨X, o, none⟩) h.lt hB).trans (h.fz o), Nat.lt_of_lt_of_le h.lt hc.size, h.args.ch hc hA, hro, fun hb => ?_, fun k hk1 hk2 => ?_⟩
  · rcases List.mem_append.1 hb with hb | hb
    · exact h.nB (by simp [hb])
    · rcases hin X hb with h2 | h2 | h2
      · exact h.nB (List.mem_append.2 (.inr h2))
      · exact (hd X h2).1 rfl
      · have := h.lt; omega
  · rcases hin k hk2 with h2 | h2 | h2
    · exact h.nd k hk1 h2
    · exact (hd k h2).2.1 hk1
    · have := (FreshIn.blks h.args k hk1).2; omega
/-- The list's header is written. -/
theorem QS.list {v : Value} (h : PS X lo p ap cp us al' cl' w) {u : Value} (hl : lo ≤ X) (hv : v = .slice al' us.length cl') (h5 : w.cell? ⟨X, 5, none⟩ = some u) : QS X lo p ap cp us al' cl' (w.setCell ⟨X, 5, none⟩ v) := by
  subst hv
  have hc : Ch (fun k => k = X) w (w.setCell ⟨X, 5, none⟩ (.slice al' us.length cl')) := Ch.set1 _ _ _ _
  have k0 := h.c0
  have k1 := h.c1
  have k2 := h.c2
  have k3 := h.c3
  have k4 := h.c4
  have kf := h.fz
  refine ⟨h.cells hc ?_ ?_ ?_ ?_ ?_ ?_ (.inl ⟨rfl, rfl, rfl⟩), ?_, hl⟩
  all_goals first | (intro o; simp [go_sem, kf]; done) | (simp [go_sem, k0, k1, k2, k3, k4, h5]; done)
end
theorem fresh_zero (lo : Nat) (w : World) (g : Nat) (hg : g = w.heap.size) (h : lo ≤ w.heap.size) : FreshIn intE 3 1 lo (w.alloc (.cells #[] 3)).heap.size (.slice (some ⟨g, 0, none⟩) 0 0) [] (w.alloc (.cells #[] 3)) := by
  subst hg
  exact (fresh_mdI w lo h).here
set_option maxRecDepth 100000 in
set_option maxHeartbeats 4000000 in
theorem ground_r (X lo : Nat) (p : PV) (ap al : Option Addr) (cp cl : Nat) (L : List ActA) (w : World) (h : QS X lo p ap cp L al cl w) :
    Calls Tryd.prog 100 #[.pointer (some ⟨X, 0, none⟩)] w fun e w' => e = .returned (.tuple #[]) ∧ ∃ g, w.heap.size ≤ g ∧ QS X lo pz (some ⟨g, 0, none⟩) 0 L al cl w' ∧ Ch (fun k => k = X) w w' := by
  have HP := Lib.hid h
  have k_0 := h.ps.c0
  have k_1 := h.ps.c1
  have k_2 := h.ps.c2
  have k_3 := h.ps.c3
  have k_4 := h.ps.c4
  have k_5 := h.c5
  have kf := h.ps.fz
  have klt := h.ps.lt
  clear h
  go_enter Tryd.func100, Tryd.ntmps100
  go_wp2_with fail
  refine bodyPost_end (v := .tuple #[]) (by simp [results, Tryd.results100]) rfl ?_
  have hlo : lo ≤ w.heap.size := by have := HP.out.lo; omega
  refine ⟨rfl, w.heap.size, Nat.le_refl _, ⟨HP.out.ps.cellsNew ?hc (Nat.le_refl _) ?ha ?_ ?_ ?_ ?_ ?_ ?_, ?_, HP.out.lo⟩, ?hc⟩
  case hc => repeat (first | (with_reducible exact Ch.refl) | (with_reducible refine Ch.alloc ?_ _) | (with_reducible refine Ch.drew ?_) | (with_reducible refine Ch.setB ?_ _ _))
  case ha => exact fresh_zero lo _ _ (by simp [World.setCell]) (by simp [World.setCell]; omega)
  all_goals first | (intro o; simp [go_sem, kf, klt]; done) | (simp [go_sem, k_0, k_1, k_2, k_3, k_4, k_5, klt, pz]; done)
end
section
open Go.RowKit
/-- What the reference leaves of a byte, or of an action told. -/
def QR (X lo : Nat) (R : PV × List AV) (L : List ActA) (e : Ending) (w w' : World) : Prop :=
  e = .returned (.tuple #[]) ∧ ∃ (ap' : Option Addr) (cp' : Nat) (L' : List ActA) (al' : Option Addr) (cl' : Nat), QS X lo R.1 ap' cp' L' al' cl' w' ∧ L'.map (·.A) = L.map (·.A) ++ R.2 ∧ Below lo w w'
theorem QS.below {X lo : Nat} {p : PV} {ap al : Option Addr} {cp cl : Nat} {L : List ActA} {w w' : World} (h : QS X lo p ap cp L al cl w) (hc : Ch (fun k => k = X ∨ k ∈ blkOf al) w w') : Below lo w w' := by
  have hl := h.lo
  have ht := h.ps.lt
  refine hc.below (by omega) (fun k hk => ?_)
  rcases hk with hk | hk
  · omega
  · exact (h.ps.ro.bd actL k (by simp [roB, hk])).1
set_option maxRecDepth 100000 in
set_option maxHeartbeats 8000000 in
theorem tell_r (X lo : Nat) (p : PV) (ap al aa : Option Addr) (cp cl ca : Nat) (L : List ActA) (A : AV) (w : World) (h : QS X lo p ap cp L al cl w)
    (hA : FreshIn intE 3 1 lo w.heap.size (.slice aa A.args.length ca) A.args w) (hd : ∀ k ∈ blkOf aa, k ≠ X ∧ k ∉ blkOf ap ∧ k ∉ acB al L) (hL : L.length ≤ 1048576) (hl : A.args.length ≤ 1048576) :
    Calls Tryd.prog 101 #[.pointer (some ⟨X, 0, none⟩), .agg #[.int .i64 A.kind, .int .i64 A.n, .bool A.priv, .slice aa A.args.length ca, .string A.text]] w (fun e w' => QR X lo (p, [A]) L e w w') := by
  obtain ⟨iA, hA', hA0, hA1, hA2⟩ := info_parts Tryd.infoAction
  have HP := Lib.hid h
  have HA := Lib.hid hA
  have HD := Lib.hid hd
  have k_5 := h.c5
  have kf := h.ps.fz
  have klt := h.ps.lt
  have hXn : ¬ w.heap.size = X := by omega
  have hXm : ¬ X = w.heap.size := by omega
  have hlo : lo ≤ w.heap.size := by have := h.lo; omega
  clear h hA hd
  have hA := hA'
  clear hA'
  go_enter Tryd.func101, Tryd.ntmps101
  by_cases hz : A.args.length = 0
  case pos =>
    have HE : Hid (A.args = []) := Lib.hid (List.length_eq_zero_iff.1 hz)
    have g0 : ((A.args.length : Int) == 0) = true := by rw [hz]; rfl
    clear hz
    go_upto_region 3 with fail
    have HB1 : Hid (Below w.heap.size w ((w.alloc (.cells #[.int .i64 A.kind, .int .i64 A.n, .bool A.priv, .slice (some ⟨w.heap.size + 1, 0, none⟩) 0 0, .string A.text] 46)).alloc (.cells #[] 3))) := Lib.hid (by repeat (first | (with_reducible exact Below.refl _ _) | (with_reducible refine Below.alloc ?_ ?_ _; rotate_left; ((try simp) <;> (try omega)))))
    have HOW : Hid (actOwn lo ((w.alloc (.cells #[.int .i64 A.kind, .int .i64 A.n, .bool A.priv, .slice (some ⟨w.heap.size + 1, 0, none⟩) 0 0, .string A.text] 46)).alloc (.cells #[] 3)) ⟨A, (some ⟨w.heap.size + 1, 0, none⟩), 0⟩ ∧ ∀ k ∈ blkOf (some ⟨w.heap.size + 1, 0, none⟩), k ≠ X ∧ k ∉ blkOf ap ∧ k ∉ acB al L) := Lib.hid (by
      refine ⟨?_, fun k hk => ?_⟩
      · unfold actOwn
        show FreshIn intE 3 1 lo _ (.slice _ A.args.length 0) A.args _
        rw [HE.out]
        exact fresh_zero lo _ _ (by simp) (by simp; omega)
      · simp [blkOf] at hk
        subst hk
        refine ⟨by omega, fun h => ?_, fun h => ?_⟩
        · have := (FreshIn.blks HP.out.ps.args _ h).2; omega
        · have := (HP.out.ps.ro.bd actL _ h).2; omega)
    have z_0 : ((w.alloc (.cells #[.int .i64 A.kind, .int .i64 A.n, .bool A.priv, .slice (some ⟨w.heap.size + 1, 0, none⟩) 0 0, .string A.text] 46)).alloc (.cells #[] 3)).cell? ⟨w.heap.size, 0, none⟩ = some (.int .i64 A.kind) := by simp [go_sem]
    have z_1 : ((w.alloc (.cells #[.int .i64 A.kind, .int .i64 A.n, .bool A.priv, .slice (some ⟨w.heap.size + 1, 0, none⟩) 0 0, .string A.text] 46)).alloc (.cells #[] 3)).cell? ⟨w.heap.size, 1, none⟩ = some (.int .i64 A.n) := by simp [go_sem]
    have z_2 : ((w.alloc (.cells #[.int .i64 A.kind, .int .i64 A.n, .bool A.priv, .slice (some ⟨w.heap.size + 1, 0, none⟩) 0 0, .string A.text] 46)).alloc (.cells #[] 3)).cell? ⟨w.heap.size, 2, none⟩ = some (.bool A.priv) := by simp [go_sem]
    have z_3 : ((w.alloc (.cells #[.int .i64 A.kind, .int .i64 A.n, .bool A.priv, .slice (some ⟨w.heap.size + 1, 0, none⟩) 0 0, .string A.text] 46)).alloc (.cells #[] 3)).cell? ⟨w.heap.size, 3, none⟩ = some (.slice (some ⟨w.heap.size + 1, 0, none⟩) 0 0) := by simp [go_sem]
    have z_4 : ((w.alloc (.cells #[.int .i64 A.kind, .int .i64 A.n, .bool A.priv, .slice (some ⟨w.heap.size + 1, 0, none⟩) 0 0, .string A.text] 46)).alloc (.cells #[] 3)).cell? ⟨w.heap.size, 4, none⟩ = some (.string A.text) := by simp [go_sem]
    obtain ⟨x1, hx1⟩ : ∃ x, ((w.alloc (.cells #[.int .i64 A.kind, .int .i64 A.n, .bool A.priv, .slice (some ⟨w.heap.size + 1, 0, none⟩) 0 0, .string A.text] 46)).alloc (.cells #[] 3)) = x := ⟨_, rfl⟩
    rw [hx1] at HB1 HOW z_0 z_1 z_2 z_3 z_4 ⊢
    clear hx1
    have hz1 := HB1.out.size
    have hzH : w.heap.size < x1.heap.size := by
      rcases Nat.lt_or_ge w.heap.size x1.heap.size with h | h
      · exact h
      · have : x1.cell? ⟨w.heap.size, 0, none⟩ = none := by simp [World.cell?, Array.getElem?_eq_none h]
        rw [this] at z_0; cases z_0
    have HP1 := Lib.hid (HP.out.keep HB1.out)
    have y_5 := HP1.out.c5
    have yf := HP1.out.ps.fz
    have ylt := HP1.out.ps.lt
    have hS0 : x1.cell? ⟨X, 5, none⟩ = some (.slice al L.length cl) ∧ x1.cell? ⟨w.heap.size, 0, none⟩ = some (.int .i64 A.kind) ∧ x1.cell? ⟨w.heap.size, 1, none⟩ = some (.int .i64 A.n) ∧ x1.cell? ⟨w.heap.size, 2, none⟩ = some (.bool A.priv) ∧ x1.cell? ⟨w.heap.size, 3, none⟩ = some (.slice (some ⟨w.heap.size + 1, 0, none⟩) 0 0) ∧ x1.cell? ⟨w.heap.size, 4, none⟩ = some (.string A.text) := ⟨y_5, z_0, z_1, z_2, z_3, z_4⟩
    refine wp_region_G (fun w' => w'.cell? ⟨X, 5, none⟩ = some (.slice al L.length cl) ∧ w'.cell? ⟨w.heap.size, 0, none⟩ = some (.int .i64 A.kind) ∧ w'.cell? ⟨w.heap.size, 1, none⟩ = some (.int .i64 A.n) ∧ w'.cell? ⟨w.heap.size, 2, none⟩ = some (.bool A.priv) ∧ w'.cell? ⟨w.heap.size, 3, none⟩ = some (.slice (some ⟨w.heap.size + 1, 0, none⟩) 0 0) ∧ w'.cell? ⟨w.heap.size, 4, none⟩ = some (.string A.text)) (fun i => i == 10) (by kernel_rfl) hS0 ?_
    refine wpAnyG_takeW (i := 0) (v := ?_) rfl (by kernel_rfl) (by kernel_rfl) (by kernel_rfl) (fun _ _ _ h => h) (Or.inl ⟨by rfl, ?_⟩) ?_
    rotate_left
    · intro w' hSw
      go_simp
      try (with_reducible rfl)
    try simp only [Act.put, List.getElem_toArray, List.getElem_cons_zero, List.getElem_cons_succ, List.setIfInBounds_toArray, List.set_cons_zero, List.set_cons_succ]
    refine wpAnyG_takeW (i := 1) (v := ?_) rfl (by kernel_rfl) (by kernel_rfl) (by kernel_rfl) (fun _ _ _ h => h) (Or.inl ⟨by rfl, ?_⟩) ?_
    rotate_left
    · intro w' hSw
      go_simp
      try (with_reducible rfl)
    try simp only [Act.put, List.getElem_toArray, List.getElem_cons_zero, List.getElem_cons_succ, List.setIfInBounds_toArray, List.set_cons_zero, List.set_cons_succ]
    refine wpAnyG_takeW (i := 2) (v := ?_) rfl (by kernel_rfl) (by kernel_rfl) (by kernel_rfl) (fun _ _ _ h => h) (Or.inl ⟨by rfl, ?_⟩) ?_
    rotate_left
    · intro w' hSw
      go_simp
      try (with_reducible rfl)
    try simp only [Act.put, List.getElem_toArray, List.getElem_cons_zero, List.getElem_cons_succ, List.setIfInBounds_toArray, List.set_cons_zero, List.set_cons_succ]
    refine wpAnyG_takeW (i := 3) (v := ?_) rfl (by kernel_rfl) (by kernel_rfl) (by kernel_rfl) (fun _ _ _ h => h) (Or.inl ⟨by rfl, ?_⟩) ?_
    rotate_left
    · intro w' hSw
      go_simp
      try (with_reducible rfl)
    try simp only [Act.put, List.getElem_toArray, List.getElem_cons_zero, List.getElem_cons_succ, List.setIfInBounds_toArray, List.set_cons_zero, List.set_cons_succ]
    refine wpAnyG_take (i := 4) (v := ?_) rfl (by kernel_rfl) (by kernel_rfl) (by kernel_rfl) (by kernel_rfl) (fun _ _ _ h => h) hS0 (Or.inl ⟨by rfl, ?_⟩) ?_
    rotate_left
    · intro w' hSw
      obtain ⟨s0, s1, s2, s3, s4, s5⟩ := hSw
      go_simp
      try (with_reducible rfl)
    try simp only [Act.put, List.getElem_toArray, List.getElem_cons_zero, List.getElem_cons_succ, List.setIfInBounds_toArray, List.set_cons_zero, List.set_cons_succ]
    refine wpAnyG_take (i := 5) (v := ?_) rfl (by kernel_rfl) (by kernel_rfl) (by kernel_rfl) (by kernel_rfl) (fun _ _ _ h => h) hS0 (Or.inl ⟨by rfl, ?_⟩) ?_
    rotate_left
    · intro w' hSw
      obtain ⟨s0, s1, s2, s3, s4, s5⟩ := hSw
      go_simp
      try (with_reducible rfl)
    try simp only [Act.put, List.getElem_toArray, List.getElem_cons_zero, List.getElem_cons_succ, List.setIfInBounds_toArray, List.set_cons_zero, List.set_cons_succ]
    refine wpAnyG_one (i := 6) (by kernel_rfl) rfl hS0 (fun K' hK => ?_)
    simp only [List.getElem_toArray, List.getElem_cons_zero, List.getElem_cons_succ]
    go_simp
    obtain ⟨x2, hx2⟩ : ∃ x, (x1.alloc (.cells #[.int .i64 A.kind, .int .i64 A.n, .bool A.priv, .slice (some ⟨w.heap.size + 1, 0, none⟩) 0 0, .string A.text] 46)).drew = x := ⟨_, rfl⟩
    have hx2' : x1.drew.alloc (.cells #[.int .i64 A.kind, .int .i64 A.n, .bool A.priv, .slice (some ⟨w.heap.size + 1, 0, none⟩) 0 0, .string A.text] 46) = x2 := by rw [← hx2]; rfl
    have HB2 : Hid (Below x1.heap.size x1 x2) := Lib.hid (by rw [← hx2]; exact ((Below.refl _ _).alloc (Nat.le_refl _) _).drew)
    have hsrc : Src Tryd.prog 5 28 (.slice (some ⟨x1.heap.size, 0, none⟩) 1 1) [(⟨A, (some ⟨w.heap.size + 1, 0, none⟩), 0⟩ : ActA)].length ([(⟨A, (some ⟨w.heap.size + 1, 0, none⟩), 0⟩ : ActA)].flatMap actE) x2 := by
      rw [← hx2']
      exact Src.ofBox (enc := actE) Tryd.underlying28 (fun _ => rfl) actOne (⟨A, (some ⟨w.heap.size + 1, 0, none⟩), 0⟩ : ActA) _ _ (by simp [actE, HE.out]) _ (by simp)
    have HSRC := Lib.hid hsrc
    have HP2 := Lib.hid (HP1.out.keep HB2.out)
    have HOW2 : Hid (actOwn lo x2 ⟨A, (some ⟨w.heap.size + 1, 0, none⟩), 0⟩) := Lib.hid (actL.ch (M := fun _ => False) HOW.out.1 (Ch.of_below HB2.out) (fun _ _ h => h))
    have hz2 := HB2.out.size
    have hS1 := fun (p : Addr) (hp : p.block < x1.heap.size) => HB2.out.cell (p := p) hp
    have hS2 : x2.cell? ⟨X, 5, none⟩ = some (.slice al L.length cl) ∧ x2.cell? ⟨w.heap.size, 0, none⟩ = some (.int .i64 A.kind) ∧ x2.cell? ⟨w.heap.size, 1, none⟩ = some (.int .i64 A.n) ∧ x2.cell? ⟨w.heap.size, 2, none⟩ = some (.bool A.priv) ∧ x2.cell? ⟨w.heap.size, 3, none⟩ = some (.slice (some ⟨w.heap.size + 1, 0, none⟩) 0 0) ∧ x2.cell? ⟨w.heap.size, 4, none⟩ = some (.string A.text) := ⟨(hS1 ⟨X, 5, none⟩ ylt).trans y_5, (hS1 ⟨w.heap.size, 0, none⟩ hzH).trans z_0, (hS1 ⟨w.heap.size, 1, none⟩ hzH).trans z_1, (hS1 ⟨w.heap.size, 2, none⟩ hzH).trans z_2, (hS1 ⟨w.heap.size, 3, none⟩ hzH).trans z_3, (hS1 ⟨w.heap.size, 4, none⟩ hzH).trans z_4⟩
    clear hsrc hx2' hS1
    rw [hx2]
    clear hx2
    refine hK.out _ _ (Or.inr hS2) ?_
    clear hK K'
    try simp only [Act.put, List.getElem_toArray, List.getElem_cons_zero, List.getElem_cons_succ, List.setIfInBounds_toArray, List.set_cons_zero, List.set_cons_succ]
    refine wpAnyG_one (i := 7) (by kernel_rfl) rfl hS2 (fun K' hK => ?_)
    simp only [List.getElem_toArray, List.getElem_cons_zero, List.getElem_cons_succ]
    rw [if_pos (by rfl)]
    refine step_append_ch (.tmp 14) (.tmp 16) 28 28 lo 46 iA (.agg #[.int .i64 0, .int .i64 0, .bool false, .slice none 0 0, .string ⟨#[]⟩]) 5 64 Tryd.underlying28 hA hA0 hA1 hA2 rfl (by decide) al L.length cl L HP2.out.ps.ro.row (.slice (some ⟨x1.heap.size, 0, none⟩) 1 1) [(⟨A, (some ⟨w.heap.size + 1, 0, none⟩), 0⟩ : ActA)] HSRC.out (by simp; omega) (by omega) ?_ ?_ ?_ ?_
    · rfl
    · rfl
    · rfl
    intro a4 c4 w4 us hus hf hc hk
    have HUS := hus
    have HF := Lib.hid hf
    have HC4 := Lib.hid hc
    have HK := Lib.hid hk
    have hHal : ¬ w.heap.size ∈ blkOf al := fun hb => by
      have := (HP.out.ps.ro.bd actL w.heap.size (by simp [roB, hb])).2
      omega
    have hXal : ¬ X ∈ blkOf al := fun hb => HP.out.ps.nB (by rw [List.mem_append]; right; simp [roB, hb])
    have hS3 := fun (p : Addr) (hp : p.block < x2.heap.size) (hd : ¬ p.block ∈ blkOf al) => HC4.out.cell (p := p) hp hd
    have hS4 : w4.cell? ⟨X, 5, none⟩ = some (.slice al L.length cl) ∧ w4.cell? ⟨w.heap.size, 0, none⟩ = some (.int .i64 A.kind) ∧ w4.cell? ⟨w.heap.size, 1, none⟩ = some (.int .i64 A.n) ∧ w4.cell? ⟨w.heap.size, 2, none⟩ = some (.bool A.priv) ∧ w4.cell? ⟨w.heap.size, 3, none⟩ = some (.slice (some ⟨w.heap.size + 1, 0, none⟩) 0 0) ∧ w4.cell? ⟨w.heap.size, 4, none⟩ = some (.string A.text) := ⟨(hS3 ⟨X, 5, none⟩ (by show X < _; omega) hXal).trans hS2.1, (hS3 ⟨w.heap.size, 0, none⟩ (by show w.heap.size < _; omega) hHal).trans hS2.2.1, (hS3 ⟨w.heap.size, 1, none⟩ (by show w.heap.size < _; omega) hHal).trans hS2.2.2.1, (hS3 ⟨w.heap.size, 2, none⟩ (by show w.heap.size < _; omega) hHal).trans hS2.2.2.2.1, (hS3 ⟨w.heap.size, 3, none⟩ (by show w.heap.size < _; omega) hHal).trans hS2.2.2.2.2.1, (hS3 ⟨w.heap.size, 4, none⟩ (by show w.heap.size < _; omega) hHal).trans hS2.2.2.2.2.2⟩
    have HPS4 : Hid (PS X lo p ap cp us a4 c4 w4) := Lib.hid (HP2.out.ps.pushX (x := ⟨A, (some ⟨w.heap.size + 1, 0, none⟩), 0⟩) HOW2.out HOW.out.2 HUS.out HF.out HC4.out HK.out)
    have v_5 := hS4.1
    have vf := HPS4.out.fz
    have vlt := HPS4.out.lt
    clear hus hf hc hk hS3
    refine hK.out _ _ (Or.inr hS4) ?_
    clear hK K'
    try simp only [Act.put, List.getElem_toArray, List.getElem_cons_zero, List.getElem_cons_succ, List.setIfInBounds_toArray, List.set_cons_zero, List.set_cons_succ]
    refine wpAnyG_takeW (i := 8) (v := ?_) rfl (by kernel_rfl) (by kernel_rfl) (by kernel_rfl) (fun _ _ _ h => h) (Or.inl ⟨by rfl, ?_⟩) ?_
    rotate_left
    · intro w' hSw
      go_simp
      try (with_reducible rfl)
    try simp only [Act.put, List.getElem_toArray, List.getElem_cons_zero, List.getElem_cons_succ, List.setIfInBounds_toArray, List.set_cons_zero, List.set_cons_succ]
    refine wpAnyG_takeW (i := 9) (v := ?_) rfl (by kernel_rfl) (by kernel_rfl) (by kernel_rfl) (fun _ _ _ h => h) (Or.inl ⟨by rfl, ?_⟩) ?_
    rotate_left
    · intro w' hSw
      go_simp
      try (with_reducible rfl)
    try simp only [Act.put, List.getElem_toArray, List.getElem_cons_zero, List.getElem_cons_succ, List.setIfInBounds_toArray, List.set_cons_zero, List.set_cons_succ]
    refine wpAnyG_one (i := 10) (by kernel_rfl) rfl hS4 (fun K' hK => ?_)
    simp only [List.getElem_toArray, List.getElem_cons_zero, List.getElem_cons_succ]
    go_simp
    refine hK.out _ _ (Or.inl rfl) ?_
    clear hK K'
    try simp only [Act.put, List.getElem_toArray, List.getElem_cons_zero, List.getElem_cons_succ, List.setIfInBounds_toArray, List.set_cons_zero, List.set_cons_succ]
    refine wpAnyG_done (by kernel_rfl) ?_ _
    go_wp2_with fail
    refine bodyPost_end (v := .tuple #[]) (by simp [results, Tryd.results101]) rfl ?_
    have hq : QS X lo p ap cp us a4 c4 (w4.setCell ⟨X, 5, none⟩ (.slice a4 us.length c4)) := QS.list HPS4.out HP.out.lo rfl v_5
    refine ⟨rfl, ap, cp, us, a4, c4, hq, by rw [HUS.out]; simp, ?_⟩
    have hc : Ch (fun k => k = X ∨ k ∈ blkOf al) w w4 := (Ch.of_below HB1.out).trans ((Ch.of_below (M := fun k => k = X ∨ k ∈ blkOf al) HB2.out).trans HC4.out (fun i hi => .inl (.inr hi))) (fun i hi => .inl hi)
    exact HP.out.below (hc.setCell (p := ⟨X, 5, none⟩) (.inl (.inl rfl)) _)
  have g0 : ((A.args.length : Int) == 0) = false := beq_eq_false_iff_ne.2 (by omega)
  go_upto_region 3 with fail
  have HB1 : Hid (Below w.heap.size w (w.alloc (.cells #[.int .i64 A.kind, .int .i64 A.n, .bool A.priv, .slice aa A.args.length ca, .string A.text] 46))) := Lib.hid (by repeat (first | (with_reducible exact Below.refl _ _) | (with_reducible refine Below.alloc ?_ ?_ _; rotate_left; ((try simp) <;> (try omega)))))
  have HOW : Hid (actOwn lo (w.alloc (.cells #[.int .i64 A.kind, .int .i64 A.n, .bool A.priv, .slice aa A.args.length ca, .string A.text] 46)) ⟨A, aa, ca⟩ ∧ ∀ k ∈ blkOf aa, k ≠ X ∧ k ∉ blkOf ap ∧ k ∉ acB al L) := Lib.hid (by
    refine ⟨?_, HD.out⟩
    exact actL.ch (M := fun _ => False) (r := ⟨A, aa, ca⟩) HA.out (Ch.refl.alloc _) (fun _ _ h => h))
  have z_0 : (w.alloc (.cells #[.int .i64 A.kind, .int .i64 A.n, .bool A.priv, .slice aa A.args.length ca, .string A.text] 46)).cell? ⟨w.heap.size, 0, none⟩ = some (.int .i64 A.kind) := by simp [go_sem]
  have z_1 : (w.alloc (.cells #[.int .i64 A.kind, .int .i64 A.n, .bool A.priv, .slice aa A.args.length ca, .string A.text] 46)).cell? ⟨w.heap.size, 1, none⟩ = some (.int .i64 A.n) := by simp [go_sem]
  have z_2 : (w.alloc (.cells #[.int .i64 A.kind, .int .i64 A.n, .bool A.priv, .slice aa A.args.length ca, .string A.text] 46)).cell? ⟨w.heap.size, 2, none⟩ = some (.bool A.priv) := by simp [go_sem]
  have z_3 : (w.alloc (.cells #[.int .i64 A.kind, .int .i64 A.n, .bool A.priv, .slice aa A.args.length ca, .string A.text] 46)).cell? ⟨w.heap.size, 3, none⟩ = some (.slice aa A.args.length ca) := by simp [go_sem]
  have z_4 : (w.alloc (.cells #[.int .i64 A.kind, .int .i64 A.n, .bool A.priv, .slice aa A.args.length ca, .string A.text] 46)).cell? ⟨w.heap.size, 4, none⟩ = some (.string A.text) := by simp [go_sem]
  obtain ⟨x1, hx1⟩ : ∃ x, (w.alloc (.cells #[.int .i64 A.kind, .int .i64 A.n, .bool A.priv, .slice aa A.args.length ca, .string A.text] 46)) = x := ⟨_, rfl⟩
  rw [hx1] at HB1 HOW z_0 z_1 z_2 z_3 z_4 ⊢
  clear hx1
  have hz1 := HB1.out.size
  have hzH : w.heap.size < x1.heap.size := by
    rcases Nat.lt_or_ge w.heap.size x1.heap.size with h | h
    · exact h
    · have : x1.cell? ⟨w.heap.size, 0, none⟩ = none := by simp [World.cell?, Array.getElem?_eq_none h]
      rw [this] at z_0; cases z_0
  have HP1 := Lib.hid (HP.out.keep HB1.out)
  have y_5 := HP1.out.c5
  have yf := HP1.out.ps.fz
  have ylt := HP1.out.ps.lt
  have hS0 : x1.cell? ⟨X, 5, none⟩ = some (.slice al L.length cl) ∧ x1.cell? ⟨w.heap.size, 0, none⟩ = some (.int .i64 A.kind) ∧ x1.cell? ⟨w.heap.size, 1, none⟩ = some (.int .i64 A.n) ∧ x1.cell? ⟨w.heap.size, 2, none⟩ = some (.bool A.priv) ∧ x1.cell? ⟨w.heap.size, 3, none⟩ = some (.slice aa A.args.length ca) ∧ x1.cell? ⟨w.heap.size, 4, none⟩ = some (.string A.text) := ⟨y_5, z_0, z_1, z_2, z_3, z_4⟩
  refine wp_region_G (fun w' => w'.cell? ⟨X, 5, none⟩ = some (.slice al L.length cl) ∧ w'.cell? ⟨w.heap.size, 0, none⟩ = some (.int .i64 A.kind) ∧ w'.cell? ⟨w.heap.size, 1, none⟩ = some (.int .i64 A.n) ∧ w'.cell? ⟨w.heap.size, 2, none⟩ = some (.bool A.priv) ∧ w'.cell? ⟨w.heap.size, 3, none⟩ = some (.slice aa A.args.length ca) ∧ w'.cell? ⟨w.heap.size, 4, none⟩ = some (.string A.text)) (fun i => i == 10) (by kernel_rfl) hS0 ?_
  refine wpAnyG_takeW (i := 0) (v := ?_) rfl (by kernel_rfl) (by kernel_rfl) (by kernel_rfl) (fun _ _ _ h => h) (Or.inl ⟨by rfl, ?_⟩) ?_
  rotate_left
  · intro w' hSw
    go_simp
    try (with_reducible rfl)
  try simp only [Act.put, List.getElem_toArray, List.getElem_cons_zero, List.getElem_cons_succ, List.setIfInBounds_toArray, List.set_cons_zero, List.set_cons_succ]
  refine wpAnyG_takeW (i := 1) (v := ?_) rfl (by kernel_rfl) (by kernel_rfl) (by kernel_rfl) (fun _ _ _ h => h) (Or.inl ⟨by rfl, ?_⟩) ?_
  rotate_left
  · intro w' hSw
    go_simp
    try (with_reducible rfl)
  try simp only [Act.put, List.getElem_toArray, List.getElem_cons_zero, List.getElem_cons_succ, List.setIfInBounds_toArray, List.set_cons_zero, List.set_cons_succ]
  refine wpAnyG_takeW (i := 2) (v := ?_) rfl (by kernel_rfl) (by kernel_rfl) (by kernel_rfl) (fun _ _ _ h => h) (Or.inl ⟨by rfl, ?_⟩) ?_
  rotate_left
  · intro w' hSw
    go_simp
    try (with_reducible rfl)
  try simp only [Act.put, List.getElem_toArray, List.getElem_cons_zero, List.getElem_cons_succ, List.setIfInBounds_toArray, List.set_cons_zero, List.set_cons_succ]
  refine wpAnyG_takeW (i := 3) (v := ?_) rfl (by kernel_rfl) (by kernel_rfl) (by kernel_rfl) (fun _ _ _ h => h) (Or.inl ⟨by rfl, ?_⟩) ?_
  rotate_left
  · intro w' hSw
    go_simp
    try (with_reducible rfl)
  try simp only [Act.put, List.getElem_toArray, List.getElem_cons_zero, List.getElem_cons_succ, List.setIfInBounds_toArray, List.set_cons_zero, List.set_cons_succ]
  refine wpAnyG_take (i := 4) (v := ?_) rfl (by kernel_rfl) (by kernel_rfl) (by kernel_rfl) (by kernel_rfl) (fun _ _ _ h => h) hS0 (Or.inl ⟨by rfl, ?_⟩) ?_
  rotate_left
  · intro w' hSw
    obtain ⟨s0, s1, s2, s3, s4, s5⟩ := hSw
    go_simp
    try (with_reducible rfl)
  try simp only [Act.put, List.getElem_toArray, List.getElem_cons_zero, List.getElem_cons_succ, List.setIfInBounds_toArray, List.set_cons_zero, List.set_cons_succ]
  refine wpAnyG_take (i := 5) (v := ?_) rfl (by kernel_rfl) (by kernel_rfl) (by kernel_rfl) (by kernel_rfl) (fun _ _ _ h => h) hS0 (Or.inl ⟨by rfl, ?_⟩) ?_
  rotate_left
  · intro w' hSw
    obtain ⟨s0, s1, s2, s3, s4, s5⟩ := hSw
    go_simp
    try (with_reducible rfl)
  try simp only [Act.put, List.getElem_toArray, List.getElem_cons_zero, List.getElem_cons_succ, List.setIfInBounds_toArray, List.set_cons_zero, List.set_cons_succ]
  refine wpAnyG_one (i := 6) (by kernel_rfl) rfl hS0 (fun K' hK => ?_)
  simp only [List.getElem_toArray, List.getElem_cons_zero, List.getElem_cons_succ]
  go_simp
  obtain ⟨x2, hx2⟩ : ∃ x, (x1.alloc (.cells #[.int .i64 A.kind, .int .i64 A.n, .bool A.priv, .slice aa A.args.length ca, .string A.text] 46)).drew = x := ⟨_, rfl⟩
  have hx2' : x1.drew.alloc (.cells #[.int .i64 A.kind, .int .i64 A.n, .bool A.priv, .slice aa A.args.length ca, .string A.text] 46) = x2 := by rw [← hx2]; rfl
  have HB2 : Hid (Below x1.heap.size x1 x2) := Lib.hid (by rw [← hx2]; exact ((Below.refl _ _).alloc (Nat.le_refl _) _).drew)
  have hsrc : Src Tryd.prog 5 28 (.slice (some ⟨x1.heap.size, 0, none⟩) 1 1) [(⟨A, aa, ca⟩ : ActA)].length ([(⟨A, aa, ca⟩ : ActA)].flatMap actE) x2 := by
    rw [← hx2']
    exact Src.ofBox (enc := actE) Tryd.underlying28 (fun _ => rfl) actOne (⟨A, aa, ca⟩ : ActA) _ _ (by simp [actE]) _ (by simp)
  have HSRC := Lib.hid hsrc
  have HP2 := Lib.hid (HP1.out.keep HB2.out)
  have HOW2 : Hid (actOwn lo x2 ⟨A, aa, ca⟩) := Lib.hid (actL.ch (M := fun _ => False) HOW.out.1 (Ch.of_below HB2.out) (fun _ _ h => h))
  have hz2 := HB2.out.size
  have hS1 := fun (p : Addr) (hp : p.block < x1.heap.size) => HB2.out.cell (p := p) hp
  have hS2 : x2.cell? ⟨X, 5, none⟩ = some (.slice al L.length cl) ∧ x2.cell? ⟨w.heap.size, 0, none⟩ = some (.int .i64 A.kind) ∧ x2.cell? ⟨w.heap.size, 1, none⟩ = some (.int .i64 A.n) ∧ x2.cell? ⟨w.heap.size, 2, none⟩ = some (.bool A.priv) ∧ x2.cell? ⟨w.heap.size, 3, none⟩ = some (.slice aa A.args.length ca) ∧ x2.cell? ⟨w.heap.size, 4, none⟩ = some (.string A.text) := ⟨(hS1 ⟨X, 5, none⟩ ylt).trans y_5, (hS1 ⟨w.heap.size, 0, none⟩ hzH).trans z_0, (hS1 ⟨w.heap.size, 1, none⟩ hzH).trans z_1, (hS1 ⟨w.heap.size, 2, none⟩ hzH).trans z_2, (hS1 ⟨w.heap.size, 3, none⟩ hzH).trans z_3, (hS1 ⟨w.heap.size, 4, none⟩ hzH).trans z_4⟩
  clear hsrc hx2' hS1
  rw [hx2]
  clear hx2
  refine hK.out _ _ (Or.inr hS2) ?_
  clear hK K'
  try simp only [Act.put, List.getElem_toArray, List.getElem_cons_zero, List.getElem_cons_succ, List.setIfInBounds_toArray, List.set_cons_zero, List.set_cons_succ]
  refine wpAnyG_one (i := 7) (by kernel_rfl) rfl hS2 (fun K' hK => ?_)
  simp only [List.getElem_toArray, List.getElem_cons_zero, List.getElem_cons_succ]
  rw [if_pos (by rfl)]
  refine step_append_ch (.tmp 14) (.tmp 16) 28 28 lo 46 iA (.agg #[.int .i64 0, .int .i64 0, .bool false, .slice none 0 0, .string ⟨#[]⟩]) 5 64 Tryd.underlying28 hA hA0 hA1 hA2 rfl (by decide) al L.length cl L HP2.out.ps.ro.row (.slice (some ⟨x1.heap.size, 0, none⟩) 1 1) [(⟨A, aa, ca⟩ : ActA)] HSRC.out (by simp; omega) (by omega) ?_ ?_ ?_ ?_
  · rfl
  · rfl
  · rfl
  intro a4 c4 w4 us hus hf hc hk
  have HUS := hus
  have HF := Lib.hid hf
  have HC4 := Lib.hid hc
  have HK := Lib.hid hk
  have hHal : ¬ w.heap.size ∈ blkOf al := fun hb => by
    have := (HP.out.ps.ro.bd actL w.heap.size (by simp [roB, hb])).2
    omega
  have hXal : ¬ X ∈ blkOf al := fun hb => HP.out.ps.nB (by rw [List.mem_append]; right; simp [roB, hb])
  have hS3 := fun (p : Addr) (hp : p.block < x2.heap.size) (hd : ¬ p.block ∈ blkOf al) => HC4.out.cell (p := p) hp hd
  have hS4 : w4.cell? ⟨X, 5, none⟩ = some (.slice al L.length cl) ∧ w4.cell? ⟨w.heap.size, 0, none⟩ = some (.int .i64 A.kind) ∧ w4.cell? ⟨w.heap.size, 1, none⟩ = some (.int .i64 A.n) ∧ w4.cell? ⟨w.heap.size, 2, none⟩ = some (.bool A.priv) ∧ w4.cell? ⟨w.heap.size, 3, none⟩ = some (.slice aa A.args.length ca) ∧ w4.cell? ⟨w.heap.size, 4, none⟩ = some (.string A.text) := ⟨(hS3 ⟨X, 5, none⟩ (by show X < _; omega) hXal).trans hS2.1, (hS3 ⟨w.heap.size, 0, none⟩ (by show w.heap.size < _; omega) hHal).trans hS2.2.1, (hS3 ⟨w.heap.size, 1, none⟩ (by show w.heap.size < _; omega) hHal).trans hS2.2.2.1, (hS3 ⟨w.heap.size, 2, none⟩ (by show w.heap.size < _; omega) hHal).trans hS2.2.2.2.1, (hS3 ⟨w.heap.size, 3, none⟩ (by show w.heap.size < _; omega) hHal).trans hS2.2.2.2.2.1, (hS3 ⟨w.heap.size, 4, none⟩ (by show w.heap.size < _; omega) hHal).trans hS2.2.2.2.2.2⟩
  have HPS4 : Hid (PS X lo p ap cp us a4 c4 w4) := Lib.hid (HP2.out.ps.pushX (x := ⟨A, aa, ca⟩) HOW2.out HOW.out.2 HUS.out HF.out HC4.out HK.out)
  have v_5 := hS4.1
  have vf := HPS4.out.fz
  have vlt := HPS4.out.lt
  clear hus hf hc hk hS3
  refine hK.out _ _ (Or.inr hS4) ?_
  clear hK K'
  try simp only [Act.put, List.getElem_toArray, List.getElem_cons_zero, List.getElem_cons_succ, List.setIfInBounds_toArray, List.set_cons_zero, List.set_cons_succ]
  refine wpAnyG_takeW (i := 8) (v := ?_) rfl (by kernel_rfl) (by kernel_rfl) (by kernel_rfl) (fun _ _ _ h => h) (Or.inl ⟨by rfl, ?_⟩) ?_
  rotate_left
  · intro w' hSw
    go_simp
    try (with_reducible rfl)
  try simp only [Act.put, List.getElem_toArray, List.getElem_cons_zero, List.getElem_cons_succ, List.setIfInBounds_toArray, List.set_cons_zero, List.set_cons_succ]
  refine wpAnyG_takeW (i := 9) (v := ?_) rfl (by kernel_rfl) (by kernel_rfl) (by kernel_rfl) (fun _ _ _ h => h) (Or.inl ⟨by rfl, ?_⟩) ?_
  rotate_left
  · intro w' hSw
    go_simp
    try (with_reducible rfl)
  try simp only [Act.put, List.getElem_toArray, List.getElem_cons_zero, List.getElem_cons_succ, List.setIfInBounds_toArray, List.set_cons_zero, List.set_cons_succ]
  refine wpAnyG_one (i := 10) (by kernel_rfl) rfl hS4 (fun K' hK => ?_)
  simp only [List.getElem_toArray, List.getElem_cons_zero, List.getElem_cons_succ]
  go_simp
  refine hK.out _ _ (Or.inl rfl) ?_
  clear hK K'
  try simp only [Act.put, List.getElem_toArray, List.getElem_cons_zero, List.getElem_cons_succ, List.setIfInBounds_toArray, List.set_cons_zero, List.set_cons_succ]
  refine wpAnyG_done (by kernel_rfl) ?_ _
  go_wp2_with fail
  refine bodyPost_end (v := .tuple #[]) (by simp [results, Tryd.results101]) rfl ?_
  have hq : QS X lo p ap cp us a4 c4 (w4.setCell ⟨X, 5, none⟩ (.slice a4 us.length c4)) := QS.list HPS4.out HP.out.lo rfl v_5
  refine ⟨rfl, ap, cp, us, a4, c4, hq, by rw [HUS.out]; simp, ?_⟩
  have hc : Ch (fun k => k = X ∨ k ∈ blkOf al) w w4 := (Ch.of_below HB1.out).trans ((Ch.of_below (M := fun k => k = X ∨ k ∈ blkOf al) HB2.out).trans HC4.out (fun i hi => .inl (.inr hi))) (fun i hi => .inl hi)
  exact HP.out.below (hc.setCell (p := ⟨X, 5, none⟩) (.inl (.inl rfl)) _)
end
section
open Go.RowKit
set_option maxRecDepth 100000 in
set_option maxHeartbeats 4000000 in
theorem control_r (n : Int) (w : World) : Calls Tryd.prog 78 #[.int .i64 n] w fun e w' => e = .returned (.bool (ctlI n)) ∧ w = w' := by
  have hc : ctlI n = (n == 7 || n == 8 || n == 9 || n == 10 || n == 13) := by
    unfold ctlI inB
    rw [Bool.eq_iff_iff]
    simp only [Bool.or_eq_true, Bool.and_eq_true, decide_eq_true_eq, beq_iff_eq]
    omega
  have HC := Lib.hid hc
  clear hc
  cases q1 : (n == 7) <;> cases q2 : (n == 8) <;> cases q3 : (n == 9) <;> cases q4 : (n == 10) <;> cases q5 : (n == 13)
  all_goals
    have HC2 := HC.out
    rw [q1, q2, q3, q4, q5] at HC2
    have HC3 := Lib.hid HC2
    clear HC2 HC
    go_enter Tryd.func78, Tryd.ntmps78
    go_wp2_with fail
    go_ret
    exact ⟨ret_b (by rw [HC3.out]; rfl), rfl⟩
end
section
open Go.RowKit
def szR (b : Nat) : Nat := if b < 128 then 1 else utfLen b
set_option maxRecDepth 100000 in
set_option maxHeartbeats 1000000 in
theorem size_r (s : ByteArray) (w : World) (h : 0 < s.size) : Calls Tryd.prog 88 #[.string s] w fun e w' => e = .returned (.int .i64 (szR (s[0]'h).toNat : Nat)) ∧ w = w' := by
  have hne : s.toList.isEmpty = false := notEmpty (by omega)
  obtain ⟨x, hx⟩ : ∃ x, s[0]'h = x := ⟨_, rfl⟩
  have h256 : x.toNat < 256 := x.toNat_lt
  rw [hx]
  by_cases c0 : x.toNat < 128
  · have HR : Hid (szR x.toNat = 1) := Lib.hid (by unfold szR; rw [if_pos c0])
    go_enter Tryd.func88, Tryd.ntmps88
    go_wp2_with fail
    go_ret
    exact ⟨ret_i (by rw [HR.out]; rfl), rfl⟩
  obtain ⟨v1, h1⟩ : ∃ v, inB (x.toNat : Int) 194 223 = v := ⟨_, rfl⟩
  obtain ⟨v2, h2⟩ : ∃ v, inB (x.toNat : Int) 224 239 = v := ⟨_, rfl⟩
  obtain ⟨v3, h3⟩ : ∃ v, inB (x.toNat : Int) 240 244 = v := ⟨_, rfl⟩
  have H1 := Lib.hid h1
  have H2 := Lib.hid h2
  have H3 := Lib.hid h3
  have HR : Hid ((szR x.toNat : Int) = if v1 then 2 else if v2 then 3 else if v3 then 4 else 0) := Lib.hid (by
    subst h1 h2 h3
    unfold szR utfLen inB
    rw [if_neg c0]
    simp only [Bool.and_eq_true, decide_eq_true_eq]
    (repeat' split) <;> omega)
  clear h1 h2 h3
  cases v1
  all_goals cases v2
  all_goals cases v3
  all_goals
    go_enter Tryd.func88, Tryd.ntmps88
    go_wp2_with (go_at_call 57; refine (l01In_c _ _ _ _).mono ?_; (first | rw [H1.out] | rw [H2.out] | rw [H3.out]); rintro e w' ⟨rfl, rfl⟩)
    go_ret
    exact ⟨ret_i (by rw [HR.out]; rfl), rfl⟩
end
section
open Go.RowKit
section
variable {X lo : Nat} {p p' : PV} {ap ap' al : Option Addr} {cp cp' cl : Nat} {L us : List ActA} {w w' w1 : World} {R : PV × List AV} {e : Ending}
theorem QR.stay (h : QS X lo p' ap' cp' L al cl w') (h0 : QS X lo p ap cp L al cl w) (hc : Ch (fun k => k = X ∨ k ∈ blkOf al) w w') (hR : R = (p', [])) : QR X lo R L (.returned (.tuple #[])) w w' := by
  subst hR
  exact ⟨rfl, ap', cp', L, al, cl, h, by simp, h0.below hc⟩
theorem QR.only (h : QS X lo p' ap' cp' L al cl w') (h0 : QS X lo p ap cp L al cl w) (hc : Ch (fun k => k = X) w w') (hR : R = (p', [])) : QR X lo R L (.returned (.tuple #[])) w w' :=
  QR.stay h h0 (hc.mono (fun i hi => .inl (.inl hi))) hR
/-- .. seen from an earlier world. -/
theorem QR.base (h : QR X lo R L e w1 w') (hb : Below lo w w1) : QR X lo R L e w w' := by
  obtain ⟨h1, ap', cp', L', al', cl', h2, h3, h4⟩ := h
  exact ⟨h1, ap', cp', L', al', cl', h2, h3, hb.trans h4⟩
/-- .. behind actions told. -/
theorem QR.after {acts : List AV} (h : QR X lo R us e w1 w') (hb : Below lo w w1) (hu : us.map (·.A) = L.map (·.A) ++ acts) : QR X lo (R.1, acts ++ R.2) L e w w' := by
  obtain ⟨h1, ap', cp', L', al', cl', h2, h3, h4⟩ := h
  exact ⟨h1, ap', cp', L', al', cl', h2, by rw [h3, hu]; simp, hb.trans h4⟩
theorem QS.below1 (h : QS X lo p ap cp L al cl w) (hc : Ch (fun k => k = X) w w') : Below lo w w' := h.below (hc.mono (fun i hi => .inl (.inl hi)))
theorem QS.cells (h : QS X lo p ap cp L al cl w) (hc : Ch (fun k => k = X) w w') (c0 : w'.cell? ⟨X, 0, none⟩ = some (.int .i64 p'.state)) (c1 : w'.cell? ⟨X, 1, none⟩ = some (.slice ap' p'.args.length cp')) (c2 : w'.cell? ⟨X, 2, none⟩ = some (.bool p'.priv))
    (c3 : w'.cell? ⟨X, 3, none⟩ = some (.string p'.text)) (c4 : w'.cell? ⟨X, 4, none⟩ = some (.string p'.utf)) (c5 : w'.cell? ⟨X, 5, none⟩ = some (.slice al L.length cl)) (fz : ∀ o, w'.frozen? ⟨X, o, none⟩ = false) (ha : (ap' = ap ∧ cp' = cp ∧ p'.args = p.args) ∨ (ap' = none ∧ cp' = 0 ∧ p'.args = [])) : QS X lo p' ap' cp' L al cl w' :=
  ⟨h.ps.cells hc c0 c1 c2 c3 c4 fz ha, c5, h.lo⟩
end
theorem size1_r (b : UInt8) (u : Nat) (w : World) (h : szR b.toNat = u) : Calls Tryd.prog 88 #[.string ⟨#[b]⟩] w fun e w' => e = .returned (.int .i64 u) ∧ w = w' := by
  subst h
  exact size_r ⟨#[b]⟩ w (by show 0 < 1; omega)
set_option maxRecDepth 100000 in
set_option maxHeartbeats 8000000 in
theorem skip_r (X lo : Nat) (ap al : Option Addr) (cp cl : Nat) (L : List ActA) (b : UInt8) (w : World) (h : QS X lo (pst 3) ap cp L al cl w) (hL : L.length ≤ 1048576) :
    Calls Tryd.prog 92 #[.pointer (some ⟨X, 0, none⟩), .int .i64 b.toNat] w (fun e w' => QR X lo (sstep (pst 3) b) L e w w') := by
  have HP := Lib.hid h
  have k_0 := h.ps.c0
  have k_1 := h.ps.c1
  have k_2 := h.ps.c2
  have k_3 := h.ps.c3
  have k_4 := h.ps.c4
  have k_5 := h.c5
  have kf := h.ps.fz
  have klt := h.ps.lt
  have hlo : lo ≤ w.heap.size := by have := h.lo; omega
  have h256 : b.toNat < 256 := b.toNat_lt
  clear h
  obtain ⟨Gr, hG⟩ : ∃ G, sstep (pst 3) b = G := ⟨_, rfl⟩
  have HGG := Lib.hid hG
  rw [hG]
  clear hG
  obtain ⟨n, hn⟩ : ∃ n, b.toNat = n := ⟨_, rfl⟩
  rw [hn] at h256 ⊢
  have HN := Lib.hid hn
  clear hn
  by_cases h27 : n = 27
  case pos =>
    have HR : Hid (Gr = (pst 1, [])) := Lib.hid (by rw [← HGG.out]; exact ss1 HN.out h27)
    have g27 : ((n : Int) == 27) = true := by subst h27; rfl
    clear h27
    go_enter Tryd.func92, Tryd.ntmps92
    go_wp2_with fail
    refine bodyPost_end (v := .tuple #[]) (by simp [results, Tryd.results92]) rfl ?_
    refine QR.only (p' := pst 1) (HP.out.cells ?hc ?_ ?_ ?_ ?_ ?_ ?_ ?_ (.inl ⟨rfl, rfl, rfl⟩)) HP.out ?hc HR.out
    case hc => repeat (first | (with_reducible exact Ch.refl) | (with_reducible refine Ch.alloc ?_ _) | (with_reducible refine Ch.drew ?_) | (with_reducible refine Ch.setB ?_ _ _))
    all_goals first | (intro o; simp [go_sem, kf, klt]; done) | (simp [go_sem, k_0, k_1, k_2, k_3, k_4, k_5, klt, pst, pz]; done)
  have g27 : ((n : Int) == 27) = false := beq_eq_false_iff_ne.2 (by omega)
  obtain ⟨v, hv⟩ : ∃ v, inB (n : Int) 64 126 = v := ⟨_, rfl⟩
  have HV := Lib.hid hv
  clear hv
  cases v
  case false =>
    have HR : Hid (Gr = (pst 3, [])) := Lib.hid (by rw [← HGG.out]; exact ss3 HN.out h27 (by have := HV.out; simp [inB] at this; omega))
    go_enter Tryd.func92, Tryd.ntmps92
    go_wp2_with (go_at_call 57; refine (l01In_c _ _ _ _).mono ?_; rw [HV.out]; rintro e w' ⟨rfl, rfl⟩)
    refine bodyPost_end (v := .tuple #[]) (by simp [results, Tryd.results92]) rfl ?_
    exact QR.only HP.out HP.out Ch.refl HR.out
  have HR : Hid (Gr = (pz, [])) := Lib.hid (by rw [← HGG.out]; exact ss2 HN.out (by have := HV.out; simp [inB] at this; omega))
  go_enter Tryd.func92, Tryd.ntmps92
  go_wp2_with (go_at_call 57; refine (l01In_c _ _ _ _).mono ?_; rw [HV.out]; rintro e w' ⟨rfl, rfl⟩)
  refine (ground_r X lo _ ap al cp cl L _ HP.out).mono ?_
  rintro e w1 ⟨rfl, g, hg, hq, hc⟩
  have HQ := Lib.hid hq
  have HC := Lib.hid hc
  clear hq hc
  go_wp2_with fail
  refine bodyPost_end (v := .tuple #[]) (by simp [results, Tryd.results92]) rfl ?_
  exact QR.only HQ.out HP.out HC.out HR.out
set_option maxRecDepth 100000 in
set_option maxHeartbeats 8000000 in
theorem plain_r (X lo : Nat) (ap al : Option Addr) (cp cl : Nat) (L : List ActA) (b : UInt8) (w : World) (h : QS X lo pz ap cp L al cl w) (hL : L.length ≤ 1048576) :
    Calls Tryd.prog 96 #[.pointer (some ⟨X, 0, none⟩), .int .i64 b.toNat] w (fun e w' => QR X lo (gstep b) L e w w') := by
  have HP := Lib.hid h
  have k_0 := h.ps.c0
  have k_1 := h.ps.c1
  have k_2 := h.ps.c2
  have k_3 := h.ps.c3
  have k_4 := h.ps.c4
  have k_5 := h.c5
  have kf := h.ps.fz
  have klt := h.ps.lt
  have hlo : lo ≤ w.heap.size := by have := h.lo; omega
  have h256 : b.toNat < 256 := b.toNat_lt
  clear h
  obtain ⟨Gr, hG⟩ : ∃ G, gstep b = G := ⟨_, rfl⟩
  have HGG := Lib.hid hG
  rw [hG]
  clear hG
  obtain ⟨n, hn⟩ : ∃ n, b.toNat = n := ⟨_, rfl⟩
  rw [hn] at h256 ⊢
  have HN := Lib.hid hn
  clear hn
  by_cases h27 : n = 27
  case pos =>
    have HR : Hid (Gr = (pst 1, [])) := Lib.hid (by rw [← HGG.out]; exact gs1 (HN.out.trans h27))
    have g27 : ((n : Int) == 27) = true := by subst h27; rfl
    clear h27
    go_enter Tryd.func96, Tryd.ntmps96
    go_wp2_with fail
    refine bodyPost_end (v := .tuple #[]) (by simp [results, Tryd.results96]) rfl ?_
    refine QR.only (p' := pst 1) (HP.out.cells ?hc ?_ ?_ ?_ ?_ ?_ ?_ ?_ (.inl ⟨rfl, rfl, rfl⟩)) HP.out ?hc HR.out
    case hc => repeat (first | (with_reducible exact Ch.refl) | (with_reducible refine Ch.alloc ?_ _) | (with_reducible refine Ch.drew ?_) | (with_reducible refine Ch.setB ?_ _ _))
    all_goals first | (intro o; simp [go_sem, kf, klt]; done) | (simp [go_sem, k_0, k_1, k_2, k_3, k_4, k_5, klt, pst, pz]; done)
  have g27 : ((n : Int) == 27) = false := beq_eq_false_iff_ne.2 (by omega)
  obtain ⟨c, hc⟩ : ∃ c, ctl n = c := ⟨_, rfl⟩
  have HCC := Lib.hid hc
  have HCT : Hid (ctlI (n : Int) = c) := Lib.hid (by rw [ctl_eq]; exact hc)
  clear hc
  have hne : ¬ b.toNat = 27 := by rw [HN.out]; exact h27
  have HNE := Lib.hid hne
  clear hne
  cases c
  case true =>
    have HR : Hid (Gr = (pz, [⟨2, n, false, [], e0⟩])) := Lib.hid (by rw [← HGG.out, ← HN.out]; exact gs2 HNE.out (by rw [HN.out]; exact HCC.out))
    go_enter Tryd.func96, Tryd.ntmps96
    go_wp2_with (go_at_call 78; refine (control_r _ _).mono ?_; rw [HCT.out]; rintro e w' ⟨rfl, rfl⟩)
    refine (tell_r X lo pz ap al none cp cl 0 L ⟨2, n, false, [], e0⟩ _ HP.out (FreshIn.nil _ _ _ _ _ _) (by simp [blkOf]) hL (by simp)).mono ?_
    rintro e w1 hq
    have HQ := Lib.hid hq
    obtain ⟨rfl, _⟩ := hq
    go_wp2_with fail
    refine bodyPost_end (v := .tuple #[]) (by simp [results, Tryd.results96]) rfl ?_
    rw [HR.out]
    exact HQ.out
  obtain ⟨v, hv⟩ : ∃ v, inB (n : Int) 32 126 = v := ⟨_, rfl⟩
  have HV := Lib.hid hv
  clear hv
  cases v
  case true =>
    have HR : Hid (Gr = (pz, [pr n])) := Lib.hid (by rw [← HGG.out, ← HN.out]; exact gs3 HNE.out (by rw [HN.out]; exact HCC.out) (by rw [HN.out]; have := HV.out; simp [inB] at this; omega))
    go_enter Tryd.func96, Tryd.ntmps96
    go_wp2_with (first | (go_at_call 78; refine (control_r _ _).mono ?_; rw [HCT.out]; rintro e w' ⟨rfl, rfl⟩) | (go_at_call 57; refine (l01In_c _ _ _ _).mono ?_; rw [HV.out]; rintro e w' ⟨rfl, rfl⟩))
    refine (tell_r X lo pz ap al none cp cl 0 L ⟨1, n, false, [], e0⟩ _ HP.out (FreshIn.nil _ _ _ _ _ _) (by simp [blkOf]) hL (by simp)).mono ?_
    rintro e w1 hq
    have HQ := Lib.hid hq
    obtain ⟨rfl, _⟩ := hq
    go_wp2_with fail
    refine bodyPost_end (v := .tuple #[]) (by simp [results, Tryd.results96]) rfl ?_
    rw [HR.out]
    exact HQ.out
  have hnv : ¬ (32 ≤ n ∧ n ≤ 126) := by have := HV.out; simp [inB] at this; omega
  by_cases h128 : n < 128
  case pos =>
    have HR : Hid (Gr = (pz, [])) := Lib.hid (by rw [← HGG.out]; exact gs4 HNE.out (by rw [HN.out]; exact HCC.out) (by rw [HN.out]; exact hnv) (by rw [HN.out]; exact h128))
    have g128 : decide ((n : Int) < 128) = true := decide_eq_true (by omega)
    have g128' : (n : Int) < 128 := by omega
    go_enter Tryd.func96, Tryd.ntmps96
    go_wp2_with (first | (go_at_call 78; refine (control_r _ _).mono ?_; rw [HCT.out]; rintro e w' ⟨rfl, rfl⟩) | (go_at_call 57; refine (l01In_c _ _ _ _).mono ?_; rw [HV.out]; rintro e w' ⟨rfl, rfl⟩))
    refine bodyPost_end (v := .tuple #[]) (by simp [results, Tryd.results96]) rfl ?_
    exact QR.only HP.out HP.out Ch.refl HR.out
  have g128 : ¬ (n : Int) < 128 := by omega
  have hw8 : IntKind.u8.wrap (n : Int) = n := u8_in (by omega) (by omega)
  have hcv := conv1 w b n HN.out
  by_cases hu : 0 < utfLen n
  case pos =>
    have HR : Hid (Gr = (⟨6, [], false, e0, ⟨#[b]⟩⟩, [])) := Lib.hid (by rw [← HGG.out]; exact gs5 (by rw [HN.out]; omega) (by rw [HN.out]; exact hu))
    obtain ⟨u, hu2⟩ : ∃ u, utfLen n = u := ⟨_, rfl⟩
    have HSZ : Hid (szR b.toNat = u) := Lib.hid (by rw [HN.out]; unfold szR; rw [if_neg h128]; exact hu2)
    have hu1 : (1 : Int) < (u : Int) := by have := utfLen_two hu; omega
    clear hu hu2
    go_enter Tryd.func96, Tryd.ntmps96
    go_upto_region 10 with (first | (go_at_call 78; refine (control_r _ _).mono ?_; rw [HCT.out]; rintro e w' ⟨rfl, rfl⟩) | (go_at_call 57; refine (l01In_c _ _ _ _).mono ?_; rw [HV.out]; rintro e w' ⟨rfl, rfl⟩) | (go_at_call 88; refine (size1_r b _ _ HSZ.out).mono ?_; rintro e w' ⟨rfl, rfl⟩))
    clear hcv
    obtain ⟨x, hx⟩ : ∃ x, (w.setCell ⟨X, 0, none⟩ (.int .i64 6)).alloc (.cells #[.int .u8 n] 5) = x := ⟨_, rfl⟩
    have HCX : Hid (Ch (fun k => k = X) w x) := Lib.hid (by rw [← hx]; exact (Ch.set1 _ _ _ _).alloc _)
    have x_0 : x.cell? ⟨X, 0, none⟩ = some (.int .i64 6) := by rw [← hx]; simp [go_sem, k_0, klt]
    have x_1 : x.cell? ⟨X, 1, none⟩ = some (.slice ap 0 cp) := by rw [← hx]; simp [go_sem, k_1, klt, pz]
    have x_2 : x.cell? ⟨X, 2, none⟩ = some (.bool false) := by rw [← hx]; simp [go_sem, k_2, klt, pz]
    have x_3 : x.cell? ⟨X, 3, none⟩ = some (.string e0) := by rw [← hx]; simp [go_sem, k_3, klt, pz]
    have x_4 : x.cell? ⟨X, 4, none⟩ = some (.string e0) := by rw [← hx]; simp [go_sem, k_4, klt, pz]
    have x_5 : x.cell? ⟨X, 5, none⟩ = some (.slice al L.length cl) := by rw [← hx]; simp [go_sem, k_5, klt]
    have xf : ∀ o, x.frozen? ⟨X, o, none⟩ = false := by intro o; rw [← hx]; simp [go_sem, kf, klt]
    have xlt : X < x.heap.size := Nat.lt_of_lt_of_le klt HCX.out.size
    rw [hx]
    clear hx
    have hcx := conv1 x b n HN.out
    go_wp2_with fail
    clear hcx
    refine bodyPost_end (v := .tuple #[]) (by simp [results, Tryd.results96]) rfl ?_
    refine QR.only (p' := ⟨6, [], false, e0, ⟨#[b]⟩⟩) (HP.out.cells (HCX.out.trans ?hc (fun i hi => .inl hi)) ?_ ?_ ?_ ?_ ?_ ?_ ?_ (.inl ⟨rfl, rfl, rfl⟩)) HP.out (HCX.out.trans ?hc (fun i hi => .inl hi)) HR.out
    case hc => repeat (first | (with_reducible exact Ch.refl) | (with_reducible refine Ch.alloc ?_ _) | (with_reducible refine Ch.drew ?_) | (with_reducible refine Ch.setB ?_ _ _))
    all_goals first | (intro o; simp [go_sem, xf, xlt]; done) | (simp [go_sem, x_0, x_1, x_2, x_3, x_4, x_5, xlt]; done)
  have HR : Hid (Gr = (pz, [pr 65533])) := Lib.hid (by rw [← HGG.out]; exact gs6 (by rw [HN.out]; omega) (by rw [HN.out]; exact hu))
  have HSZ : Hid (szR b.toNat = 0) := Lib.hid (by rw [HN.out]; unfold szR; rw [if_neg h128]; omega)
  clear hu
  go_enter Tryd.func96, Tryd.ntmps96
  go_wp2_with (first | (go_at_call 78; refine (control_r _ _).mono ?_; rw [HCT.out]; rintro e w' ⟨rfl, rfl⟩) | (go_at_call 57; refine (l01In_c _ _ _ _).mono ?_; rw [HV.out]; rintro e w' ⟨rfl, rfl⟩) | (go_at_call 88; refine (size1_r b _ _ HSZ.out).mono ?_; rintro e w' ⟨rfl, rfl⟩))
  clear hcv
  refine (tell_r X lo pz ap al none cp cl 0 L ⟨1, 65533, false, [], e0⟩ _ (HP.out.keep ((Below.refl _ _).alloc (Nat.le_refl _) _)) (FreshIn.nil _ _ _ _ _ _) (by simp [blkOf]) hL (by simp)).mono ?_
  rintro e w1 hq
  have HQ := Lib.hid (hq.base ((Below.refl lo w).alloc hlo _))
  obtain ⟨rfl, _⟩ := hq
  go_wp2_with fail
  refine bodyPost_end (v := .tuple #[]) (by simp [results, Tryd.results96]) rfl ?_
  rw [HR.out]
  exact HQ.out
end
section
open Go.RowKit
set_option maxRecDepth 100000 in
set_option maxHeartbeats 8000000 in
theorem escape_r (X lo : Nat) (ap al : Option Addr) (cp cl : Nat) (L : List ActA) (b : UInt8) (w : World) (h : QS X lo (pst 1) ap cp L al cl w) (hL : L.length ≤ 1048576) :
    Calls Tryd.prog 90 #[.pointer (some ⟨X, 0, none⟩), .int .i64 b.toNat] w (fun e w' => QR X lo (estep b) L e w w') := by
  have HP := Lib.hid h
  have k_0 := h.ps.c0
  have k_1 := h.ps.c1
  have k_2 := h.ps.c2
  have k_3 := h.ps.c3
  have k_4 := h.ps.c4
  have k_5 := h.c5
  have kf := h.ps.fz
  have klt := h.ps.lt
  have hlo : lo ≤ w.heap.size := by have := h.lo; omega
  have h256 : b.toNat < 256 := b.toNat_lt
  clear h
  obtain ⟨Gr, hG⟩ : ∃ G, estep b = G := ⟨_, rfl⟩
  have HGG := Lib.hid hG
  rw [hG]
  clear hG
  obtain ⟨n, hn⟩ : ∃ n, b.toNat = n := ⟨_, rfl⟩
  rw [hn] at h256 ⊢
  have HN := Lib.hid hn
  clear hn
  by_cases h91 : n = 91
  case pos =>
    have HR : Hid (Gr = (⟨2, [-1], false, e0, e0⟩, [])) := Lib.hid (by rw [← HGG.out]; exact es1 HN.out h91)
    have g91 : ((n : Int) == 91) = true := by subst h91; rfl
    clear h91
    go_enter Tryd.func90, Tryd.ntmps90
    go_wp2_with fail
    refine bodyPost_end (v := .tuple #[]) (by simp [results, Tryd.results90]) rfl ?_
    refine QR.only (p' := ⟨2, [-1], false, e0, e0⟩) (ap' := some ⟨w.heap.size, 0, none⟩) (cp' := 1) ⟨HP.out.ps.cellsNew ?hc (Nat.le_refl _) (fresh_one _ _ _ _ (by simp [World.setCell]) (by simp [World.setCell]; omega)) ?_ ?_ ?_ ?_ ?_ ?_, ?_, HP.out.lo⟩ HP.out ?hc HR.out
    case hc => repeat (first | (with_reducible exact Ch.refl) | (with_reducible refine Ch.alloc ?_ _) | (with_reducible refine Ch.drew ?_) | (with_reducible refine Ch.setB ?_ _ _))
    all_goals first | (intro o; simp [go_sem, kf, klt]; done) | (simp [go_sem, k_0, k_1, k_2, k_3, k_4, k_5, klt, pst, pz]; done)
  have g91 : ((n : Int) == 91) = false := beq_eq_false_iff_ne.2 (by omega)
  by_cases h93 : n = 93
  case pos =>
    have HR : Hid (Gr = (pst 4, [])) := Lib.hid (by rw [← HGG.out]; exact es2 HN.out h93)
    have g93 : ((n : Int) == 93) = true := by subst h93; rfl
    clear h93
    go_enter Tryd.func90, Tryd.ntmps90
    go_wp2_with fail
    refine bodyPost_end (v := .tuple #[]) (by simp [results, Tryd.results90]) rfl ?_
    refine QR.only (p' := pst 4) (HP.out.cells ?hc ?_ ?_ ?_ ?_ ?_ ?_ ?_ (.inl ⟨rfl, rfl, rfl⟩)) HP.out ?hc HR.out
    case hc => repeat (first | (with_reducible exact Ch.refl) | (with_reducible refine Ch.alloc ?_ _) | (with_reducible refine Ch.drew ?_) | (with_reducible refine Ch.setB ?_ _ _))
    all_goals first | (intro o; simp [go_sem, kf, klt]; done) | (simp [go_sem, k_0, k_1, k_2, k_3, k_4, k_5, klt, pst, pz]; done)
  have g93 : ((n : Int) == 93) = false := beq_eq_false_iff_ne.2 (by omega)
  by_cases h27 : n = 27
  case pos =>
    have HR : Hid (Gr = (pst 1, [])) := Lib.hid (by rw [← HGG.out]; exact es3 HN.out h27)
    have g27 : ((n : Int) == 27) = true := by subst h27; rfl
    clear h27
    go_enter Tryd.func90, Tryd.ntmps90
    go_wp2_with fail
    refine bodyPost_end (v := .tuple #[]) (by simp [results, Tryd.results90]) rfl ?_
    exact QR.only HP.out HP.out Ch.refl HR.out
  have g27 : ((n : Int) == 27) = false := beq_eq_false_iff_ne.2 (by omega)
  obtain ⟨c, hc⟩ : ∃ c, esc n = c := ⟨_, rfl⟩
  have HCC := Lib.hid hc
  cases c
  case false =>
    have HR : Hid (Gr = (pz, [])) := Lib.hid (by rw [← HGG.out]; exact es5 HN.out h91 h93 h27 HCC.out)
    simp only [esc, Bool.or_eq_false_iff, beq_eq_false_iff_ne] at hc
    have q55 : ((n : Int) == 55) = false := beq_eq_false_iff_ne.2 (by omega)
    have q56 : ((n : Int) == 56) = false := beq_eq_false_iff_ne.2 (by omega)
    have q68 : ((n : Int) == 68) = false := beq_eq_false_iff_ne.2 (by omega)
    have q69 : ((n : Int) == 69) = false := beq_eq_false_iff_ne.2 (by omega)
    have q77 : ((n : Int) == 77) = false := beq_eq_false_iff_ne.2 (by omega)
    have q99 : ((n : Int) == 99) = false := beq_eq_false_iff_ne.2 (by omega)
    clear hc
    go_enter Tryd.func90, Tryd.ntmps90
    go_wp2_with fail
    refine (ground_r X lo _ ap al cp cl L _ HP.out).mono ?_
    rintro e w1 ⟨rfl, g, hg, hq, hc⟩
    have HQ := Lib.hid hq
    have HC := Lib.hid hc
    clear hq hc
    go_wp2_with fail
    refine bodyPost_end (v := .tuple #[]) (by simp [results, Tryd.results90]) rfl ?_
    exact QR.only HQ.out HP.out HC.out HR.out
  have HR : Hid (Gr = (pz, [⟨3, n, false, [], e0⟩])) := Lib.hid (by rw [← HGG.out]; exact es4 HN.out h91 h93 h27 HCC.out)
  simp only [esc, Bool.or_eq_true, beq_iff_eq] at hc
  have hcs : n = 55 ∨ n = 56 ∨ n = 68 ∨ n = 69 ∨ n = 77 ∨ n = 99 := by omega
  clear hc
  rcases hcs with hc | hc | hc | hc | hc | hc
  · have q55 : ((n : Int) == 55) = true := by rw [hc]; rfl
    have q56 : ((n : Int) == 56) = false := beq_eq_false_iff_ne.2 (by omega)
    have q68 : ((n : Int) == 68) = false := beq_eq_false_iff_ne.2 (by omega)
    have q69 : ((n : Int) == 69) = false := beq_eq_false_iff_ne.2 (by omega)
    have q77 : ((n : Int) == 77) = false := beq_eq_false_iff_ne.2 (by omega)
    have q99 : ((n : Int) == 99) = false := beq_eq_false_iff_ne.2 (by omega)
    clear hc
    go_enter Tryd.func90, Tryd.ntmps90
    go_wp2_with fail
    refine (ground_r X lo _ ap al cp cl L _ HP.out).mono ?_
    rintro e w1 ⟨rfl, g, hg, hq, hc⟩
    have HQ := Lib.hid hq
    have HC := Lib.hid hc
    clear hq hc
    go_wp2_with fail
    refine (tell_r X lo pz (some ⟨g, 0, none⟩) al none 0 cl 0 L ⟨3, n, false, [], e0⟩ _ HQ.out (FreshIn.nil _ _ _ _ _ _) (by simp [blkOf]) hL (by simp)).mono ?_
    rintro e w2 hq
    have HQ2 := Lib.hid (hq.base (HP.out.below1 HC.out))
    obtain ⟨rfl, _⟩ := hq
    go_wp2_with fail
    refine bodyPost_end (v := .tuple #[]) (by simp [results, Tryd.results90]) rfl ?_
    rw [HR.out]
    exact HQ2.out
  · have q55 : ((n : Int) == 55) = false := beq_eq_false_iff_ne.2 (by omega)
    have q56 : ((n : Int) == 56) = true := by rw [hc]; rfl
    have q68 : ((n : Int) == 68) = false := beq_eq_false_iff_ne.2 (by omega)
    have q69 : ((n : Int) == 69) = false := beq_eq_false_iff_ne.2 (by omega)
    have q77 : ((n : Int) == 77) = false := beq_eq_false_iff_ne.2 (by omega)
    have q99 : ((n : Int) == 99) = false := beq_eq_false_iff_ne.2 (by omega)
    clear hc
    go_enter Tryd.func90, Tryd.ntmps90
    go_wp2_with fail
    refine (ground_r X lo _ ap al cp cl L _ HP.out).mono ?_
    rintro e w1 ⟨rfl, g, hg, hq, hc⟩
    have HQ := Lib.hid hq
    have HC := Lib.hid hc
    clear hq hc
    go_wp2_with fail
    refine (tell_r X lo pz (some ⟨g, 0, none⟩) al none 0 cl 0 L ⟨3, n, false, [], e0⟩ _ HQ.out (FreshIn.nil _ _ _ _ _ _) (by simp [blkOf]) hL (by simp)).mono ?_
    rintro e w2 hq
    have HQ2 := Lib.hid (hq.base (HP.out.below1 HC.out))
    obtain ⟨rfl, _⟩ := hq
    go_wp2_with fail
    refine bodyPost_end (v := .tuple #[]) (by simp [results, Tryd.results90]) rfl ?_
    rw [HR.out]
    exact HQ2.out
  · have q55 : ((n : Int) == 55) = false := beq_eq_false_iff_ne.2 (by omega)
    have q56 : ((n : Int) == 56) = false := beq_eq_false_iff_ne.2 (by omega)
    have q68 : ((n : Int) == 68) = true := by rw [hc]; rfl
    have q69 : ((n : Int) == 69) = false := beq_eq_false_iff_ne.2 (by omega)
    have q77 : ((n : Int) == 77) = false := beq_eq_false_iff_ne.2 (by omega)
    have q99 : ((n : Int) == 99) = false := beq_eq_false_iff_ne.2 (by omega)
    clear hc
    go_enter Tryd.func90, Tryd.ntmps90
    go_wp2_with fail
    refine (ground_r X lo _ ap al cp cl L _ HP.out).mono ?_
    rintro e w1 ⟨rfl, g, hg, hq, hc⟩
    have HQ := Lib.hid hq
    have HC := Lib.hid hc
    clear hq hc
    go_wp2_with fail
    refine (tell_r X lo pz (some ⟨g, 0, none⟩) al none 0 cl 0 L ⟨3, n, false, [], e0⟩ _ HQ.out (FreshIn.nil _ _ _ _ _ _) (by simp [blkOf]) hL (by simp)).mono ?_
    rintro e w2 hq
    have HQ2 := Lib.hid (hq.base (HP.out.below1 HC.out))
    obtain ⟨rfl, _⟩ := hq
    go_wp2_with fail
    refine bodyPost_end (v := .tuple #[]) (by simp [results, Tryd.results90]) rfl ?_
    rw [HR.out]
    exact HQ2.out
  · have q55 : ((n : Int) == 55) = false := beq_eq_false_iff_ne.2 (by omega)
    have q56 : ((n : Int) == 56) = false := beq_eq_false_iff_ne.2 (by omega)
    have q68 : ((n : Int) == 68) = false := beq_eq_false_iff_ne.2 (by omega)
    have q69 : ((n : Int) == 69) = true := by rw [hc]; rfl
    have q77 : ((n : Int) == 77) = false := beq_eq_false_iff_ne.2 (by omega)
    have q99 : ((n : Int) == 99) = false := beq_eq_false_iff_ne.2 (by omega)
    clear hc
    go_enter Tryd.func90, Tryd.ntmps90
    go_wp2_with fail
    refine (ground_r X lo _ ap al cp cl L _ HP.out).mono ?_
    rintro e w1 ⟨rfl, g, hg, hq, hc⟩
    have HQ := Lib.hid hq
    have HC := Lib.hid hc
    clear hq hc
    go_wp2_with fail
    refine (tell_r X lo pz (some ⟨g, 0, none⟩) al none 0 cl 0 L ⟨3, n, false, [], e0⟩ _ HQ.out (FreshIn.nil _ _ _ _ _ _) (by simp [blkOf]) hL (by simp)).mono ?_
    rintro e w2 hq
    have HQ2 := Lib.hid (hq.base (HP.out.below1 HC.out))
    obtain ⟨rfl, _⟩ := hq
    go_wp2_with fail
    refine bodyPost_end (v := .tuple #[]) (by simp [results, Tryd.results90]) rfl ?_
    rw [HR.out]
    exact HQ2.out
  · have q55 : ((n : Int) == 55) = false := beq_eq_false_iff_ne.2 (by omega)
    have q56 : ((n : Int) == 56) = false := beq_eq_false_iff_ne.2 (by omega)
    have q68 : ((n : Int) == 68) = false := beq_eq_false_iff_ne.2 (by omega)
    have q69 : ((n : Int) == 69) = false := beq_eq_false_iff_ne.2 (by omega)
    have q77 : ((n : Int) == 77) = true := by rw [hc]; rfl
    have q99 : ((n : Int) == 99) = false := beq_eq_false_iff_ne.2 (by omega)
    clear hc
    go_enter Tryd.func90, Tryd.ntmps90
    go_wp2_with fail
    refine (ground_r X lo _ ap al cp cl L _ HP.out).mono ?_
    rintro e w1 ⟨rfl, g, hg, hq, hc⟩
    have HQ := Lib.hid hq
    have HC := Lib.hid hc
    clear hq hc
    go_wp2_with fail
    refine (tell_r X lo pz (some ⟨g, 0, none⟩) al none 0 cl 0 L ⟨3, n, false, [], e0⟩ _ HQ.out (FreshIn.nil _ _ _ _ _ _) (by simp [blkOf]) hL (by simp)).mono ?_
    rintro e w2 hq
    have HQ2 := Lib.hid (hq.base (HP.out.below1 HC.out))
    obtain ⟨rfl, _⟩ := hq
    go_wp2_with fail
    refine bodyPost_end (v := .tuple #[]) (by simp [results, Tryd.results90]) rfl ?_
    rw [HR.out]
    exact HQ2.out
  · have q55 : ((n : Int) == 55) = false := beq_eq_false_iff_ne.2 (by omega)
    have q56 : ((n : Int) == 56) = false := beq_eq_false_iff_ne.2 (by omega)
    have q68 : ((n : Int) == 68) = false := beq_eq_false_iff_ne.2 (by omega)
    have q69 : ((n : Int) == 69) = false := beq_eq_false_iff_ne.2 (by omega)
    have q77 : ((n : Int) == 77) = false := beq_eq_false_iff_ne.2 (by omega)
    have q99 : ((n : Int) == 99) = true := by rw [hc]; rfl
    clear hc
    go_enter Tryd.func90, Tryd.ntmps90
    go_wp2_with fail
    refine (ground_r X lo _ ap al cp cl L _ HP.out).mono ?_
    rintro e w1 ⟨rfl, g, hg, hq, hc⟩
    have HQ := Lib.hid hq
    have HC := Lib.hid hc
    clear hq hc
    go_wp2_with fail
    refine (tell_r X lo pz (some ⟨g, 0, none⟩) al none 0 cl 0 L ⟨3, n, false, [], e0⟩ _ HQ.out (FreshIn.nil _ _ _ _ _ _) (by simp [blkOf]) hL (by simp)).mono ?_
    rintro e w2 hq
    have HQ2 := Lib.hid (hq.base (HP.out.below1 HC.out))
    obtain ⟨rfl, _⟩ := hq
    go_wp2_with fail
    refine bodyPost_end (v := .tuple #[]) (by simp [results, Tryd.results90]) rfl ?_
    rw [HR.out]
    exact HQ2.out
end
section
open Go.RowKit
set_option maxRecDepth 100000 in
set_option maxHeartbeats 4000000 in
theorem takeG_r (X lo : Nat) (ap al : Option Addr) (cp cl : Nat) (L : List ActA) (b : UInt8) (w : World) (h : QS X lo pz ap cp L al cl w) (hL : L.length ≤ 1048576) :
    Calls Tryd.prog 73 #[.pointer (some ⟨X, 0, none⟩), .int .i64 b.toNat] w (fun e w' => QR X lo (gstep b) L e w w') := by
  have HCA := Lib.hid (plain_r X lo ap al cp cl L b w h hL)
  have k_0 : w.cell? ⟨X, 0, none⟩ = some (.int .i64 0) := h.ps.c0
  have kf := h.ps.fz
  have klt := h.ps.lt
  clear h
  go_enter Tryd.func73, Tryd.ntmps73
  go_wp2_with fail
  refine HCA.out.mono ?_
  rintro e w1 hq
  have HQ := Lib.hid hq
  obtain ⟨rfl, _⟩ := hq
  go_wp2_with fail
  refine bodyPost_end (v := .tuple #[]) (by simp [results, Tryd.results73]) rfl ?_
  exact HQ.out
set_option maxRecDepth 100000 in
set_option maxHeartbeats 4000000 in
theorem takeE_r (X lo : Nat) (ap al : Option Addr) (cp cl : Nat) (L : List ActA) (b : UInt8) (w : World) (h : QS X lo (pst 1) ap cp L al cl w) (hL : L.length ≤ 1048576) :
    Calls Tryd.prog 73 #[.pointer (some ⟨X, 0, none⟩), .int .i64 b.toNat] w (fun e w' => QR X lo (estep b) L e w w') := by
  have HCA := Lib.hid (escape_r X lo ap al cp cl L b w h hL)
  have k_0 : w.cell? ⟨X, 0, none⟩ = some (.int .i64 1) := h.ps.c0
  have kf := h.ps.fz
  have klt := h.ps.lt
  clear h
  go_enter Tryd.func73, Tryd.ntmps73
  go_wp2_with fail
  refine HCA.out.mono ?_
  rintro e w1 hq
  have HQ := Lib.hid hq
  obtain ⟨rfl, _⟩ := hq
  go_wp2_with fail
  refine bodyPost_end (v := .tuple #[]) (by simp [results, Tryd.results73]) rfl ?_
  exact HQ.out
set_option maxRecDepth 100000 in
set_option maxHeartbeats 4000000 in
theorem takeS_r (X lo : Nat) (ap al : Option Addr) (cp cl : Nat) (L : List ActA) (b : UInt8) (w : World) (h : QS X lo (pst 3) ap cp L al cl w) (hL : L.length ≤ 1048576) :
    Calls Tryd.prog 73 #[.pointer (some ⟨X, 0, none⟩), .int .i64 b.toNat] w (fun e w' => QR X lo (sstep (pst 3) b) L e w w') := by
  have HCA := Lib.hid (skip_r X lo ap al cp cl L b w h hL)
  have k_0 : w.cell? ⟨X, 0, none⟩ = some (.int .i64 3) := h.ps.c0
  have kf := h.ps.fz
  have klt := h.ps.lt
  clear h
  go_enter Tryd.func73, Tryd.ntmps73
  go_wp2_with fail
  refine HCA.out.mono ?_
  rintro e w1 hq
  have HQ := Lib.hid hq
  obtain ⟨rfl, _⟩ := hq
  go_wp2_with fail
  refine bodyPost_end (v := .tuple #[]) (by simp [results, Tryd.results73]) rfl ?_
  exact HQ.out
set_option maxRecDepth 100000 in
set_option maxHeartbeats 8000000 in
theorem oscEnd_r (t : ByteArray) (X lo : Nat) (ap al : Option Addr) (cp cl : Nat) (L : List ActA) (b : UInt8) (w : World) (h : QS X lo ⟨5, [], false, t, e0⟩ ap cp L al cl w) (hL : L.length ≤ 1048576) :
    Calls Tryd.prog 94 #[.pointer (some ⟨X, 0, none⟩), .int .i64 b.toNat] w (fun e w' => QR X lo (qstep ⟨5, [], false, t, e0⟩ b) L e w w') := by
  have HP := Lib.hid h
  have k_0 := h.ps.c0
  have k_1 := h.ps.c1
  have k_2 := h.ps.c2
  have k_3 := h.ps.c3
  have k_4 := h.ps.c4
  have k_5 := h.c5
  have kf := h.ps.fz
  have klt := h.ps.lt
  have hlo : lo ≤ w.heap.size := by have := h.lo; omega
  have h256 : b.toNat < 256 := b.toNat_lt
  clear h
  obtain ⟨Gr, hG⟩ : ∃ G, qstep ⟨5, [], false, t, e0⟩ b = G := ⟨_, rfl⟩
  have HGG := Lib.hid hG
  rw [hG]
  clear hG
  obtain ⟨n, hn⟩ : ∃ n, b.toNat = n := ⟨_, rfl⟩
  rw [hn] at h256 ⊢
  have HN := Lib.hid hn
  clear hn
  by_cases h92 : n = 92
  case pos =>
    have HR : Hid (Gr = (pz, [⟨5, 0, false, [], t⟩])) := Lib.hid (by rw [← HGG.out]; exact qs1 HN.out h92)
    have g92 : ((n : Int) == 92) = true := by subst h92; rfl
    clear h92
    go_enter Tryd.func94, Tryd.ntmps94
    go_wp2_with fail
    refine (ground_r X lo _ ap al cp cl L _ HP.out).mono ?_
    rintro e w1 ⟨rfl, g, hg, hq, hc⟩
    have HQ := Lib.hid hq
    have HC := Lib.hid hc
    have y_0 := hq.ps.c0
    have y_1 := hq.ps.c1
    have y_2 := hq.ps.c2
    have y_3 := hq.ps.c3
    have y_4 := hq.ps.c4
    have y_5 := hq.c5
    have yf := hq.ps.fz
    have ylt := hq.ps.lt
    clear hq hc
    go_wp2_with fail
    refine (tell_r X lo pz (some ⟨g, 0, none⟩) al none 0 cl 0 L ⟨5, 0, false, [], t⟩ _ HQ.out (FreshIn.nil _ _ _ _ _ _) (by simp [blkOf]) hL (by simp)).mono ?_
    rintro e w2 hq
    have HQ2 := Lib.hid (hq.base (HP.out.below1 HC.out))
    obtain ⟨rfl, _⟩ := hq
    go_wp2_with fail
    refine bodyPost_ret (v := .tuple #[]) (by simp [results, Tryd.results94]) rfl ?_
    rw [HR.out]
    exact HQ2.out
  have g92 : ((n : Int) == 92) = false := beq_eq_false_iff_ne.2 (by omega)
  have HR : Hid (Gr = estep b) := Lib.hid (by rw [← HGG.out]; exact qs2 HN.out h92)
  go_enter Tryd.func94, Tryd.ntmps94
  go_wp2_with fail
  refine (ground_r X lo _ ap al cp cl L _ HP.out).mono ?_
  rintro e w1 ⟨rfl, g, hg, hq, hc⟩
  have HQ := Lib.hid hq
  have HC := Lib.hid hc
  have y_0 := hq.ps.c0
  have y_1 := hq.ps.c1
  have y_2 := hq.ps.c2
  have y_3 := hq.ps.c3
  have y_4 := hq.ps.c4
  have y_5 := hq.c5
  have yf := hq.ps.fz
  have ylt := hq.ps.lt
  clear hq hc
  have HQ3 : Hid (QS X lo (pst 1) (some ⟨g, 0, none⟩) 0 L al cl (w1.setCell ⟨X, 0, none⟩ (.int .i64 1))) := Lib.hid (by
    refine HQ.out.cells (Ch.set1 _ _ _ _) ?_ ?_ ?_ ?_ ?_ ?_ ?_ (.inl ⟨rfl, rfl, rfl⟩)
    all_goals first | (intro o; simp [go_sem, yf, ylt]; done) | (simp [go_sem, y_0, y_1, y_2, y_3, y_4, y_5, ylt, pst, pz]; done))
  have HCA : Hid (Calls Tryd.prog 73 #[.pointer (some ⟨X, 0, none⟩), .int .i64 n] (w1.setCell ⟨X, 0, none⟩ (.int .i64 1)) (fun e w' => QR X lo Gr L e w w')) := Lib.hid (by
    have h1 := (takeE_r X lo (some ⟨g, 0, none⟩) al 0 cl L b _ HQ3.out hL).mono (R' := fun e w' => QR X lo (estep b) L e w w') (fun e w' h => h.base ((HP.out.below1 HC.out).trans (HQ.out.below1 (Ch.set1 _ _ _ _))))
    rw [HN.out] at h1
    rw [HR.out]
    exact h1)
  go_wp2_with fail
  refine HCA.out.mono ?_
  rintro e w2 hq
  have HQ4 := Lib.hid hq
  obtain ⟨rfl, _⟩ := hq
  go_wp2_with fail
  refine bodyPost_end (v := .tuple #[]) (by simp [results, Tryd.results94]) rfl ?_
  exact HQ4.out
end
end Go.Proofs.YtlhhlmalihajcaaDoor
