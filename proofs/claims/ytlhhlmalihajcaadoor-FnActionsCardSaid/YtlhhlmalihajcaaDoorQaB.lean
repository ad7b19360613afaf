/- The reference's osc, fits, rune, begun, utf, own. No conditions but sizes. -/
import Derived.Test.YtlhhlmalihajcaaDoorQaA
namespace Go.Proofs.YtlhhlmalihajcaaDoor
set_option linter.unusedVariables false
set_option linter.unusedSimpArgs false
section
open Go.RowKit
set_option maxRecDepth 100000 in
set_option maxHeartbeats 8000000 in
theorem osc_r (t : ByteArray) (X lo : Nat) (ap al : Option Addr) (cp cl : Nat) (L : List ActA) (b : UInt8) (w : World) (h : QS X lo ⟨4, [], false, t, e0⟩ ap cp L al cl w) (hL : L.length ≤ 1048576) (hT : t.size ≤ 40) :
    Calls Tryd.prog 93 #[.pointer (some ⟨X, 0, none⟩), .int .i64 b.toNat] w (fun e w' => QR X lo (ostep ⟨4, [], false, t, e0⟩ b) L e w w') := by
  have HP := Lib.hid h
  have k_0 := h.ps.c0
  have k_1 := h.ps.c1
  have k_2 := h.ps.c2
  have k_3 := h.ps.c3
  have k_4 := h.ps.c4
  have k_5 := h.c5
  have kf := h.ps.fz
  have klt := h.ps.lt
  have hlo : lo ≤ w.heap.size := by have := h.lo; omega
  have h256 : b.toNat < 256 := b.toNat_lt
  clear h
  obtain ⟨Gr, hG⟩ : ∃ G, ostep ⟨4, [], false, t, e0⟩ b = G := ⟨_, rfl⟩
  have HGG := Lib.hid hG
  rw [hG]
  clear hG
  obtain ⟨n, hn⟩ : ∃ n, b.toNat = n := ⟨_, rfl⟩
  rw [hn] at h256 ⊢
  have HN := Lib.hid hn
  clear hn
  by_cases h7 : n = 7
  case pos =>
    have HR : Hid (Gr = (pz, [⟨5, 0, false, [], t⟩])) := Lib.hid (by rw [← HGG.out]; exact os1 HN.out h7)
    have g7 : ((n : Int) == 7) = true := by subst h7; rfl
    clear h7
    have hb0 : Below w.heap.size w (w.alloc (.cells #[.int .i64 5, .int .i64 0, .bool false, .slice none 0 0, .string t] 46)) := (Below.refl _ _).alloc (Nat.le_refl _) _
    have HP0 := Lib.hid (HP.out.keep hb0)
    have HB0 : Hid (Below lo w (w.alloc (.cells #[.int .i64 5, .int .i64 0, .bool false, .slice none 0 0, .string t] 46))) := Lib.hid ((Below.refl _ _).alloc hlo _)
    clear hb0
    go_enter Tryd.func93, Tryd.ntmps93
    go_wp2_with fail
    refine (ground_r X lo _ ap al cp cl L _ HP0.out).mono ?_
    rintro e w1 ⟨rfl, g, hg, hq, hc⟩
    have HQ := Lib.hid hq
    have HC := Lib.hid hc
    have hz1 : w.heap.size < w1.heap.size := by have := hc.size; simp at this; omega
    have hXH : ¬ w.heap.size = X := by omega
    have b_0 : w1.cell? ⟨w.heap.size, 0, none⟩ = some (.int .i64 5) := (hc.cell (p := ⟨w.heap.size, 0, none⟩) (by simp) hXH).trans (by simp [go_sem])
    have b_1 : w1.cell? ⟨w.heap.size, 1, none⟩ = some (.int .i64 0) := (hc.cell (p := ⟨w.heap.size, 1, none⟩) (by simp) hXH).trans (by simp [go_sem])
    have b_2 : w1.cell? ⟨w.heap.size, 2, none⟩ = some (.bool false) := (hc.cell (p := ⟨w.heap.size, 2, none⟩) (by simp) hXH).trans (by simp [go_sem])
    have b_3 : w1.cell? ⟨w.heap.size, 3, none⟩ = some (.slice none 0 0) := (hc.cell (p := ⟨w.heap.size, 3, none⟩) (by simp) hXH).trans (by simp [go_sem])
    have b_4 : w1.cell? ⟨w.heap.size, 4, none⟩ = some (.string t) := (hc.cell (p := ⟨w.heap.size, 4, none⟩) (by simp) hXH).trans (by simp [go_sem])
    clear hq hc
    go_wp2_with fail
    refine (tell_r X lo pz (some ⟨g, 0, none⟩) al none 0 cl 0 L ⟨5, 0, false, [], t⟩ _ HQ.out (FreshIn.nil _ _ _ _ _ _) (by simp [blkOf]) hL (by simp)).mono ?_
    rintro e w2 hq
    have HQ2 := Lib.hid (hq.base (HB0.out.trans (HP0.out.below1 HC.out)))
    obtain ⟨rfl, _⟩ := hq
    go_wp2_with fail
    refine bodyPost_end (v := .tuple #[]) (by simp [results, Tryd.results93]) rfl ?_
    rw [HR.out]
    exact HQ2.out
  have g7 : ((n : Int) == 7) = false := beq_eq_false_iff_ne.2 (by omega)
  by_cases h27 : n = 27
  case pos =>
    have HR : Hid (Gr = (⟨5, [], false, t, e0⟩, [])) := Lib.hid (by rw [← HGG.out]; exact os2 HN.out h27)
    have g27 : ((n : Int) == 27) = true := by subst h27; rfl
    clear h27
    go_enter Tryd.func93, Tryd.ntmps93
    go_wp2_with fail
    refine bodyPost_end (v := .tuple #[]) (by simp [results, Tryd.results93]) rfl ?_
    refine QR.only (p' := ⟨5, [], false, t, e0⟩) (HP.out.cells ?hc ?_ ?_ ?_ ?_ ?_ ?_ ?_ (.inl ⟨rfl, rfl, rfl⟩)) HP.out ?hc HR.out
    case hc => repeat (first | (with_reducible exact Ch.refl) | (with_reducible refine Ch.alloc ?_ _) | (with_reducible refine Ch.drew ?_) | (with_reducible refine Ch.setB ?_ _ _))
    all_goals first | (intro o; simp [go_sem, kf, klt]; done) | (simp [go_sem, k_0, k_1, k_2, k_3, k_4, k_5, klt, pst, pz]; done)
  have g27 : ((n : Int) == 27) = false := beq_eq_false_iff_ne.2 (by omega)
  obtain ⟨v, hv⟩ : ∃ v, inB (n : Int) 32 126 = v := ⟨_, rfl⟩
  have HV := Lib.hid hv
  clear hv
  cases v
  case false =>
    have HR : Hid (Gr = (⟨4, [], false, t, e0⟩, [])) := Lib.hid (by rw [← HGG.out]; exact os4 HN.out h7 h27 (fun h => by have := HV.out; simp [inB] at this; omega))
    go_enter Tryd.func93, Tryd.ntmps93
    go_wp2_with (go_at_call 57; refine (l01In_c _ _ _ _).mono ?_; rw [HV.out]; rintro e w' ⟨rfl, rfl⟩)
    refine bodyPost_end (v := .tuple #[]) (by simp [results, Tryd.results93]) rfl ?_
    exact QR.only HP.out HP.out Ch.refl HR.out
  by_cases h40 : t.size < 40
  case neg =>
    have HR : Hid (Gr = (⟨4, [], false, t, e0⟩, [])) := Lib.hid (by rw [← HGG.out]; exact os4 HN.out h7 h27 (fun h => h40 h.2))
    have g40 : decide ((t.size : Int) < 40) = false := decide_eq_false (by omega)
    go_enter Tryd.func93, Tryd.ntmps93
    go_wp2_with (go_at_call 57; refine (l01In_c _ _ _ _).mono ?_; rw [HV.out]; rintro e w' ⟨rfl, rfl⟩)
    all_goals first
      | (exfalso; omega)
      | (refine bodyPost_end (v := .tuple #[]) (by simp [results, Tryd.results93]) rfl ?_
         exact QR.only HP.out HP.out Ch.refl HR.out)
  have HR : Hid (Gr = (⟨4, [], false, t ++ ⟨#[b]⟩, e0⟩, [])) := Lib.hid (by rw [← HGG.out]; exact os3 HN.out ⟨by have := HV.out; simp [inB] at this; omega, h40⟩)
  have g40 : (t.size : Int) < 40 := by omega
  have hbig : ¬ 9223372036854775807 < t.size + 1 := by omega
  have hw8 : IntKind.u8.wrap (n : Int) = n := u8_in (by omega) (by omega)
  have hcv := convAt w.heap.size (w.alloc (.cells #[.int .u8 n] 5)).drew b n (by simp [go_sem]) HN.out
  go_enter Tryd.func93, Tryd.ntmps93
  go_upto_region 7 with (go_at_call 57; refine (l01In_c _ _ _ _).mono ?_; rw [HV.out]; rintro e w' ⟨rfl, rfl⟩)
  refine wp_region_G (fun w' => w'.cell? ⟨X, 3, none⟩ = some (.string t)) (fun i => i == 13) (by kernel_rfl) k_3 ?_
  refine wpAnyG_takeW (i := 0) (v := ?_) rfl (by kernel_rfl) (by kernel_rfl) (by kernel_rfl) (fun _ _ _ h => h) (Or.inl ⟨by rfl, ?_⟩) ?_
  rotate_left
  · intro w' hSw
    go_simp
    try (with_reducible rfl)
  try simp only [Act.put, List.getElem_toArray, List.getElem_cons_zero, List.getElem_cons_succ, List.setIfInBounds_toArray, List.set_cons_zero, List.set_cons_succ]
  refine wpAnyG_takeW (i := 1) (v := ?_) rfl (by kernel_rfl) (by kernel_rfl) (by kernel_rfl) (fun _ _ _ h => h) (Or.inl ⟨by rfl, ?_⟩) ?_
  rotate_left
  · intro w' hSw
    go_simp
    try (with_reducible rfl)
  try simp only [Act.put, List.getElem_toArray, List.getElem_cons_zero, List.getElem_cons_succ, List.setIfInBounds_toArray, List.set_cons_zero, List.set_cons_succ]
  refine wpAnyG_takeW (i := 2) (v := ?_) rfl (by kernel_rfl) (by kernel_rfl) (by kernel_rfl) (fun _ _ _ h => h) (Or.inl ⟨by rfl, ?_⟩) ?_
  rotate_left
  · intro w' hSw
    go_simp
    try (with_reducible rfl)
  try simp only [Act.put, List.getElem_toArray, List.getElem_cons_zero, List.getElem_cons_succ, List.setIfInBounds_toArray, List.set_cons_zero, List.set_cons_succ]
  refine wpAnyG_takeW (i := 3) (v := ?_) rfl (by kernel_rfl) (by kernel_rfl) (by kernel_rfl) (fun _ _ _ h => h) (Or.inl ⟨by rfl, ?_⟩) ?_
  rotate_left
  · intro w' hSw
    go_simp
    try (with_reducible rfl)
  try simp only [Act.put, List.getElem_toArray, List.getElem_cons_zero, List.getElem_cons_succ, List.setIfInBounds_toArray, List.set_cons_zero, List.set_cons_succ]
  refine wpAnyG_take (i := 4) (v := ?_) rfl (by kernel_rfl) (by kernel_rfl) (by kernel_rfl) (by kernel_rfl) (fun _ _ _ h => h) k_3 (Or.inl ⟨by rfl, ?_⟩) ?_
  rotate_left
  · intro w' hSw
    go_simp
    try (with_reducible rfl)
  try simp only [Act.put, List.getElem_toArray, List.getElem_cons_zero, List.getElem_cons_succ, List.setIfInBounds_toArray, List.set_cons_zero, List.set_cons_succ]
  refine wpAnyG_takeW (i := 5) (v := ?_) rfl (by kernel_rfl) (by kernel_rfl) (by kernel_rfl) (fun _ _ _ h => h) (Or.inl ⟨by rfl, ?_⟩) ?_
  rotate_left
  · intro w' hSw
    go_simp
    try (with_reducible rfl)
  try simp only [Act.put, List.getElem_toArray, List.getElem_cons_zero, List.getElem_cons_succ, List.setIfInBounds_toArray, List.set_cons_zero, List.set_cons_succ]
  refine wpAnyG_takeW (i := 6) (v := ?_) rfl (by kernel_rfl) (by kernel_rfl) (by kernel_rfl) (fun _ _ _ h => h) (Or.inl ⟨by rfl, ?_⟩) ?_
  rotate_left
  · intro w' hSw
    go_simp
    try (with_reducible rfl)
  try simp only [Act.put, List.getElem_toArray, List.getElem_cons_zero, List.getElem_cons_succ, List.setIfInBounds_toArray, List.set_cons_zero, List.set_cons_succ]
  refine wpAnyG_one (i := 7) (by kernel_rfl) rfl k_3 (fun K' hK => ?_)
  simp only [List.getElem_toArray, List.getElem_cons_zero, List.getElem_cons_succ]
  go_simp
  have hS1 : (w.alloc (.cells #[.int .u8 n] 5)).cell? ⟨X, 3, none⟩ = some (.string t) := (World.cell?_alloc_lt _ _ _ klt).trans k_3
  refine hK.out _ _ (Or.inr hS1) ?_
  clear hK K'
  try simp only [Act.put, List.getElem_toArray, List.getElem_cons_zero, List.getElem_cons_succ, List.setIfInBounds_toArray, List.set_cons_zero, List.set_cons_succ]
  refine wpAnyG_one (i := 8) (by kernel_rfl) rfl hS1 (fun K' hK => ?_)
  simp only [List.getElem_toArray, List.getElem_cons_zero, List.getElem_cons_succ]
  go_simp
  refine hK.out _ _ (Or.inr hS1) ?_
  clear hK K'
  try simp only [Act.put, List.getElem_toArray, List.getElem_cons_zero, List.getElem_cons_succ, List.setIfInBounds_toArray, List.set_cons_zero, List.set_cons_succ]
  refine wpAnyG_takeW (i := 9) (v := ?_) rfl (by kernel_rfl) (by kernel_rfl) (by kernel_rfl) (fun _ _ _ h => h) (Or.inl ⟨by rfl, ?_⟩) ?_
  rotate_left
  · intro w' hSw
    go_simp
    try (with_reducible rfl)
  try simp only [Act.put, List.getElem_toArray, List.getElem_cons_zero, List.getElem_cons_succ, List.setIfInBounds_toArray, List.set_cons_zero, List.set_cons_succ]
  refine wpAnyG_takeW (i := 10) (v := ?_) rfl (by kernel_rfl) (by kernel_rfl) (by kernel_rfl) (fun _ _ _ h => h) (Or.inl ⟨by rfl, ?_⟩) ?_
  rotate_left
  · intro w' hSw
    go_simp
    try (with_reducible rfl)
  try simp only [Act.put, List.getElem_toArray, List.getElem_cons_zero, List.getElem_cons_succ, List.setIfInBounds_toArray, List.set_cons_zero, List.set_cons_succ]
  refine wpAnyG_takeW (i := 11) (v := ?_) rfl (by kernel_rfl) (by kernel_rfl) (by kernel_rfl) (fun _ _ _ h => h) (Or.inl ⟨by rfl, ?_⟩) ?_
  rotate_left
  · intro w' hSw
    go_simp
    try (with_reducible rfl)
  try simp only [Act.put, List.getElem_toArray, List.getElem_cons_zero, List.getElem_cons_succ, List.setIfInBounds_toArray, List.set_cons_zero, List.set_cons_succ]
  refine wpAnyG_takeW (i := 12) (v := ?_) rfl (by kernel_rfl) (by kernel_rfl) (by kernel_rfl) (fun _ _ _ h => h) (Or.inl ⟨by rfl, ?_⟩) ?_
  rotate_left
  · intro w' hSw
    go_simp
    try (with_reducible rfl)
  try simp only [Act.put, List.getElem_toArray, List.getElem_cons_zero, List.getElem_cons_succ, List.setIfInBounds_toArray, List.set_cons_zero, List.set_cons_succ]
  clear hcv hbig hw8
  have hb1 : Below w.heap.size w (w.alloc (.cells #[.int .u8 n] 5)).drew := ((Below.refl _ _).alloc (Nat.le_refl _) _).drew
  obtain ⟨x, hx⟩ : ∃ x, (w.alloc (.cells #[.int .u8 n] 5)).drew = x := ⟨_, rfl⟩
  have hS2 : x.cell? ⟨X, 3, none⟩ = some (.string t) := by rw [← hx]; exact hS1
  rw [hx] at hb1 ⊢
  clear hx
  have HBX : Hid (Below w.heap.size w x) := Lib.hid hb1
  have x_0 := (hb1.cell (p := ⟨X, 0, none⟩) klt).trans k_0
  have x_1 := (hb1.cell (p := ⟨X, 1, none⟩) klt).trans k_1
  have x_2 := (hb1.cell (p := ⟨X, 2, none⟩) klt).trans k_2
  have x_3 := (hb1.cell (p := ⟨X, 3, none⟩) klt).trans k_3
  have x_4 := (hb1.cell (p := ⟨X, 4, none⟩) klt).trans k_4
  have x_5 := (hb1.cell (p := ⟨X, 5, none⟩) klt).trans k_5
  have xf : ∀ o, x.frozen? ⟨X, o, none⟩ = false := fun o => (hb1.frozen (p := ⟨X, o, none⟩) klt).trans (kf o)
  have xlt : X < x.heap.size := Nat.lt_of_lt_of_le klt hb1.size
  clear hb1
  refine wpAnyG_one (i := 13) (by kernel_rfl) rfl hS2 (fun K' hK => ?_)
  simp only [List.getElem_toArray, List.getElem_cons_zero, List.getElem_cons_succ]
  go_simp
  refine hK.out _ _ (Or.inl rfl) ?_
  clear hK K'
  try simp only [Act.put, List.getElem_toArray, List.getElem_cons_zero, List.getElem_cons_succ, List.setIfInBounds_toArray, List.set_cons_zero, List.set_cons_succ]
  refine wpAnyG_done (by kernel_rfl) ?_ _
  go_wp2_with fail
  refine bodyPost_end (v := .tuple #[]) (by simp [results, Tryd.results93]) rfl ?_
  have HCX : Ch (fun k => k = X) w x := Ch.of_below HBX.out
  refine QR.only (p' := ⟨4, [], false, t ++ ⟨#[b]⟩, e0⟩) (HP.out.cells (HCX.trans ?hc (fun i hi => .inl hi)) ?_ ?_ ?_ ?_ ?_ ?_ ?_ (.inl ⟨rfl, rfl, rfl⟩)) HP.out (HCX.trans ?hc (fun i hi => .inl hi)) HR.out
  case hc => repeat (first | (with_reducible exact Ch.refl) | (with_reducible refine Ch.alloc ?_ _) | (with_reducible refine Ch.drew ?_) | (with_reducible refine Ch.setB ?_ _ _))
  all_goals first | (intro o; simp [go_sem, xf, xlt]; done) | (simp [go_sem, x_0, x_1, x_2, x_3, x_4, x_5, xlt]; done)
end
section
open Go.RowKit
theorem fit_step {l : List UInt8} {k : Nat} (h : fitK l k) (hm : mayF (l.take k) (l.getD k 0).toNat = true) : fitK l (k + 1) := by
  intro j h1 h2
  rcases Nat.lt_succ_iff_lt_or_eq.1 h2 with h3 | rfl
  · exact h j h1 h3
  · exact hm
def FitR (s : ByteArray) (w : World) (e : Ending) (w' : World) : Prop := ∃ v : Bool, e = .returned (.bool v) ∧ (v = true ↔ fitK s.data.toList s.size) ∧ w = w'
theorem inB_nat (b : Nat) (l h : Nat) : inB (b : Int) l h = (decide (l ≤ b) && decide (b ≤ h)) := by
  unfold inB
  rw [Bool.eq_iff_iff]
  simp only [Bool.and_eq_true, decide_eq_true_eq]
  omega
set_option maxRecDepth 100000 in
set_option maxHeartbeats 8000000 in
theorem fits_r (s : ByteArray) (w : World) (hz : s.size ≤ 1048576) : Calls Tryd.prog 89 #[.string s] w (FitR s w) := by
  go_enter Tryd.func89, Tryd.ntmps89
  go_wp2_with fail
  go_loop [3] (fun i => ∃ k : Nat, (1 ≤ k ∧ (k ≤ s.size ∨ k = 1)) ∧ i = .int .i64 k ∧ Hid (fitK s.data.toList k)) (fun i => s.size - (intOf i).toNat)
  case atStart => exact ⟨1, ⟨by omega, .inr rfl⟩, rfl, Lib.hid (fun j h1 h2 => absurd h1 (by omega))⟩
  case round =>
    obtain ⟨k, ⟨hk1, hk⟩, rfl, HP⟩ := hrel
    by_cases hlt : k < s.size
    · obtain ⟨v, hv⟩ : ∃ v, mayF (s.data.toList.take k) (s.data.toList.getD k 0).toNat = v := ⟨_, rfl⟩
      have HST : Hid (v = true → fitK s.data.toList (k + 1)) := Lib.hid (fun h => fit_step HP.out (hv.trans h))
      have HNO : Hid (v = false → ¬ fitK s.data.toList s.size) := Lib.hid (fun h hf => by
        have := hf k hk1 hlt
        rw [hv, h] at this
        cases this)
      have h0 : 0 < s.size := by omega
      obtain ⟨y, hy⟩ : ∃ y, s[0]'h0 = y := ⟨_, rfl⟩
      obtain ⟨x, hx⟩ : ∃ x, s[k] = x := ⟨_, rfl⟩
      have h256 : x.toNat < 256 := x.toNat_lt
      rw [getDL hlt, hx] at hv
      by_cases h1 : k = 1
      · have hl : s.data.toList.take k = [y] := by
          have h2 := headL h0
          rw [hy] at h2
          rw [h1]
          cases hc : s.data.toList with
          | nil => have : s.data.toList.length = s.size := rfl; rw [hc] at this; simp at this; omega
          | cons a l => rw [hc] at h2; simp at h2; subst h2; rfl
        rw [hl] at hv
        unfold mayF at hv
        rw [lowOf_one, highOf_one] at hv
        have HV := Lib.hid hv
        have gk : ((k : Int) == 1) = true := by rw [h1]; rfl
        clear hv hl h1
        by_cases c224 : y.toNat = 224
        · have q224 : ((y.toNat : Int) == 224) = true := by rw [c224]; rfl
          have d237 : ¬ y.toNat = 237 := by omega
          have q237 : ((y.toNat : Int) == 237) = false := beq_eq_false_iff_ne.2 (by omega)
          have d240 : ¬ y.toNat = 240 := by omega
          have q240 : ((y.toNat : Int) == 240) = false := beq_eq_false_iff_ne.2 (by omega)
          have d244 : ¬ y.toNat = 244 := by omega
          have q244 : ((y.toNat : Int) == 244) = false := beq_eq_false_iff_ne.2 (by omega)
          have HI : Hid (inB (x.toNat : Int) 160 191 = v) := Lib.hid (by
            refine (inB_nat x.toNat 160 191).trans ?_
            rw [← HV.out]
            try simp [*])
          have HNX : Hid (v = true ∨ ¬ fitK s.data.toList s.size) := Lib.hid (by
            cases hb : v with
            | true => exact .inl rfl
            | false => exact .inr (HNO.out hb))
          cases v
          case false =>
            go_wp2_with (go_at_call 57; refine (l01In_c _ _ _ _).mono ?_; rw [HI.out]; rintro e w' ⟨rfl, rfl⟩)
            go_ret
            exact ⟨false, rfl, ⟨fun h => (by cases h), fun h => absurd h (HNX.out.resolve_left (by simp))⟩, rfl⟩
          case true =>
            go_wp2_with (go_at_call 57; refine (l01In_c _ _ _ _).mono ?_; rw [HI.out]; rintro e w' ⟨rfl, rfl⟩)
            go_round
            case rel => exact ⟨k + 1, ⟨by omega, by omega⟩, by go_num, Lib.hid (HST.out (by simp))⟩
            case measure => simp [intOf]; omega
        have q224 : ((y.toNat : Int) == 224) = false := beq_eq_false_iff_ne.2 (by omega)
        by_cases c237 : y.toNat = 237
        · have q237 : ((y.toNat : Int) == 237) = true := by rw [c237]; rfl
          have d240 : ¬ y.toNat = 240 := by omega
          have q240 : ((y.toNat : Int) == 240) = false := beq_eq_false_iff_ne.2 (by omega)
          have d244 : ¬ y.toNat = 244 := by omega
          have q244 : ((y.toNat : Int) == 244) = false := beq_eq_false_iff_ne.2 (by omega)
          have HI : Hid (inB (x.toNat : Int) 128 159 = v) := Lib.hid (by
            refine (inB_nat x.toNat 128 159).trans ?_
            rw [← HV.out]
            try simp [*])
          have HNX : Hid (v = true ∨ ¬ fitK s.data.toList s.size) := Lib.hid (by
            cases hb : v with
            | true => exact .inl rfl
            | false => exact .inr (HNO.out hb))
          cases v
          case false =>
            go_wp2_with (go_at_call 57; refine (l01In_c _ _ _ _).mono ?_; rw [HI.out]; rintro e w' ⟨rfl, rfl⟩)
            go_ret
            exact ⟨false, rfl, ⟨fun h => (by cases h), fun h => absurd h (HNX.out.resolve_left (by simp))⟩, rfl⟩
          case true =>
            go_wp2_with (go_at_call 57; refine (l01In_c _ _ _ _).mono ?_; rw [HI.out]; rintro e w' ⟨rfl, rfl⟩)
            go_round
            case rel => exact ⟨k + 1, ⟨by omega, by omega⟩, by go_num, Lib.hid (HST.out (by simp))⟩
            case measure => simp [intOf]; omega
        have q237 : ((y.toNat : Int) == 237) = false := beq_eq_false_iff_ne.2 (by omega)
        by_cases c240 : y.toNat = 240
        · have q240 : ((y.toNat : Int) == 240) = true := by rw [c240]; rfl
          have d244 : ¬ y.toNat = 244 := by omega
          have q244 : ((y.toNat : Int) == 244) = false := beq_eq_false_iff_ne.2 (by omega)
          have HI : Hid (inB (x.toNat : Int) 144 191 = v) := Lib.hid (by
            refine (inB_nat x.toNat 144 191).trans ?_
            rw [← HV.out]
            try simp [*])
          have HNX : Hid (v = true ∨ ¬ fitK s.data.toList s.size) := Lib.hid (by
            cases hb : v with
            | true => exact .inl rfl
            | false => exact .inr (HNO.out hb))
          cases v
          case false =>
            go_wp2_with (go_at_call 57; refine (l01In_c _ _ _ _).mono ?_; rw [HI.out]; rintro e w' ⟨rfl, rfl⟩)
            go_ret
            exact ⟨false, rfl, ⟨fun h => (by cases h), fun h => absurd h (HNX.out.resolve_left (by simp))⟩, rfl⟩
          case true =>
            go_wp2_with (go_at_call 57; refine (l01In_c _ _ _ _).mono ?_; rw [HI.out]; rintro e w' ⟨rfl, rfl⟩)
            go_round
            case rel => exact ⟨k + 1, ⟨by omega, by omega⟩, by go_num, Lib.hid (HST.out (by simp))⟩
            case measure => simp [intOf]; omega
        have q240 : ((y.toNat : Int) == 240) = false := beq_eq_false_iff_ne.2 (by omega)
        by_cases c244 : y.toNat = 244
        · have q244 : ((y.toNat : Int) == 244) = true := by rw [c244]; rfl
          have HI : Hid (inB (x.toNat : Int) 128 143 = v) := Lib.hid (by
            refine (inB_nat x.toNat 128 143).trans ?_
            rw [← HV.out]
            try simp [*])
          have HNX : Hid (v = true ∨ ¬ fitK s.data.toList s.size) := Lib.hid (by
            cases hb : v with
            | true => exact .inl rfl
            | false => exact .inr (HNO.out hb))
          cases v
          case false =>
            go_wp2_with (go_at_call 57; refine (l01In_c _ _ _ _).mono ?_; rw [HI.out]; rintro e w' ⟨rfl, rfl⟩)
            go_ret
            exact ⟨false, rfl, ⟨fun h => (by cases h), fun h => absurd h (HNX.out.resolve_left (by simp))⟩, rfl⟩
          case true =>
            go_wp2_with (go_at_call 57; refine (l01In_c _ _ _ _).mono ?_; rw [HI.out]; rintro e w' ⟨rfl, rfl⟩)
            go_round
            case rel => exact ⟨k + 1, ⟨by omega, by omega⟩, by go_num, Lib.hid (HST.out (by simp))⟩
            case measure => simp [intOf]; omega
        have q244 : ((y.toNat : Int) == 244) = false := beq_eq_false_iff_ne.2 (by omega)
        have HI : Hid (inB (x.toNat : Int) 128 191 = v) := Lib.hid (by
          refine (inB_nat x.toNat 128 191).trans ?_
          rw [← HV.out]
          try simp [*])
        have HNX : Hid (v = true ∨ ¬ fitK s.data.toList s.size) := Lib.hid (by
          cases hb : v with
          | true => exact .inl rfl
          | false => exact .inr (HNO.out hb))
        cases v
        case false =>
          go_wp2_with (go_at_call 57; refine (l01In_c _ _ _ _).mono ?_; rw [HI.out]; rintro e w' ⟨rfl, rfl⟩)
          go_ret
          exact ⟨false, rfl, ⟨fun h => (by cases h), fun h => absurd h (HNX.out.resolve_left (by simp))⟩, rfl⟩
        case true =>
          go_wp2_with (go_at_call 57; refine (l01In_c _ _ _ _).mono ?_; rw [HI.out]; rintro e w' ⟨rfl, rfl⟩)
          go_round
          case rel => exact ⟨k + 1, ⟨by omega, by omega⟩, by go_num, Lib.hid (HST.out (by simp))⟩
          case measure => simp [intOf]; omega
      · have hll : (s.data.toList.take k).length ≠ 1 := by
          have : s.data.toList.length = s.size := rfl
          rw [List.length_take]; omega
        unfold mayF at hv
        rw [(low_not hll).1, (low_not hll).2] at hv
        have HV := Lib.hid hv
        have gk : ((k : Int) == 1) = false := beq_eq_false_iff_ne.2 (by omega)
        clear hv
        have HI : Hid (inB (x.toNat : Int) 128 191 = v) := Lib.hid (by
          refine (inB_nat x.toNat 128 191).trans ?_
          rw [← HV.out]
          try simp [*])
        have HNX : Hid (v = true ∨ ¬ fitK s.data.toList s.size) := Lib.hid (by
          cases hb : v with
          | true => exact .inl rfl
          | false => exact .inr (HNO.out hb))
        cases v
        case false =>
          go_wp2_with (go_at_call 57; refine (l01In_c _ _ _ _).mono ?_; rw [HI.out]; rintro e w' ⟨rfl, rfl⟩)
          go_ret
          exact ⟨false, rfl, ⟨fun h => (by cases h), fun h => absurd h (HNX.out.resolve_left (by simp))⟩, rfl⟩
        case true =>
          go_wp2_with (go_at_call 57; refine (l01In_c _ _ _ _).mono ?_; rw [HI.out]; rintro e w' ⟨rfl, rfl⟩)
          go_round
          case rel => exact ⟨k + 1, ⟨by omega, by omega⟩, by go_num, Lib.hid (HST.out (by simp))⟩
          case measure => simp [intOf]; omega
    · have HF : Hid (fitK s.data.toList s.size) := Lib.hid (fun j h1 h2 => HP.out j h1 (by omega))
      go_wp2_with fail
      go_ret
      exact ⟨true, rfl, ⟨fun _ => HF.out, fun _ => rfl⟩, rfl⟩
end
section
open Go.RowKit
def rnO (n : Nat) : Int := if n = 2 then 192 else if n = 3 then 224 else 240
def rnA (l : List UInt8) : Nat → Int
  | 0 => ((l.headD 0).toNat : Int) - rnO l.length
  | k + 1 => rnA l k * 64 + (l.getD (k + 1) 0).toNat - 128
theorem rnA_bd (l : List UInt8) (k : Nat) : -(512 * 128 ^ k) ≤ rnA l k ∧ rnA l k ≤ 512 * 128 ^ k := by
  induction k with
  | zero =>
    have h1 : (l.headD 0).toNat < 256 := (l.headD 0).toNat_lt
    unfold rnA rnO
    (repeat' split) <;> omega
  | succ k ih =>
    have h1 : (l.getD (k + 1) 0).toNat < 256 := (l.getD (k + 1) 0).toNat_lt
    have h2 : (0 : Int) < 128 ^ k := Int.pow_pos (by decide)
    rw [rnA, Int.pow_succ]
    omega
theorem rnA_end (l : List UInt8) (h : l.length = 2 ∨ l.length = 3 ∨ l.length = 4) : rnA l (l.length - 1) = rnV l := by
  match l, h with
  | [a, b], _ => simp [rnA, rnV, rnO]; omega
  | [a, b, c], _ => simp [rnA, rnV, rnO]; omega
  | [a, b, c, d], _ => simp [rnA, rnV, rnO]; omega
set_option maxRecDepth 100000 in
set_option maxHeartbeats 8000000 in
theorem rune_r (s : ByteArray) (w : World) (hz : s.size = 2 ∨ s.size = 3 ∨ s.size = 4) : Calls Tryd.prog 102 #[.string s] w fun e w' => e = .returned (.int .i64 (rnV s.data.toList)) ∧ w = w' := by
  have hls : s.data.toList.length = s.size := rfl
  have HLS := Lib.hid hls
  have HZ := Lib.hid hz
  have HE : Hid (rnA s.data.toList (s.size - 1) = rnV s.data.toList) := Lib.hid (rnA_end _ hz)
  have h0 : 0 < s.size := by omega
  have hs4 : s.size ≤ 4 := by omega
  obtain ⟨y, hy⟩ : ∃ y, s[0]'h0 = y := ⟨_, rfl⟩
  have hy256 : y.toNat < 256 := y.toNat_lt
  have H0 : Hid (rnA s.data.toList 0 = (y.toNat : Int) - rnO s.size) := Lib.hid (by
    rw [rnA, headL h0, hy, hls])
  clear hls hz
  have HW : Hid (s.size = 2 ∨ s.size = 3 ∨ s.size = 4) := HZ
  have hq : ∃ a b c : Bool, ((s.size : Int) == 2) = a ∧ ((s.size : Int) == 3) = b ∧ ((s.size : Int) == 4) = c ∧ rnO s.size = (if a then 192 else if b then 224 else 240) ∧ (a = false → b = false → c = true) := by
    refine ⟨_, _, _, rfl, rfl, rfl, ?_, ?_⟩
    · unfold rnO
      rcases HZ.out with h | h | h <;> rw [h] <;> rfl
    · intro h1 h2
      simp only [beq_eq_false_iff_ne, beq_iff_eq] at h1 h2 ⊢
      have := HZ.out
      omega
  obtain ⟨qa, qb, qc, q1, q2, q3, q4, q5⟩ := hq
  rw [q4] at H0
  have HQ := Lib.hid q5
  clear q4 q5
  cases qa
  all_goals cases qb
  all_goals cases qc
  all_goals first
    | (exact absurd (HQ.out rfl rfl : false = true) Bool.false_ne_true)
    | (have H1 : Hid (∃ z : Int, z = rnA s.data.toList 0) := Lib.hid ⟨_, rfl⟩
       go_enter Tryd.func102, Tryd.ntmps102
       go_wp2_with fail
       go_loop [3, 4] (fun m i => ∃ k : Nat, (1 ≤ k ∧ k ≤ s.size) ∧ i = .int .i64 k ∧ m = .int .i64 (rnA s.data.toList (k - 1))) (fun _ i => s.size - (intOf i).toNat)
       case atStart => exact ⟨1, ⟨by omega, by omega⟩, rfl, by show _ = Value.int .i64 (rnA s.data.toList 0); rw [H0.out]; rfl⟩
       case round =>
         obtain ⟨k, ⟨hk1, hk⟩, rfl, rfl⟩ := hrel
         by_cases hlt : k < s.size
         · obtain ⟨x, hx⟩ : ∃ x, s[k] = x := ⟨_, rfl⟩
           have h256 : x.toNat < 256 := x.toNat_lt
           have HN : Hid (rnA s.data.toList k = rnA s.data.toList (k - 1) * 64 + x.toNat - 128) := Lib.hid (by
             obtain ⟨j, rfl⟩ : ∃ j, k = j + 1 := ⟨k - 1, by omega⟩
             rw [rnA, getDL hlt, hx]; rfl)
           obtain ⟨m, hm⟩ : ∃ m, rnA s.data.toList (k - 1) = m := ⟨_, rfl⟩
           have hmb : -1073741824 ≤ m ∧ m ≤ 1073741824 := by
             rw [← hm]
             have h1 := rnA_bd s.data.toList (k - 1)
             have h2 : k - 1 = 0 ∨ k - 1 = 1 ∨ k - 1 = 2 := by omega
             rcases h2 with h2 | h2 | h2 <;> rw [h2] at h1 ⊢ <;> omega
           rw [hm] at HN ⊢
           clear hm
           have w1 : IntKind.i64.wrap (m * 64) = m * 64 := IntWalk.i64_in _ ⟨by omega, by omega⟩
           have w2 : IntKind.i64.wrap (m * 64 + x.toNat) = m * 64 + x.toNat := IntWalk.i64_in _ ⟨by omega, by omega⟩
           have w3 : IntKind.i64.wrap (m * 64 + x.toNat - 128) = m * 64 + x.toNat - 128 := IntWalk.i64_in _ ⟨by omega, by omega⟩
           go_wp2_with fail
           go_round
           case rel => exact ⟨k + 1, ⟨by omega, by omega⟩, by go_num, by rw [Nat.add_sub_cancel, HN.out]⟩
           case measure => simp [intOf]; omega
         · have HF : Hid (rnA s.data.toList (k - 1) = rnV s.data.toList) := Lib.hid (by
             obtain rfl : k = s.size := by omega
             exact HE.out)
           go_wp2_with fail
           go_ret
           exact ⟨ret_i HF.out, rfl⟩)
end
section
open Go.RowKit
theorem utfLen_low {b : Nat} (h : b < 128) : utfLen b = 0 := by unfold utfLen; rw [if_pos (.inl (by omega))]
set_option maxRecDepth 100000 in
set_option maxHeartbeats 4000000 in
theorem begun_r (s : ByteArray) (w : World) (hz : s.size ≤ 1048576) (h0 : 0 < s.size) : Calls Tryd.prog 71 #[.string s] w fun e w' => e = .returned (.bool (begB s.data.toList)) ∧ w = w' := by
  have hh := headL h0
  have hls : s.data.toList.length = s.size := rfl
  obtain ⟨u, hu⟩ : ∃ u, szR (s[0]'h0).toNat = u := ⟨_, rfl⟩
  have hb : begB s.data.toList = true ↔ 1 < u ∧ s.size < u ∧ fitK s.data.toList s.size := by
    rw [begB_iff, hh, hls]
    subst hu
    unfold szR
    by_cases h : (s[0]'h0).toNat < 128
    · rw [if_pos h, utfLen_low h]
      constructor
      · rintro ⟨_, h2, _⟩; omega
      · rintro ⟨h2, _⟩; omega
    · rw [if_neg h]
      constructor
      · rintro ⟨h1, h2, h3⟩; exact ⟨by omega, h2, h3⟩
      · rintro ⟨h1, h2, h3⟩; exact ⟨h0, h2, h3⟩
  obtain ⟨B, hB⟩ : ∃ B, begB s.data.toList = B := ⟨_, rfl⟩
  rw [hB] at hb ⊢
  have HB := Lib.hid hb
  have HS : Hid (Calls Tryd.prog 88 #[.string s] w fun e w' => e = .returned (.int .i64 (u : Nat)) ∧ w = w') := Lib.hid (by rw [← hu]; exact size_r s w h0)
  clear hb hB hh hls hu
  by_cases h1 : 1 < u
  case neg =>
    have HF : Hid (B = false) := Lib.hid (by cases hc : B with | false => rfl | true => exact absurd (HB.out.1 hc).1 h1)
    have g1 : decide ((1 : Int) < (u : Int)) = false := decide_eq_false (by omega)
    go_enter Tryd.func71, Tryd.ntmps71
    go_wp2_with (go_at_call 88; refine HS.out.mono ?_; rintro e w' ⟨rfl, rfl⟩)
    all_goals first
      | (exfalso; omega)
      | (go_ret; exact ⟨ret_b HF.out.symm, rfl⟩)
  by_cases h2 : s.size < u
  case neg =>
    have HF : Hid (B = false) := Lib.hid (by cases hc : B with | false => rfl | true => exact absurd (HB.out.1 hc).2.1 h2)
    have g1 : decide ((1 : Int) < (u : Int)) = true := decide_eq_true (by omega)
    have g2 : decide ((s.size : Int) < (u : Int)) = false := decide_eq_false (by omega)
    go_enter Tryd.func71, Tryd.ntmps71
    go_wp2_with (go_at_call 88; refine HS.out.mono ?_; rintro e w' ⟨rfl, rfl⟩)
    all_goals first
      | (exfalso; omega)
      | (go_ret; exact ⟨ret_b HF.out.symm, rfl⟩)
  have g1 : decide ((1 : Int) < (u : Int)) = true := decide_eq_true (by omega)
  have g2 : decide ((s.size : Int) < (u : Int)) = true := decide_eq_true (by omega)
  have HF : Hid (∀ v : Bool, (v = true ↔ fitK s.data.toList s.size) → v = B) := Lib.hid (fun v hv => by
    rw [Bool.eq_iff_iff, hv, HB.out]
    exact ⟨fun h => ⟨h1, h2, h⟩, fun h => h.2.2⟩)
  have HC : Hid (Calls Tryd.prog 89 #[.string s] w fun e w' => e = .returned (.bool B) ∧ w = w') := Lib.hid ((fits_r s w hz).mono (fun e w' h => by
    obtain ⟨v, rfl, hv, rfl⟩ := h
    exact ⟨by rw [HF.out v hv], rfl⟩))
  go_enter Tryd.func71, Tryd.ntmps71
  go_wp2_with (first | (go_at_call 88; refine HS.out.mono ?_; rintro e w' ⟨rfl, rfl⟩) | (go_at_call 89; refine HC.out.mono ?_; rintro e w' ⟨rfl, rfl⟩))
  all_goals first
    | (exfalso; omega)
    | (go_ret; exact ⟨rfl, rfl⟩)
end
section
open Go.RowKit
theorem fit_snoc {l : List UInt8} {b : UInt8} (h : fitK l l.length) (h0 : 0 < l.length) : fitK (l ++ [b]) (l.length + 1) ↔ mayF l b.toNat = true := by
  constructor
  · intro h1
    have h2 := h1 l.length (by omega) (by omega)
    rw [List.take_left] at h2
    simpa using h2
  · intro h1
    refine fit_step (fun j h2 h3 => ?_) (by rw [List.take_left]; simpa using h1)
    have h4 := h j h2 h3
    rw [List.take_append_of_le_length (by omega)]
    rw [List.getD_eq_getElem?_getD, List.getElem?_append_left h3, ← List.getD_eq_getElem?_getD]
    exact h4
set_option maxRecDepth 100000 in
set_option maxHeartbeats 8000000 in
theorem utf_r (t : ByteArray) (X lo : Nat) (ap al : Option Addr) (cp cl : Nat) (L : List ActA) (b : UInt8) (w : World) (h : QS X lo ⟨6, [], false, e0, t⟩ ap cp L al cl w) (hL : L.length ≤ 1048575) (hT : begB t.data.toList = true) :
    Calls Tryd.prog 95 #[.pointer (some ⟨X, 0, none⟩), .int .i64 b.toNat] w (fun e w' => QR X lo (ustep ⟨6, [], false, e0, t⟩ b) L e w w') := by
  have HP := Lib.hid h
  have k_0 := h.ps.c0
  have k_1 := h.ps.c1
  have k_2 := h.ps.c2
  have k_3 := h.ps.c3
  have k_4 := h.ps.c4
  have k_5 := h.c5
  have kf := h.ps.fz
  have klt := h.ps.lt
  have hlo : lo ≤ w.heap.size := by have := h.lo; omega
  have h256 : b.toNat < 256 := b.toNat_lt
  clear h
  obtain ⟨Gr, hG⟩ : ∃ G, ustep ⟨6, [], false, e0, t⟩ b = G := ⟨_, rfl⟩
  have HGG := Lib.hid hG
  rw [hG]
  clear hG
  obtain ⟨n, hn⟩ : ∃ n, b.toNat = n := ⟨_, rfl⟩
  rw [hn] at h256 ⊢
  have HN := Lib.hid hn
  clear hn
  obtain ⟨u1, u2, u3⟩ := begB_iff.1 hT
  have hls : t.data.toList.length = t.size := rfl
  have ht4 : t.size ≤ 3 := by
    have : ∀ n, utfLen n ≤ 4 := fun n => by unfold utfLen; (repeat' split) <;> omega
    have := this (t.data.toList.headD 0).toNat
    omega
  have ht0 : 0 < t.size := by omega
  have HFK : Hid (fitK (t.data.toList ++ [b]) (t.size + 1) ↔ mayF t.data.toList b.toNat = true) := Lib.hid (fit_snoc u3 u1)
  obtain ⟨U, hU⟩ : ∃ U, t ++ (⟨#[b]⟩ : ByteArray) = U := ⟨_, rfl⟩
  have HU := Lib.hid hU
  have HUL : Hid (U.data.toList = t.data.toList ++ [b]) := Lib.hid (by rw [← hU]; simp)
  have HUS : Hid (U.size = t.size + 1) := Lib.hid (by rw [← hU, ByteArray.size_append]; rfl)
  have hU4 : U.size ≤ 4 := by rw [HUS.out]; omega
  have hU0 : 0 < U.size := by rw [HUS.out]; omega
  have HU0 : Hid ((U[0]'hU0) = t.data.toList.headD 0) := Lib.hid (by
    rw [← headL hU0, HUL.out]
    cases hc : t.data.toList with
    | nil => rw [hc] at hls; simp at hls; omega
    | cons a l => rfl)
  obtain ⟨z, hz⟩ : ∃ z, utfLen (t.data.toList.headD 0).toNat = z := ⟨_, rfl⟩
  have HZ := Lib.hid hz
  have hz4 : t.size < z ∧ z ≤ 4 := by
    refine ⟨by omega, ?_⟩
    rw [← hz]
    unfold utfLen; (repeat' split) <;> omega
  have HSZ : Hid (szR (U[0]'hU0).toNat = z) := Lib.hid (by
    rw [HU0.out]
    unfold szR
    rw [if_neg, hz]
    intro h
    rw [utfLen_low h] at hz
    omega)
  have hbig : ¬ 9223372036854775807 < t.size + 1 := by omega
  have hw8 : IntKind.u8.wrap (n : Int) = n := u8_in (by omega) (by omega)
  have hcv := convAt w.heap.size (w.alloc (.cells #[.int .u8 n] 5)).drew b n (by simp [go_sem]) HN.out
  obtain ⟨v, hv⟩ : ∃ v, mayF t.data.toList b.toNat = v := ⟨_, rfl⟩
  have HV := Lib.hid hv
  have HFT : Hid (∀ w, Calls Tryd.prog 89 #[.string U] w fun e w' => e = .returned (.bool v) ∧ w = w') := Lib.hid (fun w => (fits_r U w (by omega)).mono (fun e w' h => by
    obtain ⟨v', rfl, hv', rfl⟩ := h
    refine ⟨ret_b ?_, rfl⟩
    rw [HUL.out, HUS.out, HFK.out, hv] at hv'
    exact Bool.eq_iff_iff.2 hv'))
  clear hv hz hT u1 u2 u3 hls
  go_enter Tryd.func95, Tryd.ntmps95
  go_upto_region 0 with fail
  refine wp_region_G (fun w' => w'.cell? ⟨X, 4, none⟩ = some (.string t)) (fun i => false) (by kernel_rfl) k_4 ?_
  refine wpAnyG_takeW (i := 0) (v := ?_) rfl (by kernel_rfl) (by kernel_rfl) (by kernel_rfl) (fun _ _ _ h => h) (Or.inl ⟨by rfl, ?_⟩) ?_
  rotate_left
  · intro w' hSw
    go_simp
    try (with_reducible rfl)
  try simp only [Act.put, List.getElem_toArray, List.getElem_cons_zero, List.getElem_cons_succ, List.setIfInBounds_toArray, List.set_cons_zero, List.set_cons_succ]
  refine wpAnyG_takeW (i := 1) (v := ?_) rfl (by kernel_rfl) (by kernel_rfl) (by kernel_rfl) (fun _ _ _ h => h) (Or.inl ⟨by rfl, ?_⟩) ?_
  rotate_left
  · intro w' hSw
    go_simp
    try (with_reducible rfl)
  try simp only [Act.put, List.getElem_toArray, List.getElem_cons_zero, List.getElem_cons_succ, List.setIfInBounds_toArray, List.set_cons_zero, List.set_cons_succ]
  refine wpAnyG_takeW (i := 2) (v := ?_) rfl (by kernel_rfl) (by kernel_rfl) (by kernel_rfl) (fun _ _ _ h => h) (Or.inl ⟨by rfl, ?_⟩) ?_
  rotate_left
  · intro w' hSw
    go_simp
    try (with_reducible rfl)
  try simp only [Act.put, List.getElem_toArray, List.getElem_cons_zero, List.getElem_cons_succ, List.setIfInBounds_toArray, List.set_cons_zero, List.set_cons_succ]
  refine wpAnyG_takeW (i := 3) (v := ?_) rfl (by kernel_rfl) (by kernel_rfl) (by kernel_rfl) (fun _ _ _ h => h) (Or.inl ⟨by rfl, ?_⟩) ?_
  rotate_left
  · intro w' hSw
    go_simp
    try (with_reducible rfl)
  try simp only [Act.put, List.getElem_toArray, List.getElem_cons_zero, List.getElem_cons_succ, List.setIfInBounds_toArray, List.set_cons_zero, List.set_cons_succ]
  refine wpAnyG_take (i := 4) (v := ?_) rfl (by kernel_rfl) (by kernel_rfl) (by kernel_rfl) (by kernel_rfl) (fun _ _ _ h => h) k_4 (Or.inl ⟨by rfl, ?_⟩) ?_
  rotate_left
  · intro w' hSw
    go_simp
    try (with_reducible rfl)
  try simp only [Act.put, List.getElem_toArray, List.getElem_cons_zero, List.getElem_cons_succ, List.setIfInBounds_toArray, List.set_cons_zero, List.set_cons_succ]
  refine wpAnyG_takeW (i := 5) (v := ?_) rfl (by kernel_rfl) (by kernel_rfl) (by kernel_rfl) (fun _ _ _ h => h) (Or.inl ⟨by rfl, ?_⟩) ?_
  rotate_left
  · intro w' hSw
    go_simp
    try (with_reducible rfl)
  try simp only [Act.put, List.getElem_toArray, List.getElem_cons_zero, List.getElem_cons_succ, List.setIfInBounds_toArray, List.set_cons_zero, List.set_cons_succ]
  refine wpAnyG_takeW (i := 6) (v := ?_) rfl (by kernel_rfl) (by kernel_rfl) (by kernel_rfl) (fun _ _ _ h => h) (Or.inl ⟨by rfl, ?_⟩) ?_
  rotate_left
  · intro w' hSw
    go_simp
    try (with_reducible rfl)
  try simp only [Act.put, List.getElem_toArray, List.getElem_cons_zero, List.getElem_cons_succ, List.setIfInBounds_toArray, List.set_cons_zero, List.set_cons_succ]
  refine wpAnyG_one (i := 7) (by kernel_rfl) rfl k_4 (fun K' hK => ?_)
  simp only [List.getElem_toArray, List.getElem_cons_zero, List.getElem_cons_succ]
  go_simp
  have hS1 : (w.alloc (.cells #[.int .u8 n] 5)).cell? ⟨X, 4, none⟩ = some (.string t) := (World.cell?_alloc_lt _ _ _ klt).trans k_4
  refine hK.out _ _ (Or.inr hS1) ?_
  clear hK K'
  try simp only [Act.put, List.getElem_toArray, List.getElem_cons_zero, List.getElem_cons_succ, List.setIfInBounds_toArray, List.set_cons_zero, List.set_cons_succ]
  refine wpAnyG_one (i := 8) (by kernel_rfl) rfl hS1 (fun K' hK => ?_)
  simp only [List.getElem_toArray, List.getElem_cons_zero, List.getElem_cons_succ]
  go_simp
  refine hK.out _ _ (Or.inr hS1) ?_
  clear hK K'
  try simp only [Act.put, List.getElem_toArray, List.getElem_cons_zero, List.getElem_cons_succ, List.setIfInBounds_toArray, List.set_cons_zero, List.set_cons_succ]
  refine wpAnyG_takeW (i := 9) (v := ?_) rfl (by kernel_rfl) (by kernel_rfl) (by kernel_rfl) (fun _ _ _ h => h) (Or.inl ⟨by rfl, ?_⟩) ?_
  rotate_left
  · intro w' hSw
    go_simp
    try (with_reducible rfl)
  try simp only [Act.put, List.getElem_toArray, List.getElem_cons_zero, List.getElem_cons_succ, List.setIfInBounds_toArray, List.set_cons_zero, List.set_cons_succ]
  refine wpAnyG_takeW (i := 10) (v := ?_) rfl (by kernel_rfl) (by kernel_rfl) (by kernel_rfl) (fun _ _ _ h => h) (Or.inl ⟨by rfl, ?_⟩) ?_
  rotate_left
  · intro w' hSw
    go_simp
    try (with_reducible rfl)
  try simp only [Act.put, List.getElem_toArray, List.getElem_cons_zero, List.getElem_cons_succ, List.setIfInBounds_toArray, List.set_cons_zero, List.set_cons_succ]
  refine wpAnyG_done (by kernel_rfl) ?_ _
  clear hcv hbig hw8 hU
  have hb1 : Below w.heap.size w (w.alloc (.cells #[.int .u8 n] 5)).drew := ((Below.refl _ _).alloc (Nat.le_refl _) _).drew
  obtain ⟨x, hx⟩ : ∃ x, (w.alloc (.cells #[.int .u8 n] 5)).drew = x := ⟨_, rfl⟩
  rw [hx] at hb1 ⊢
  clear hx
  have HBX : Hid (Below lo w x) := Lib.hid (hb1.mono hlo)
  have HP1 := Lib.hid (HP.out.keep hb1)
  have x_0 := HP1.out.ps.c0
  have x_1 := HP1.out.ps.c1
  have x_2 := HP1.out.ps.c2
  have x_3 := HP1.out.ps.c3
  have x_4 := HP1.out.ps.c4
  have x_5 := HP1.out.c5
  have xf := HP1.out.ps.fz
  have xlt := HP1.out.ps.lt
  clear hb1
  cases v
  case false =>
    have HR : Hid (Gr = ((gstep b).1, pr 65533 :: (gstep b).2)) := Lib.hid (by rw [← HGG.out]; exact us1 HV.out)
    go_wp2_with (go_at_call 89; refine (HFT.out _).mono ?_; rintro e w' ⟨rfl, rfl⟩)
    refine (ground_r X lo _ ap al cp cl L _ HP1.out).mono ?_
    rintro e w1 ⟨rfl, g, hg, hq, hc⟩
    have HQ := Lib.hid hq
    have HC := Lib.hid hc
    clear hq hc
    go_wp2_with fail
    refine (tell_r X lo pz (some ⟨g, 0, none⟩) al none 0 cl 0 L ⟨1, 65533, false, [], e0⟩ _ HQ.out (FreshIn.nil _ _ _ _ _ _) (by simp [blkOf]) (by omega) (by simp)).mono ?_
    rintro e w2 ⟨rfl, ap', cp', L', al', cl', g1, g2, g3⟩
    have G2 := Lib.hid g2
    have hL' : L'.length ≤ 1048576 := by
      have := congrArg List.length g2
      simp at this
      omega
    have HB2 : Hid (Below lo w w2) := Lib.hid (HBX.out.trans ((HP1.out.below1 HC.out).trans g3))
    have h1 := takeG_r X lo ap' al' cp' cl' L' b _ g1 hL'
    rw [HN.out] at h1
    have H1 := Lib.hid h1
    clear g1 g2 g3 h1
    go_wp2_with fail
    refine H1.out.mono ?_
    rintro e w3 hq
    have HQ4 := Lib.hid (hq.after HB2.out G2.out)
    obtain ⟨rfl, _⟩ := hq
    go_wp2_with fail
    refine bodyPost_ret (v := .tuple #[]) (by simp [results, Tryd.results95]) rfl ?_
    rw [HR.out]
    exact HQ4.out
  by_cases hlt : U.size < z
  case pos =>
    have HR : Hid (Gr = (⟨6, [], false, e0, U⟩, [])) := Lib.hid (by
      rw [← HGG.out, ← HU.out]
      exact us2 (p := ⟨6, [], false, e0, t⟩) HV.out (by have := HUS.out; have := HZ.out; show t.size + 1 < utfLen (t.data.toList.headD 0).toNat; omega))
    have gz : (U.size : Int) < (z : Int) := by omega
    go_wp2_with (first | (go_at_call 89; refine (HFT.out _).mono ?_; rintro e w' ⟨rfl, rfl⟩) | (go_at_call 88; refine (size_r U _ hU0).mono ?_; rw [HSZ.out]; rintro e w' ⟨rfl, rfl⟩))
    refine bodyPost_ret (v := .tuple #[]) (by simp [results, Tryd.results95]) rfl ?_
    refine QR.base (QR.only (p' := ⟨6, [], false, e0, U⟩) (HP1.out.cells ?hc ?_ ?_ ?_ ?_ ?_ ?_ ?_ (.inl ⟨rfl, rfl, rfl⟩)) HP1.out ?hc HR.out) HBX.out
    case hc => repeat (first | (with_reducible exact Ch.refl) | (with_reducible refine Ch.alloc ?_ _) | (with_reducible refine Ch.drew ?_) | (with_reducible refine Ch.setB ?_ _ _))
    all_goals first | (intro o; simp [go_sem, xf, xlt]; done) | (simp [go_sem, x_0, x_1, x_2, x_3, x_4, x_5, xlt]; done)
  have HR : Hid (Gr = (pz, [⟨1, rnV U.data.toList, false, [], e0⟩])) := Lib.hid (by
    rw [← HGG.out, HUL.out]
    exact us3 (p := ⟨6, [], false, e0, t⟩) HV.out (by have := HUS.out; have := HZ.out; show ¬ t.size + 1 < utfLen (t.data.toList.headD 0).toNat; omega))
  have gz : ¬ (U.size : Int) < (z : Int) := by omega
  have HRU : Hid (U.size = 2 ∨ U.size = 3 ∨ U.size = 4) := Lib.hid (by have := HUS.out; omega)
  go_wp2_with (first | (go_at_call 89; refine (HFT.out _).mono ?_; rintro e w' ⟨rfl, rfl⟩) | (go_at_call 88; refine (size_r U _ hU0).mono ?_; rw [HSZ.out]; rintro e w' ⟨rfl, rfl⟩))
  refine (ground_r X lo _ ap al cp cl L _ HP1.out).mono ?_
  rintro e w1 ⟨rfl, g, hg, hq, hc⟩
  have HQ := Lib.hid hq
  have HC := Lib.hid hc
  clear hq hc
  go_wp2_with (go_at_call 102; refine (rune_r U _ HRU.out).mono ?_; rintro e w' ⟨rfl, rfl⟩)
  refine (tell_r X lo pz (some ⟨g, 0, none⟩) al none 0 cl 0 L ⟨1, rnV U.data.toList, false, [], e0⟩ _ HQ.out (FreshIn.nil _ _ _ _ _ _) (by simp [blkOf]) (by omega) (by simp)).mono ?_
  rintro e w2 hq
  have HQ2 := Lib.hid (hq.base (HBX.out.trans (HP1.out.below1 HC.out)))
  obtain ⟨rfl, _⟩ := hq
  go_wp2_with fail
  refine bodyPost_end (v := .tuple #[]) (by simp [results, Tryd.results95]) rfl ?_
  rw [HR.out]
  exact HQ2.out
end
section
open Go.RowKit
set_option maxRecDepth 100000 in
set_option maxHeartbeats 4000000 in
theorem takeO_r (t : ByteArray) (X lo : Nat) (ap al : Option Addr) (cp cl : Nat) (L : List ActA) (b : UInt8) (w : World) (h : QS X lo ⟨4, [], false, t, e0⟩ ap cp L al cl w) (hL : L.length ≤ 1048576) (hT : t.size ≤ 40) :
    Calls Tryd.prog 73 #[.pointer (some ⟨X, 0, none⟩), .int .i64 b.toNat] w (fun e w' => QR X lo (ostep ⟨4, [], false, t, e0⟩ b) L e w w') := by
  have HCA := Lib.hid (osc_r t X lo ap al cp cl L b w h hL hT)
  have k_0 : w.cell? ⟨X, 0, none⟩ = some (.int .i64 4) := h.ps.c0
  have kf := h.ps.fz
  have klt := h.ps.lt
  clear h
  go_enter Tryd.func73, Tryd.ntmps73
  go_wp2_with fail
  refine HCA.out.mono ?_
  rintro e w1 hq
  have HQ := Lib.hid hq
  obtain ⟨rfl, _⟩ := hq
  go_wp2_with fail
  refine bodyPost_end (v := .tuple #[]) (by simp [results, Tryd.results73]) rfl ?_
  exact HQ.out
set_option maxRecDepth 100000 in
set_option maxHeartbeats 4000000 in
theorem takeQ_r (t : ByteArray) (X lo : Nat) (ap al : Option Addr) (cp cl : Nat) (L : List ActA) (b : UInt8) (w : World) (h : QS X lo ⟨5, [], false, t, e0⟩ ap cp L al cl w) (hL : L.length ≤ 1048576) :
    Calls Tryd.prog 73 #[.pointer (some ⟨X, 0, none⟩), .int .i64 b.toNat] w (fun e w' => QR X lo (qstep ⟨5, [], false, t, e0⟩ b) L e w w') := by
  have HCA := Lib.hid (oscEnd_r t X lo ap al cp cl L b w h hL)
  have k_0 : w.cell? ⟨X, 0, none⟩ = some (.int .i64 5) := h.ps.c0
  have kf := h.ps.fz
  have klt := h.ps.lt
  clear h
  go_enter Tryd.func73, Tryd.ntmps73
  go_wp2_with fail
  refine HCA.out.mono ?_
  rintro e w1 hq
  have HQ := Lib.hid hq
  obtain ⟨rfl, _⟩ := hq
  go_wp2_with fail
  refine bodyPost_end (v := .tuple #[]) (by simp [results, Tryd.results73]) rfl ?_
  exact HQ.out
set_option maxRecDepth 100000 in
set_option maxHeartbeats 4000000 in
theorem takeU_r (t : ByteArray) (X lo : Nat) (ap al : Option Addr) (cp cl : Nat) (L : List ActA) (b : UInt8) (w : World) (h : QS X lo ⟨6, [], false, e0, t⟩ ap cp L al cl w) (hL : L.length ≤ 1048575) (hT : begB t.data.toList = true) :
    Calls Tryd.prog 73 #[.pointer (some ⟨X, 0, none⟩), .int .i64 b.toNat] w (fun e w' => QR X lo (ustep ⟨6, [], false, e0, t⟩ b) L e w w') := by
  have HCA := Lib.hid (utf_r t X lo ap al cp cl L b w h hL hT)
  have k_0 : w.cell? ⟨X, 0, none⟩ = some (.int .i64 6) := h.ps.c0
  have kf := h.ps.fz
  have klt := h.ps.lt
  clear h
  go_enter Tryd.func73, Tryd.ntmps73
  go_wp2_with fail
  refine HCA.out.mono ?_
  rintro e w1 hq
  have HQ := Lib.hid hq
  obtain ⟨rfl, _⟩ := hq
  go_wp2_with fail
  refine bodyPost_end (v := .tuple #[]) (by simp [results, Tryd.results73]) rfl ?_
  exact HQ.out
end
section
open Go.RowKit
set_option maxRecDepth 100000 in
set_option maxHeartbeats 4000000 in
theorem own_r (ap : Option Addr) (cp : Nat) (p : PV) (w : World) (ha : Sl intE 1 w ap p.args) (hl : p.args.length ≤ 1048576) :
    Calls Tryd.prog 72 #[.agg #[.int .i64 p.state, .slice ap p.args.length cp, .bool p.priv, .string p.text, .string p.utf]] w (ParR p w) := by
  obtain ⟨i0, hi, hz0, hz1, hz2⟩ := info_parts Tryd.infoInt
  have la := hl
  have HA := Lib.hid (((ha.alloc (.cells #[.int .i64 p.state, .slice ap p.args.length cp, .bool p.priv, .string p.text, .string p.utf] 25)).alloc (.cells #[.int .i64 0, .slice none 0 0, .bool false, .string ⟨#[]⟩, .string ⟨#[]⟩] 25)).alloc (.cells #[] 3))
  have h0 := (fresh_mdI ((w.alloc (.cells #[.int .i64 p.state, .slice ap p.args.length cp, .bool p.priv, .string p.text, .string p.utf] 25)).alloc (.cells #[.int .i64 0, .slice none 0 0, .bool false, .string ⟨#[]⟩, .string ⟨#[]⟩] 25)) (w.heap.size + 2) (by simp)).here
  simp only [World.size_alloc] at h0
  have HFR := Lib.hid h0
  clear h0
  go_enter Tryd.func72, Tryd.ntmps72
  go_wp2_with (first
    | (skip
       at_builtin
       refine wpList_append_fresh rfl (.tmp 3) (.tmp 5) 23 23 rfl (w.heap.size + 2) (w.heap.size + 2 + 1) 3 i0 (.int .i64 0) 1 8 Tryd.underlying23 hi hz0 hz1 hz2 rfl (by decide) (.slice (some ⟨w.heap.size + 2, 0, none⟩) 0 0) ([]) rfl (HFR.out) _ (p.args) rfl (Src.ofSl (enc := intE) (sz := 1) (xs := p.args) Tryd.underlying23 (fun _ => rfl) intOne HA.out cp) (by (try simp) <;> (try omega)) (by (try simp) <;> (try omega)) ?_
       intro a1 c1 w1 L1 hL1 hf1 hm1
       have HLL := hL1
       have hf := Lib.hid hf1
       have hmm := Lib.hid hm1
       have hz := hm1.size
       simp only [World.size_alloc] at hz
       have hl1 : w.heap.size + 1 < w1.heap.size := by omega
       have hl0 : w.heap.size < w1.heap.size := by omega
       have q0_0 : w1.cell? ⟨w.heap.size, 0, none⟩ = some (.int .i64 p.state) := (hm1.cell (p := ⟨w.heap.size, 0, none⟩) (by show w.heap.size < _; simp; try omega) (.inl (by show w.heap.size < _; omega))).trans (by simp [go_sem])
       have f0_0 : w1.frozen? ⟨w.heap.size, 0, none⟩ = false := (hm1.frozen (p := ⟨w.heap.size, 0, none⟩) (by show w.heap.size < _; simp; try omega) (.inl (by show w.heap.size < _; omega))).trans (by simp [go_sem])
       have q0_1 : w1.cell? ⟨w.heap.size, 1, none⟩ = some (.slice ap p.args.length cp) := (hm1.cell (p := ⟨w.heap.size, 1, none⟩) (by show w.heap.size < _; simp; try omega) (.inl (by show w.heap.size < _; omega))).trans (by simp [go_sem])
       have f0_1 : w1.frozen? ⟨w.heap.size, 1, none⟩ = false := (hm1.frozen (p := ⟨w.heap.size, 1, none⟩) (by show w.heap.size < _; simp; try omega) (.inl (by show w.heap.size < _; omega))).trans (by simp [go_sem])
       have q0_2 : w1.cell? ⟨w.heap.size, 2, none⟩ = some (.bool p.priv) := (hm1.cell (p := ⟨w.heap.size, 2, none⟩) (by show w.heap.size < _; simp; try omega) (.inl (by show w.heap.size < _; omega))).trans (by simp [go_sem])
       have f0_2 : w1.frozen? ⟨w.heap.size, 2, none⟩ = false := (hm1.frozen (p := ⟨w.heap.size, 2, none⟩) (by show w.heap.size < _; simp; try omega) (.inl (by show w.heap.size < _; omega))).trans (by simp [go_sem])
       have q0_3 : w1.cell? ⟨w.heap.size, 3, none⟩ = some (.string p.text) := (hm1.cell (p := ⟨w.heap.size, 3, none⟩) (by show w.heap.size < _; simp; try omega) (.inl (by show w.heap.size < _; omega))).trans (by simp [go_sem])
       have f0_3 : w1.frozen? ⟨w.heap.size, 3, none⟩ = false := (hm1.frozen (p := ⟨w.heap.size, 3, none⟩) (by show w.heap.size < _; simp; try omega) (.inl (by show w.heap.size < _; omega))).trans (by simp [go_sem])
       have q0_4 : w1.cell? ⟨w.heap.size, 4, none⟩ = some (.string p.utf) := (hm1.cell (p := ⟨w.heap.size, 4, none⟩) (by show w.heap.size < _; simp; try omega) (.inl (by show w.heap.size < _; omega))).trans (by simp [go_sem])
       have f0_4 : w1.frozen? ⟨w.heap.size, 4, none⟩ = false := (hm1.frozen (p := ⟨w.heap.size, 4, none⟩) (by show w.heap.size < _; simp; try omega) (.inl (by show w.heap.size < _; omega))).trans (by simp [go_sem])
       have q1_0 : w1.cell? ⟨w.heap.size + 1, 0, none⟩ = some (.int .i64 0) := (hm1.cell (p := ⟨w.heap.size + 1, 0, none⟩) (by show w.heap.size + 1 < _; simp; try omega) (.inl (by show w.heap.size + 1 < _; omega))).trans (by simp [go_sem])
       have f1_0 : w1.frozen? ⟨w.heap.size + 1, 0, none⟩ = false := (hm1.frozen (p := ⟨w.heap.size + 1, 0, none⟩) (by show w.heap.size + 1 < _; simp; try omega) (.inl (by show w.heap.size + 1 < _; omega))).trans (by simp [go_sem])
       have q1_1 : w1.cell? ⟨w.heap.size + 1, 1, none⟩ = some (.slice none 0 0) := (hm1.cell (p := ⟨w.heap.size + 1, 1, none⟩) (by show w.heap.size + 1 < _; simp; try omega) (.inl (by show w.heap.size + 1 < _; omega))).trans (by simp [go_sem])
       have f1_1 : w1.frozen? ⟨w.heap.size + 1, 1, none⟩ = false := (hm1.frozen (p := ⟨w.heap.size + 1, 1, none⟩) (by show w.heap.size + 1 < _; simp; try omega) (.inl (by show w.heap.size + 1 < _; omega))).trans (by simp [go_sem])
       have q1_2 : w1.cell? ⟨w.heap.size + 1, 2, none⟩ = some (.bool false) := (hm1.cell (p := ⟨w.heap.size + 1, 2, none⟩) (by show w.heap.size + 1 < _; simp; try omega) (.inl (by show w.heap.size + 1 < _; omega))).trans (by simp [go_sem])
       have f1_2 : w1.frozen? ⟨w.heap.size + 1, 2, none⟩ = false := (hm1.frozen (p := ⟨w.heap.size + 1, 2, none⟩) (by show w.heap.size + 1 < _; simp; try omega) (.inl (by show w.heap.size + 1 < _; omega))).trans (by simp [go_sem])
       have q1_3 : w1.cell? ⟨w.heap.size + 1, 3, none⟩ = some (.string ⟨#[]⟩) := (hm1.cell (p := ⟨w.heap.size + 1, 3, none⟩) (by show w.heap.size + 1 < _; simp; try omega) (.inl (by show w.heap.size + 1 < _; omega))).trans (by simp [go_sem])
       have f1_3 : w1.frozen? ⟨w.heap.size + 1, 3, none⟩ = false := (hm1.frozen (p := ⟨w.heap.size + 1, 3, none⟩) (by show w.heap.size + 1 < _; simp; try omega) (.inl (by show w.heap.size + 1 < _; omega))).trans (by simp [go_sem])
       have q1_4 : w1.cell? ⟨w.heap.size + 1, 4, none⟩ = some (.string ⟨#[]⟩) := (hm1.cell (p := ⟨w.heap.size + 1, 4, none⟩) (by show w.heap.size + 1 < _; simp; try omega) (.inl (by show w.heap.size + 1 < _; omega))).trans (by simp [go_sem])
       have f1_4 : w1.frozen? ⟨w.heap.size + 1, 4, none⟩ = false := (hm1.frozen (p := ⟨w.heap.size + 1, 4, none⟩) (by show w.heap.size + 1 < _; simp; try omega) (.inl (by show w.heap.size + 1 < _; omega))).trans (by simp [go_sem])
       clear hf1 hm1 hz
       skip))
  obtain rfl : L1 = p.args := by simpa using HLL.out
  refine bodyPost_ret (v := .agg #[.int .i64 p.state, .slice a1 p.args.length c1, .bool p.priv, .string p.text, .string p.utf]) (by simp [results, Tryd.results72, go_sem, q0_0, q0_1, q0_2, q0_3, q0_4, q1_0, q1_1, q1_2, q1_3, q1_4, hl0, hl1]) rfl ?_
  have hc : ∀ x1 y0 y1 y2 y3 y4, Ch (fun k => k = w.heap.size ∨ k = w.heap.size + 1) w1 ((((((w1.setCell ⟨w.heap.size, 1, none⟩ x1).setCell ⟨w.heap.size + 1, 0, none⟩ y0).setCell ⟨w.heap.size + 1, 1, none⟩ y1).setCell ⟨w.heap.size + 1, 2, none⟩ y2).setCell ⟨w.heap.size + 1, 3, none⟩ y3).setCell ⟨w.heap.size + 1, 4, none⟩ y4) := fun x1 y0 y1 y2 y3 y4 =>
    (((((Ch.refl.setCell (M := fun k => k = w.heap.size ∨ k = w.heap.size + 1) (p := ⟨w.heap.size, 1, none⟩) (.inl (.inl rfl)) x1).setCell (p := ⟨w.heap.size + 1, 0, none⟩) (.inl (.inr rfl)) y0).setCell (p := ⟨w.heap.size + 1, 1, none⟩) (.inl (.inr rfl)) y1).setCell (p := ⟨w.heap.size + 1, 2, none⟩) (.inl (.inr rfl)) y2).setCell (p := ⟨w.heap.size + 1, 3, none⟩) (.inl (.inr rfl)) y3).setCell (p := ⟨w.heap.size + 1, 4, none⟩) (.inl (.inr rfl)) y4
  have hB := (((((Below.refl w.heap.size w).alloc (Nat.le_refl _) _).alloc (by simp) _).alloc (by simp; omega) _).trans (hmm.out.below (by omega) (by simp; try omega)))
  have hF := hf.out.mono (lo' := w.heap.size + 2) (Nat.le_refl _) (Nat.le_refl _)
  have hcx := hc (.slice a1 p.args.length c1) (.int .i64 p.state) (.slice a1 p.args.length c1) (.bool p.priv) (.string p.text) (.string p.utf)
  refine ⟨a1, c1, rfl, ?_, ?_⟩
  · have h1 := FreshIn.ch hF hcx (fun k hk h => by
      have := (FreshIn.blks hF k hk).1
      omega)
    exact h1.mono (by omega) (Nat.le_refl _)
  · exact hB.trans (hcx.below (by omega) (fun k h => by omega))
end
end Go.Proofs.YtlhhlmalihajcaaDoor
