/- Contracts of the functions that the claim reaches. No conditions but sizes. -/
import Derived.Test.YtjmpgeffkdjpdaaGreatDoorPRzb
import Derived.Deep.DeepCutAuto
import Derived.Deep.RegionHeld3
import Derived.StillTailTactics
import Derived.Lib.Hide
import Derived.BigQuiet
import Derived.Lib.Bits
namespace Go.Proofs.YtjmpgeffkdjpdaaGreatDoor
set_option linter.unusedVariables false
set_option linter.unusedSimpArgs false
set_option maxRecDepth 100000
set_option maxHeartbeats 16000000
section
open Go.RowKit
theorem fresh_zeroA (lo : Nat) (w : World) (g : Nat) (hg : g = w.heap.size) (h : lo ≤ w.heap.size) : FreshIn actE 38 5 lo (w.alloc (.cells #[] 38)).heap.size (.slice (some ⟨g, 0, none⟩) 0 0) [] (w.alloc (.cells #[] 38)) := by
  subst hg
  exact (Fresh.of_own (World.ownsRow_made (base := lo) w #[] 0 h (by decide) rfl) rfl rfl).here
theorem actZero (lo : Nat) (w : World) (g : Nat) (hg : g = w.heap.size) (h : lo ≤ w.heap.size) : ActO lo [] (some ⟨g, 0, none⟩) 0 (w.alloc (.cells #[] 38)) :=
  ⟨fresh_zeroA lo w g hg h, by simp, by simp [roB, blkOf]⟩
def OutP (G : PV × List AV) (w : World) (e : Ending) (w' : World) : Prop :=
  ∃ (ap : Option Addr) (cp : Nat) (al : Option Addr) (cl : Nat) (L : List ActA), e = .returned (.tuple #[.agg #[.int .i64 G.1.state, .slice ap G.1.args.length cp, .bool G.1.priv, .string G.1.text, .string G.1.utf], .slice al L.length cl]) ∧ FreshIn intE 3 1 w.heap.size w'.heap.size (.slice ap G.1.args.length cp) G.1.args w' ∧ ActO w.heap.size L al cl w' ∧ (∀ k ∈ blkOf ap, k ∉ acB al L) ∧ L.map (·.A) = G.2 ∧ Below w.heap.size w w'
theorem QS.box {X lo : Nat} {p : PV} {ap al : Option Addr} {cp cl : Nat} {w : World} (hlo : lo ≤ X) (hlt : X < w.heap.size) (ha : FreshIn intE 3 1 lo w.heap.size (.slice ap p.args.length cp) p.args w) (hro : ActO lo [] al cl w)
    (c0 : w.cell? ⟨X, 0, none⟩ = some (.int .i64 p.state)) (c1 : w.cell? ⟨X, 1, none⟩ = some (.slice ap p.args.length cp)) (c2 : w.cell? ⟨X, 2, none⟩ = some (.bool p.priv))
    (c3 : w.cell? ⟨X, 3, none⟩ = some (.string p.text)) (c4 : w.cell? ⟨X, 4, none⟩ = some (.string p.utf)) (c5 : w.cell? ⟨X, 5, none⟩ = some (.slice al 0 cl)) (fz : ∀ o, w.frozen? ⟨X, o, none⟩ = false) (hn : X ∉ blkOf ap ++ blkOf al) (hd : ∀ k ∈ blkOf ap, k ∉ blkOf al) : QS X lo p ap cp [] al cl w :=
  ⟨⟨c0, c1, c2, c3, c4, fz, hlt, ha, hro, by simpa [acB, roB] using hn, fun k hk => by simpa [acB, roB] using hd k hk⟩, c5, hlo⟩
theorem run_r (ap : Option Addr) (cp : Nat) (p : PV) (s : ByteArray) (w : World) (ha : Sl intE 1 w ap p.args) (hs : s.size ≤ 131072) (ok : PvOK p) :
    Calls Tryz.prog 68 #[.agg #[.int .i64 p.state, .slice ap p.args.length cp, .bool p.priv, .string p.text, .string p.utf], .string s] w (OutP (prun p s.data.toList) w) := by
  have hl8 : p.args.length ≤ 1048576 := by
    by_cases h2 : p.state = 2
    · have := ok.csi h2
      simp only [argsB, Bool.and_eq_true, decide_eq_true_eq] at this
      omega
    · rw [(ok.nocsi h2).1]; simp
  have HOK := Lib.hid ok
  have HSZ : Hid (s.data.toList.length = s.size) := Lib.hid rfl
  have HOWN := Lib.hid (own_r ap cp p ((w.alloc (.cells #[.int .i64 p.state, .slice ap p.args.length cp, .bool p.priv, .string p.text, .string p.utf] 42)).alloc (.cells #[.int .i64 0, .slice none 0 0, .bool false, .string ⟨#[]⟩, .string ⟨#[]⟩] 42)) ((ha.alloc _).alloc _) hl8)
  clear ok ha
  obtain ⟨R, hR⟩ : ∃ R, prun p s.data.toList = R := ⟨_, rfl⟩
  have HRE := Lib.hid hR
  rw [hR]
  clear hR
  go_enter Tryz.func68, Tryz.ntmps68
  go_wp2_with fail
  refine HOWN.out.mono ?_
  clear HOWN
  rintro e w1 ⟨a1, c1, rfl, hf, hb⟩
  have HF := Lib.hid hf
  have HB := Lib.hid hb
  have hz := hb.size
  simp only [World.size_alloc] at hz
  have hl0 : w.heap.size < w1.heap.size := by omega
  have hl1 : w.heap.size + 1 < w1.heap.size := by omega
  have r1_0 : w1.cell? ⟨w.heap.size + 1, 0, none⟩ = some (.int .i64 0) := (hb.cell (p := ⟨w.heap.size + 1, 0, none⟩) (by show w.heap.size + 1 < _; (try simp) <;> omega)).trans (by simp [go_sem])
  have r1_1 : w1.cell? ⟨w.heap.size + 1, 1, none⟩ = some (.slice none 0 0) := (hb.cell (p := ⟨w.heap.size + 1, 1, none⟩) (by show w.heap.size + 1 < _; (try simp) <;> omega)).trans (by simp [go_sem])
  have r1_2 : w1.cell? ⟨w.heap.size + 1, 2, none⟩ = some (.bool false) := (hb.cell (p := ⟨w.heap.size + 1, 2, none⟩) (by show w.heap.size + 1 < _; (try simp) <;> omega)).trans (by simp [go_sem])
  have r1_3 : w1.cell? ⟨w.heap.size + 1, 3, none⟩ = some (.string ⟨#[]⟩) := (hb.cell (p := ⟨w.heap.size + 1, 3, none⟩) (by show w.heap.size + 1 < _; (try simp) <;> omega)).trans (by simp [go_sem])
  have r1_4 : w1.cell? ⟨w.heap.size + 1, 4, none⟩ = some (.string ⟨#[]⟩) := (hb.cell (p := ⟨w.heap.size + 1, 4, none⟩) (by show w.heap.size + 1 < _; (try simp) <;> omega)).trans (by simp [go_sem])
  have rf1 : ∀ o, w1.frozen? ⟨w.heap.size + 1, o, none⟩ = false := fun o => (hb.frozen (p := ⟨w.heap.size + 1, o, none⟩) (by show w.heap.size + 1 < _; (try simp) <;> omega)).trans (by simp [go_sem])
  have HBW : Hid (Below w.heap.size w w1) := Lib.hid (((Below.refl w.heap.size w).alloc (Nat.le_refl _) _ |>.alloc (by simp) _).trans (hb.mono (by simp only [World.size_alloc]; omega)))
  clear hf hb
  go_upto_region 2 with fail
  obtain ⟨x, hx⟩ : ∃ x, ((w1.alloc (.cells #[] 38)).alloc (.cells #[.int .i64 p.state, .slice a1 p.args.length c1, .bool p.priv, .string p.text, .string p.utf, .slice (some ⟨w1.heap.size, 0, none⟩) 0 0] 130)) = x := ⟨_, rfl⟩
  have HBX : Hid (Below w1.heap.size w1 x) := Lib.hid (by rw [← hx]; exact ((Below.refl _ _).alloc (Nat.le_refl _) _).alloc (by simp) _)
  have hzx : w1.heap.size + 1 < x.heap.size := by rw [← hx]; simp
  have HQ0 : Hid (QS (w1.heap.size + 1) (w.heap.size + 2) p a1 c1 [] (some ⟨w1.heap.size, 0, none⟩) 0 x) := Lib.hid (by
    have h1 := HF.out.ch (M := fun _ => False) (Ch.of_below HBX.out) (fun _ _ h => h)
    have hb1 := FreshIn.blks HF.out
    simp only [World.size_alloc] at h1 hb1
    refine QS.box (by omega) hzx h1 ?_ ?_ ?_ ?_ ?_ ?_ ?_ ?_ ?_ ?_
    · rw [← hx]
      exact (actZero (w.heap.size + 2) w1 w1.heap.size rfl (by omega)).keep actL ((Below.refl _ _).alloc (Nat.le_refl _) _)
    · rw [← hx]; simp [go_sem]
    · rw [← hx]; simp [go_sem]
    · rw [← hx]; simp [go_sem]
    · rw [← hx]; simp [go_sem]
    · rw [← hx]; simp [go_sem]
    · rw [← hx]; simp [go_sem]
    · intro o; rw [← hx]; simp [go_sem]
    · intro h
      rcases List.mem_append.1 h with h | h
      · have := (hb1 _ h).2; omega
      · simp [blkOf] at h
    · intro k hk h
      have := (hb1 _ hk).2
      simp [blkOf] at h
      omega)
  rw [hx]
  clear hx
  have HBWX : Hid (Below w.heap.size w x) := Lib.hid (HBW.out.trans (HBX.out.mono (by omega)))
  have hx1 : w.heap.size + 1 < x.heap.size := by omega
  have x1_0 := kC HBX.out (by omega) r1_0
  have x1_1 := kC HBX.out (by omega) r1_1
  have x1_2 := kC HBX.out (by omega) r1_2
  have x1_3 := kC HBX.out (by omega) r1_3
  have x1_4 := kC HBX.out (by omega) r1_4
  have xf1 : ∀ o, x.frozen? ⟨w.heap.size + 1, o, none⟩ = false := fun o => (HBX.out.frozen (p := ⟨w.heap.size + 1, o, none⟩) (by show w.heap.size + 1 < _; omega)).trans (rf1 o)
  clear r1_0 r1_1 r1_2 r1_3 r1_4 rf1
  obtain ⟨X, hX⟩ : ∃ X, w1.heap.size + 1 = X := ⟨_, rfl⟩
  have hXlo : w.heap.size + 2 < X := by omega
  have hXx : X < x.heap.size := by omega
  rw [hX] at HQ0 ⊢
  clear hX hzx hl0 hl1 hz
  go_wp2_with fail
  go_loopw [7] (fun i wr => ∃ (k : Nat) (a5 : Option Addr) (c5 : Nat) (L5 : List ActA) (al5 : Option Addr) (cl5 : Nat), k ≤ s.size ∧ i = .int .i64 k ∧ Hid (QS X (w.heap.size + 2) (prun p (s.data.toList.take k)).1 a5 c5 L5 al5 cl5 wr ∧ L5.map (·.A) = (prun p (s.data.toList.take k)).2 ∧ Below (w.heap.size + 2) x wr)) (fun i _ => s.size - (intOf i).toNat)
  case atStart => exact ⟨0, a1, c1, [], some ⟨w1.heap.size, 0, none⟩, 0, Nat.zero_le _, rfl, Lib.hid ⟨HQ0.out, rfl, Below.refl _ _⟩⟩
  case round =>
    obtain ⟨k, a5, c5, L5, al5, cl5, hk, rfl, HPP⟩ := hrel
    have hsz := HPP.out.2.2.size
    by_cases hlt : k < s.size
    · obtain ⟨b, hbk⟩ : ∃ b, s[k] = b := ⟨_, rfl⟩
      have HBK : Hid (s.data.toList[k]'(by rw [HSZ.out]; exact hlt) = b) := Lib.hid hbk
      have h256 := b.toNat_lt
      have HLL : Hid (L5.length ≤ 1048575) := Lib.hid (by
        have h1 := congrArg List.length HPP.out.2.1
        have h2 := run_len (s.data.toList.take k) p
        have h3 := HSZ.out
        simp only [List.length_map, List.length_take] at h1 h2
        omega)
      obtain ⟨Pk, hPk⟩ : ∃ P, prun p (s.data.toList.take k) = P := ⟨_, rfl⟩
      have HPK := Lib.hid hPk
      rw [hPk] at HPP
      clear hPk
      have hu8 : IntKind.i64.wrap (b.toNat : Int) = (b.toNat : Int) := IntWalk.i64_in _ ⟨by omega, by omega⟩
      have HTK := Lib.hid (take_r Pk.1 X (w.heap.size + 2) a5 al5 c5 cl5 L5 b wr HPP.out.1 HLL.out (by rw [← HPK.out]; exact prun_ok _ HOK.out))
      go_wp2_with fail
      refine HTK.out.mono ?_
      clear HTK
      rintro e w6 ⟨rfl, a7, c7, L7, al7, cl7, g1, g2, g3⟩
      have G1 := Lib.hid g1
      have G2 := Lib.hid g2
      have G3 := Lib.hid g3
      clear g1 g2 g3
      go_wp2_with fail
      go_roundw
      case rel =>
        have hs : prun p (s.data.toList.take (k + 1)) = ((pstep Pk.1 b).1, Pk.2 ++ (pstep Pk.1 b).2) := by
          rw [List.take_succ_eq_append_getElem (by rw [HSZ.out]; exact hlt), prun_snoc, HPK.out, HBK.out]
        exact ⟨k + 1, a7, c7, L7, al7, cl7, by omega, by go_num, Lib.hid ⟨by rw [hs]; exact G1.out, by rw [hs, G2.out, HPP.out.2.1], HPP.out.2.2.trans G3.out⟩⟩
      case measure => simp [intOf]; omega
    · obtain rfl : k = s.size := by omega
      rw [← HSZ.out, List.take_length] at HPP
      rw [HRE.out] at HPP
      have g1 := HPP.out.1
      have g3 := HPP.out.2.2
      have v0 := g1.ps.c0
      have v1 := g1.ps.c1
      have v2 := g1.ps.c2
      have v3 := g1.ps.c3
      have v4 := g1.ps.c4
      have v5 := g1.c5
      have vlt := g1.ps.lt
      have u0 : wr.cell? ⟨w.heap.size + 1, 0, none⟩ = some (.int .i64 0) := (g3.cell (p := ⟨w.heap.size + 1, 0, none⟩) (by show w.heap.size + 1 < _; omega)).trans x1_0
      have u1 : wr.cell? ⟨w.heap.size + 1, 1, none⟩ = some (.slice none 0 0) := (g3.cell (p := ⟨w.heap.size + 1, 1, none⟩) (by show w.heap.size + 1 < _; omega)).trans x1_1
      have u2 : wr.cell? ⟨w.heap.size + 1, 2, none⟩ = some (.bool false) := (g3.cell (p := ⟨w.heap.size + 1, 2, none⟩) (by show w.heap.size + 1 < _; omega)).trans x1_2
      have u3 : wr.cell? ⟨w.heap.size + 1, 3, none⟩ = some (.string ⟨#[]⟩) := (g3.cell (p := ⟨w.heap.size + 1, 3, none⟩) (by show w.heap.size + 1 < _; omega)).trans x1_3
      have u4 : wr.cell? ⟨w.heap.size + 1, 4, none⟩ = some (.string ⟨#[]⟩) := (g3.cell (p := ⟨w.heap.size + 1, 4, none⟩) (by show w.heap.size + 1 < _; omega)).trans x1_4
      have uf : ∀ o, wr.frozen? ⟨w.heap.size + 1, o, none⟩ = false := fun o => (g3.frozen (p := ⟨w.heap.size + 1, o, none⟩) (by show w.heap.size + 1 < _; omega)).trans (xf1 o)
      have ul : w.heap.size + 1 < wr.heap.size := by omega
      have hRl : R.1.args.length ≤ 1048576 := by
        have h1 := prun_ok s.data.toList HOK.out
        rw [HRE.out] at h1
        by_cases h2 : R.1.state = 2
        · have := h1.csi h2
          simp only [argsB, Bool.and_eq_true, decide_eq_true_eq] at this
          omega
        · rw [(h1.nocsi h2).1]; simp
      have HOW : Hid (∀ W, Below wr.heap.size wr W → Calls Tryz.prog 105 #[.agg #[.int .i64 R.1.state, .slice a5 R.1.args.length c5, .bool R.1.priv, .string R.1.text, .string R.1.utf]] W (ParR R.1 W)) := Lib.hid (fun W hW => own_r a5 c5 R.1 W (Sl.keep (w := wr) (FreshIn.sl (enc := intE) (fun _ => rfl) HPP.out.1.ps.args) hW) hRl)
      clear g1 g3
      go_upto_region 6 with fail
      have hS0 : wr.cell? ⟨X, 0, none⟩ = some (.int .i64 R.1.state) ∧ wr.cell? ⟨X, 1, none⟩ = some (.slice a5 R.1.args.length c5) ∧ wr.cell? ⟨X, 2, none⟩ = some (.bool R.1.priv) ∧ wr.cell? ⟨X, 3, none⟩ = some (.string R.1.text) ∧ wr.cell? ⟨X, 4, none⟩ = some (.string R.1.utf) ∧ wr.cell? ⟨X, 5, none⟩ = some (.slice al5 L5.length cl5) := ⟨v0, v1, v2, v3, v4, v5⟩
      refine wp_region_G (fun w' => w'.cell? ⟨X, 0, none⟩ = some (.int .i64 R.1.state) ∧ w'.cell? ⟨X, 1, none⟩ = some (.slice a5 R.1.args.length c5) ∧ w'.cell? ⟨X, 2, none⟩ = some (.bool R.1.priv) ∧ w'.cell? ⟨X, 3, none⟩ = some (.string R.1.text) ∧ w'.cell? ⟨X, 4, none⟩ = some (.string R.1.utf) ∧ w'.cell? ⟨X, 5, none⟩ = some (.slice al5 L5.length cl5)) (fun i => false) (by kernel_rfl) hS0 ?_
      refine tW ?_ 0 rfl ?_ ?_; rotate_left
      · intro w' hSw; go_simp; try rfl
      try simp only [Act.put,j1,j2,j3,j4,j5,j6]
      refine tW ?_ 1 rfl ?_ ?_; rotate_left
      · intro w' hSw; go_simp; try rfl
      try simp only [Act.put,j1,j2,j3,j4,j5,j6]
      refine tW ?_ 2 rfl ?_ ?_; rotate_left
      · intro w' hSw; go_simp; try rfl
      try simp only [Act.put,j1,j2,j3,j4,j5,j6]
      refine tL ?_ 3 rfl hS0 ?_ ?_; rotate_left
      · intro w' hSw; obtain ⟨s0, s1, s2, s3, s4, s5⟩ := hSw; go_simp; try rfl
      try simp only [Act.put,j1,j2,j3,j4,j5,j6]
      refine tW ?_ 5 rfl ?_ ?_; rotate_left
      · intro w' hSw; go_simp; try rfl
      try simp only [Act.put,j1,j2,j3,j4,j5,j6]
      refine tW ?_ 6 rfl ?_ ?_; rotate_left
      · intro w' hSw; go_simp; try rfl
      try simp only [Act.put,j1,j2,j3,j4,j5,j6]
      refine tW ?_ 7 rfl ?_ ?_; rotate_left
      · intro w' hSw; go_simp; try rfl
      try simp only [Act.put,j1,j2,j3,j4,j5,j6]
      refine tL ?_ 8 rfl hS0 ?_ ?_; rotate_left
      · intro w' hSw; obtain ⟨s0, s1, s2, s3, s4, s5⟩ := hSw; go_simp; try rfl
      try simp only [Act.put,j1,j2,j3,j4,j5,j6]
      refine wpAnyG_one (i := 4) (by kernel_rfl) rfl hS0 (fun K' hK => ?_)
      simp only [j1,j2,j3]
      go_simp
      go_at_call 105
      refine (HOW.out wr.drew ((Below.refl _ _).drew)).mono ?_
      clear HOW
      rintro e w7 ⟨a8, c8, rfl, hf8, hb8⟩
      have HF8 := Lib.hid hf8
      have HB8 : Hid (Below wr.heap.size wr w7) := Lib.hid (((Below.refl _ _).drew).trans hb8)
      have hz8 := HB8.out.size
      have hS1 : w7.cell? ⟨X, 0, none⟩ = some (.int .i64 R.1.state) ∧ w7.cell? ⟨X, 1, none⟩ = some (.slice a5 R.1.args.length c5) ∧ w7.cell? ⟨X, 2, none⟩ = some (.bool R.1.priv) ∧ w7.cell? ⟨X, 3, none⟩ = some (.string R.1.text) ∧ w7.cell? ⟨X, 4, none⟩ = some (.string R.1.utf) ∧ w7.cell? ⟨X, 5, none⟩ = some (.slice al5 L5.length cl5) := ⟨(HB8.out.cell (p := ⟨X, 0, none⟩) vlt).trans v0, (HB8.out.cell (p := ⟨X, 1, none⟩) vlt).trans v1, (HB8.out.cell (p := ⟨X, 2, none⟩) vlt).trans v2, (HB8.out.cell (p := ⟨X, 3, none⟩) vlt).trans v3, (HB8.out.cell (p := ⟨X, 4, none⟩) vlt).trans v4, (HB8.out.cell (p := ⟨X, 5, none⟩) vlt).trans v5⟩
      have y0 := kC HB8.out ul u0
      have y1 := kC HB8.out ul u1
      have y2 := kC HB8.out ul u2
      have y3 := kC HB8.out ul u3
      have y4 := kC HB8.out ul u4
      have yf := fun o => kF HB8.out ul (uf o)
      have yl : w.heap.size + 1 < w7.heap.size := by omega
      clear hf8 hb8
      refine hK.out _ _ (Or.inr hS1) ?_
      clear hK K'
      try simp only [Act.put,j1,j2,j3,j4,j5,j6]
      have hXn : ¬ w.heap.size + 1 = X := by omega
      have hXm : ¬ X = w.heap.size + 1 := by omega
      obtain ⟨h_0, h_1, h_2, h_3, h_4, h_5⟩ := id hS1
      refine wpAnyG_one (i := 9) (by kernel_rfl) rfl hS1 (fun K' hK => ?_)
      simp only [j1,j2,j3]
      go_simp
      refine hK.out _ _ (Or.inr (by refine ⟨?_, ?_, ?_, ?_, ?_, ?_⟩ <;> simp [go_sem, h_0, h_1, h_2, h_3, h_4, h_5, hXn, hXm])) ?_
      clear hK K'
      try simp only [Act.put,j1,j2,j3,j4,j5,j6]
      refine tW ?_ 10 rfl ?_ ?_; rotate_left
      · intro w' hSw; go_simp; try rfl
      try simp only [Act.put,j1,j2,j3,j4,j5,j6]
      refine wpAnyG_done (by kernel_rfl) ?_ _
      go_wp2_with fail
      refine bodyPost_ret (v := .tuple #[.agg #[.int .i64 R.1.state, .slice a8 R.1.args.length c8, .bool R.1.priv, .string R.1.text, .string R.1.utf], .slice al5 L5.length cl5]) (by simp [results, Tryz.results68, go_sem, y0, y1, y2, y3, y4, yl]) rfl ?_
      have hc : ∀ y0 y1 y2 y3 y4, Ch (fun k => k = w.heap.size + 1) w7 (((((w7.setCell ⟨w.heap.size + 1, 0, none⟩ y0).setCell ⟨w.heap.size + 1, 1, none⟩ y1).setCell ⟨w.heap.size + 1, 2, none⟩ y2).setCell ⟨w.heap.size + 1, 3, none⟩ y3).setCell ⟨w.heap.size + 1, 4, none⟩ y4) := fun y0 y1 y2 y3 y4 => ((((Ch.set1 _ _ _ _).setB _ _).setB _ _).setB _ _).setB _ _
      have hcx := hc (.int .i64 R.1.state) (.slice a8 R.1.args.length c8) (.bool R.1.priv) (.string R.1.text) (.string R.1.utf)
      have hp := HPP.out.1.ps
      have hro := hp.ro.keep actL HB8.out
      have hbl := hp.ro.bd actL
      have hf := HF8.out
      have hfb := FreshIn.blks hf
      simp only [World.size_drew] at hf hfb
      refine ⟨a8, c8, al5, cl5, L5, rfl, ?_, ?_, ?_, HPP.out.2.1, ?_⟩
      · exact (hf.ch hcx (fun k hk h => by have := (hfb k hk).1; omega)).mono (by omega) (Nat.le_refl _)
      · exact (hro.ch actL hcx (fun k hk h => by have := (hbl k hk).1; omega)).low actL (by omega)
      · intro k hk h
        have h1 := (hfb k hk).1
        have h2 := (hbl k h).2
        omega
      · exact ((HBWX.out.trans (HPP.out.2.2.mono (by omega))).trans (HB8.out.mono (by omega))).trans (hcx.below (by omega) (fun k h => by omega))
end
section
open Go.RowKit
theorem PvOK.len {p : PV} (h : PvOK p) : p.args.length ≤ 8 := by
  by_cases h2 : p.state = 2
  · have := h.csi h2
    simp only [argsB, Bool.and_eq_true, decide_eq_true_eq] at this
    omega
  · rw [(h.nocsi h2).1]; simp
end
section
open Go.RowKit
theorem convS {a : Option Addr} {ca : Nat} {xs : List UInt8} {w : World} (ha : Sl byteE 1 w a xs) : (convert 22 9 (.slice a xs.length ca)).run Tryz.prog w = .ok (.string ⟨xs.toArray⟩) w := by
  rcases ha with rfl | ⟨b, off, rfl, hlt, hc⟩
  · cases a with
    | none =>
      show (convert 22 9 (.slice none 0 ca)).run Tryz.prog w = _
      rw [run_convert_bytes_string w 22 9 5 none 0 ca Tryz.underlying22 Tryz.underlying5 Tryz.underlying9]
      rfl
    | some a => exact run_convert_bytes_back w _ _ 5 a ca [] Tryz.underlying22 Tryz.underlying5 Tryz.underlying9 (fun j hj => by simp at hj)
  · refine run_convert_bytes_back w _ _ 5 ⟨b, off, none⟩ ca xs Tryz.underlying22 Tryz.underlying5 Tryz.underlying9 (fun j hj => ?_)
    have := hc j hj 0 (by omega)
    simpa [byteE, Addr.add_lit] using this
end
section
open Go.RowKit
def ActS (w : World) (a : Option Addr) (rs : List ActA) : Prop := Sl actE 5 w a rs ∧ ∀ r ∈ rs, Sl intE 1 w r.aa r.A.args
theorem ActS.keep {w w' : World} {a : Option Addr} {rs : List ActA} (h : ActS w a rs) (hb : Below w.heap.size w w') : ActS w' a rs := ⟨h.1.keep hb, fun r hr => (h.2 r hr).keep hb⟩
end
section
open Go.RowKit
theorem bytes_eq {s : ByteArray} {l : List UInt8} (h : s.data.toList = l) : s = ⟨l.toArray⟩ := by
  subst h
  cases s
  simp
end
section
open Go.RowKit
def SrcAt (b : Nat) (a : Option Addr) (c : Nat) (xs : List UInt8) (K : Nat) (w : World) : Prop :=
  ∃ (p seed : Nat), xs.length ≤ 1048576 ∧ p ≤ K ∧ seed < 2147483648 ∧ w.cell? ⟨b, 0, none⟩ = some (.slice a xs.length c) ∧ w.cell? ⟨b, 1, none⟩ = some (.int .i64 p) ∧ w.cell? ⟨b, 2, none⟩ = some (.int .i64 seed) ∧ (∀ o, w.frozen? ⟨b, o, none⟩ = false) ∧ Sl byteE 1 w a xs ∧ (∀ b' o, a = some ⟨b', o, none⟩ → xs = [] ∨ b' ≠ b) ∧ b < w.heap.size
def ByteR (b : Nat) (a : Option Addr) (c : Nat) (xs : List UInt8) (K m : Nat) (w : World) (e : Ending) (w' : World) : Prop :=
  ∃ n : Nat, n < m ∧ e = .returned (.int .i64 n) ∧ SrcAt b a c xs K w' ∧ Mid b (b + 1) w w'
theorem Sl.setCellE {α : Type} {enc : α → List Value} {sz : Nat} {w : World} {a : Option Addr} {xs : List α} {p : Addr} (h : Sl enc sz w a xs) (hp : ∀ b off, a = some ⟨b, off, none⟩ → xs = [] ∨ b ≠ p.block) (u : Value) : Sl enc sz (w.setCell p u) a xs := by
  by_cases hx : xs = []
  · exact .inl hx
  · exact h.setCell (fun b off e => (hp b off e).resolve_left hx) u
theorem SrcAt.below {b K c : Nat} {a : Option Addr} {xs : List UInt8} {w w' : World} (h : SrcAt b a c xs K w) (hb : Below w.heap.size w w') : SrcAt b a c xs K w' := by
  obtain ⟨p, seed, h1, h2, h3, c0, c1, c2, hf, hs, hne, hb0⟩ := h
  have hz := hb.size
  exact ⟨p, seed, h1, h2, h3, (hb.cell (p := ⟨b, 0, none⟩) hb0).trans c0, (hb.cell (p := ⟨b, 1, none⟩) hb0).trans c1, (hb.cell (p := ⟨b, 2, none⟩) hb0).trans c2, fun o => (hb.frozen (p := ⟨b, o, none⟩) hb0).trans (hf o), hs.keep hb, hne, by omega⟩
theorem SrcAt.mono {b K K' c : Nat} {a : Option Addr} {xs : List UInt8} {w : World} (h : SrcAt b a c xs K w) (hK : K ≤ K') : SrcAt b a c xs K' w := by
  obtain ⟨p, seed, h1, h2, h3, c0, c1, c2, hf, hs, hne, hb0⟩ := h
  exact ⟨p, seed, h1, by omega, h3, c0, c1, c2, hf, hs, hne, hb0⟩
theorem Mid.store {b o : Nat} {u : Value} {w : World} : Mid b (b + 1) w (w.setCell ⟨b, o, none⟩ u) := (Mid.refl b (b + 1) w).setCell (Nat.le_refl _) (by show b < b + 1; omega) u
theorem Mid.drewN {lo hi : Nat} {a w : World} (h : Mid lo hi a w) (n : Nat) : Mid lo hi a (w.drewN n) := h.trans ⟨rfl, rfl, rfl, Nat.le_refl _, fun _ _ _ => rfl⟩
theorem Mid.drew {lo hi : Nat} {a w : World} (h : Mid lo hi a w) : Mid lo hi a w.drew := h.trans ⟨rfl, rfl, rfl, Nat.le_refl _, fun _ _ _ => rfl⟩
theorem SrcAt.lt {b K c : Nat} {a : Option Addr} {xs : List UInt8} {w : World} (h : SrcAt b a c xs K w) : b < w.heap.size := by
  obtain ⟨p, seed, h1, h2, h3, c0, c1, c2, hf, hs, hne, hb0⟩ := h
  exact hb0
theorem SrcAt.far {b K c : Nat} {a : Option Addr} {xs : List UInt8} {w : World} (h : SrcAt b a c xs K w) : ∀ b' o, a = some ⟨b', o, none⟩ → xs = [] ∨ b' < w.heap.size := by
  obtain ⟨p, seed, h1, h2, h3, c0, c1, c2, hf, hs, hne, hb0⟩ := h
  intro b' o he
  rcases hs with hs | ⟨b2, o2, he2, hlt, _⟩
  · exact .inl hs
  · rw [he] at he2
    cases he2
    exact .inr hlt
theorem SrcAt.setCell {b K c : Nat} {a : Option Addr} {xs : List UInt8} {w : World} (h : SrcAt b a c xs K w) {p : Addr} (hp : ¬ p.block = b) (ha : ∀ b' o, a = some ⟨b', o, none⟩ → xs = [] ∨ b' ≠ p.block) (u : Value) : SrcAt b a c xs K (w.setCell p u) := by
  obtain ⟨q, seed, h1, h2, h3, c0, c1, c2, hf, hs, hne, hb0⟩ := h
  have hc : ∀ j, (w.setCell p u).cell? ⟨b, j, none⟩ = w.cell? ⟨b, j, none⟩ := fun j => World.cell?_setCell_other _ _ _ _ (fun e => hp (by first | exact congrArg Addr.block e | exact (congrArg Addr.block e).symm))
  have hfz : ∀ o, (w.setCell p u).frozen? ⟨b, o, none⟩ = w.frozen? ⟨b, o, none⟩ := fun o => by simp [go_sem]
  refine ⟨q, seed, h1, h2, h3, (hc 0).trans c0, (hc 1).trans c1, (hc 2).trans c2, fun o => (hfz o).trans (hf o), ?_, hne, by simpa using hb0⟩
  rcases hs with hs | ⟨b2, o2, he2, hlt, hcc⟩
  · exact .inl hs
  · rcases ha b2 o2 he2 with h | h
    · exact .inl h
    · exact (Sl.setCell (.inr ⟨b2, o2, he2, hlt, hcc⟩) (fun b' o e => by rw [he2] at e; cases e; exact h) u)
theorem Sl.boxM {α : Type} {enc : α → List Value} {sz : Nat} {w : World} (hs : ∀ x, (enc x).length = sz) (xs : List α) (cs : Array Value) (T : TypeId) (hc : cs.toList = xs.flatMap enc) (b : Nat) (hb : b = w.heap.size) : Sl enc sz (w.alloc (.cells cs T)) (some ⟨b, 0, none⟩) xs := by
  subst hb
  refine .inr ⟨w.heap.size, 0, rfl, by simp, fun i hi j hj => ?_⟩
  rw [World.cell?_alloc_new, ← Array.getElem?_toList, hc, Nat.zero_add]
  exact flat_get enc sz hs xs i hi j hj
theorem srcByte_c (b : Nat) (a : Option Addr) (c : Nat) (xs : List UInt8) (K : Nat) (w : World) (h : SrcAt b a c xs K w) (hK : K ≤ 1099511627776) :
    Calls Tryz.prog 92 #[.pointer (some ⟨b, 0, none⟩)] w (ByteR b a c xs (K + 1) 256 w) := by
  obtain ⟨p, seed, h1, h2, h3, c0, c1, c2, hf, hs, hne, hb0⟩ := h
  by_cases hp : p + 1 ≤ xs.length
  · obtain ⟨bF, oF, rfl, hbF, hcF⟩ := hs.at (i := p) (by omega)
    have hneb := (hne bF oF rfl).resolve_left (fun h => by rw [h] at hp; simp at hp)
    have hneb' : ¬ b = bF := fun h => hneb h.symm
    have d := hcF p (by omega) 0 (by omega)
    simp only [byteE, Nat.mul_one, Nat.add_zero, List.getElem?_cons_zero] at d
    have hn := xs[p].toNat_lt
    generalize xs[p].toNat = n at *
    have g1 : decide ((p : Int) + 1 ≤ (xs.length : Int)) = true := by simp; omega
    have g2 : (p : Int) + 1 ≤ (xs.length : Int) := by omega
    have e1 : wrap64 ((p : Int) + 1) = (p : Int) + 1 := IntWalk.wrap64_in _ ⟨by omega, by omega⟩
    have e2 : IntKind.i64.wrap ((p : Int) + 1 - 1) = (p : Int) := by rw [IntWalk.i64_in _ ⟨by omega, by omega⟩]; omega
    have e3 : IntKind.i64.wrap ((seed : Int) * 31) = (seed : Int) * 31 := IntWalk.i64_in _ ⟨by omega, by omega⟩
    have e4 : IntKind.i64.wrap ((seed : Int) * 31 + (n : Int)) = (seed : Int) * 31 + (n : Int) := IntWalk.i64_in _ ⟨by omega, by omega⟩
    have e5 : IntKind.i64.wrap ((seed : Int) * 31 + (n : Int) + 7) = (seed : Int) * 31 + (n : Int) + 7 := IntWalk.i64_in _ ⟨by omega, by omega⟩
    have HS := Lib.hid hs
    have HNE := Lib.hid hne
    clear hs hne hcF
    go_enter Tryz.func92, Tryz.ntmps92
    go_wp2_with fail
    go_quiet (fail)
    go_wp2_with fail
    go_region
    go_wp2_with fail
    go_quiet (fail)
    go_wp2_with fail
    go_ret
    refine ⟨n, hn, rfl, ⟨p + 1, (seed * 31 + n + 7) % 2147483648, h1, by omega, by omega, ?_, ?_, ?_, ?_, ?_, HNE.out, ?_⟩, ?_⟩
    · simp [go_sem, c0]
    · simp [go_sem, c1]
    · simp [go_sem, c2]
    · intro o
      simp [go_sem, hf]
    · repeat (first | (with_reducible exact HS.out) | (with_reducible refine Sl.setCellE ?_ HNE.out _) | (with_reducible refine Sl.drewN ?_ _) | (with_reducible refine Sl.drew ?_))
    · simpa using hb0
    · repeat (first | (with_reducible exact Mid.refl _ _ _) | (with_reducible refine Mid.setCell ?_ ?_ ?_ _; rotate_left; (show b ≤ b; omega); (show b < b + 1; omega)) | (with_reducible refine Mid.drewN ?_ _) | (with_reducible refine Mid.drew ?_))
  · have HS := Lib.hid hs
    have HNE := Lib.hid hne
    clear hs hne
    have g1 : decide ((p : Int) + 1 ≤ (xs.length : Int)) = false := by simp; omega
    have g2 : ¬ (p : Int) + 1 ≤ (xs.length : Int) := by omega
    have e1 : wrap64 ((p : Int) + 1) = (p : Int) + 1 := IntWalk.wrap64_in _ ⟨by omega, by omega⟩
    by_cases hb3 : 3000 < p + 1
    · have g3 : (3000 : Int) < (p : Int) + 1 := by omega
      go_enter Tryz.func92, Tryz.ntmps92
      go_wp2_with fail
      go_quiet (fail)
      go_wp2_with fail
      go_ret
      refine ⟨0, by omega, rfl, ⟨p + 1, seed, h1, by omega, by omega, ?_, ?_, ?_, ?_, ?_, HNE.out, ?_⟩, ?_⟩
      · simp [go_sem, c0]
      · simp [go_sem, c1]
      · simp [go_sem, c2]
      · intro o
        simp [go_sem, hf]
      · repeat (first | (with_reducible exact HS.out) | (with_reducible refine Sl.setCellE ?_ HNE.out _) | (with_reducible refine Sl.drewN ?_ _) | (with_reducible refine Sl.drew ?_))
      · simpa using hb0
      · repeat (first | (with_reducible exact Mid.refl _ _ _) | (with_reducible refine Mid.setCell ?_ ?_ ?_ _; rotate_left; (show b ≤ b; omega); (show b < b + 1; omega)) | (with_reducible refine Mid.drewN ?_ _) | (with_reducible refine Mid.drew ?_))
    · have g3 : ¬ (3000 : Int) < (p : Int) + 1 := by omega
      go_enter Tryz.func92, Tryz.ntmps92
      go_wp2_with fail
      go_quiet (fail)
      go_wp2_with fail
      go_ret
      refine ⟨(seed * 1103515245 + 12345) % 2147483648 / 65536 % 256, by omega, congrArg (fun z => Ending.returned (.int .i64 z)) (by simp), ⟨p + 1, (seed * 1103515245 + 12345) % 2147483648, h1, by omega, by omega, ?_, ?_, ?_, ?_, ?_, HNE.out, ?_⟩, ?_⟩
      · simp [go_sem, c0]
      · simp [go_sem, c1]
      · simp [go_sem, c2]
      · intro o
        simp [go_sem, hf]
      · repeat (first | (with_reducible exact HS.out) | (with_reducible refine Sl.setCellE ?_ HNE.out _) | (with_reducible refine Sl.drewN ?_ _) | (with_reducible refine Sl.drew ?_))
      · simpa using hb0
      · repeat (first | (with_reducible exact Mid.refl _ _ _) | (with_reducible refine Mid.setCell ?_ ?_ ?_ _; rotate_left; (show b ≤ b; omega); (show b < b + 1; omega)) | (with_reducible refine Mid.drewN ?_ _) | (with_reducible refine Mid.drew ?_))
theorem srcNext_c (b : Nat) (a : Option Addr) (c : Nat) (xs : List UInt8) (K n : Nat) (w : World) (h : SrcAt b a c xs K w) (hK : K ≤ 1099511627776) (hn : 1 ≤ n) (hn2 : n ≤ 256) :
    Calls Tryz.prog 50 #[.pointer (some ⟨b, 0, none⟩), .int .i64 n] w (ByteR b a c xs (K + 1) n w) := by
  have HB := Lib.hid (srcByte_c b a c xs K w h hK)
  have HS := Lib.hid h
  clear h
  by_cases h1 : n = 1
  · subst h1
    go_enter Tryz.func50, Tryz.ntmps50
    go_wp2_with fail
    go_ret
    exact ⟨0, by omega, rfl, HS.out.mono (by omega), Mid.refl _ _ _⟩
  · have g1 : (1 : Int) < (n : Int) := by omega
    have g2 : (n : Int) ≤ 256 := by omega
    have g3 : ¬ n = 0 := by omega
    go_enter Tryz.func50, Tryz.ntmps50
    go_wp2_with fail
    refine HB.out.mono ?_
    rintro e w1 ⟨m, hm, rfl, hs1, hm1⟩
    have HS1 := Lib.hid hs1
    have HM1 := Lib.hid hm1
    clear hs1 hm1
    go_wp2_with fail
    go_ret
    refine ⟨m % n, Nat.mod_lt _ (by omega), congrArg (fun z => Ending.returned (.int .i64 z)) (by simp), HS1.out, HM1.out⟩
def PickR (b : Nat) (a : Option Addr) (c : Nat) (xs : List UInt8) (K : Nat) (L : List ByteArray) (w : World) (e : Ending) (w' : World) : Prop :=
  ∃ s, s ∈ L ∧ e = .returned (.string s) ∧ SrcAt b a c xs K w' ∧ Mid b (b + 1) w w'
theorem srcPick_c (b : Nat) (a : Option Addr) (c : Nat) (xs : List UInt8) (K : Nat) (a1 : Option Addr) (c1 : Nat) (L : List ByteArray) (w : World) (h : SrcAt b a c xs K w) (hK : K ≤ 1099511627776) (ha : Sl strE 1 w a1 L) (hne : ∀ b' o, a1 = some ⟨b', o, none⟩ → b' ≠ b) (hl : 1 ≤ L.length) (hl2 : L.length ≤ 256) :
    Calls Tryz.prog 83 #[.pointer (some ⟨b, 0, none⟩), .slice a1 L.length c1] w (PickR b a c xs (K + 1) L w) := by
  have HB := Lib.hid (srcNext_c b a c xs K L.length w h hK hl hl2)
  obtain ⟨bF, oF, rfl, hbF, hcF⟩ := ha.at (i := 0) (by omega)
  have hneb := hne bF oF rfl
  have hside : bF < b ∨ b + 1 ≤ bF := by omega
  have HC := Lib.hid hcF
  have g1 : ¬ L.length = 0 := by omega
  have g2 : decide ((L.length : Int) = 0) = false := decide_eq_false (by omega)
  clear h hcF hne ha
  go_enter Tryz.func83, Tryz.ntmps83
  go_wp2_with fail
  refine HB.out.mono ?_
  rintro e w1 ⟨m, hm, rfl, hs1, hm1⟩
  have d := HC.out m hm 0 (by omega)
  simp only [strE, Nat.mul_one, Nat.add_zero, List.getElem?_cons_zero] at d
  have d1 : w1.cell? ⟨bF, oF + m, none⟩ = some (.string L[m]) := by
    rw [hm1.cell (p := ⟨bF, oF + m, none⟩) hbF hside]
    exact d
  have hmem : L[m] ∈ L := List.getElem_mem hm
  have HS1 := Lib.hid hs1
  have HM1 := Lib.hid hm1
  have hm' : (m : Int) < (L.length : Int) := by omega
  have hm0 : (0 : Int) ≤ (m : Int) := by omega
  clear hs1 hm1 d
  generalize L[m] = s at *
  go_wp2_with fail
  go_ret
  exact ⟨s, hmem, rfl, HS1.out, HM1.out⟩
end
section
open Go.RowKit
theorem convB (l : List UInt8) (v : Array Value) (hv : v.toList = l.flatMap byteE) (w : World) (n : Nat) (hn : n = l.length) : (convert 22 9 (.slice (some ⟨w.heap.size, 0, none⟩) n n)).run Tryz.prog (w.alloc (.cells v 5)) = .ok (.string ⟨l.toArray⟩) (w.alloc (.cells v 5)) := by
  subst hn
  exact convS (Sl.boxM (enc := byteE) (sz := 1) (fun _ => rfl) l v 5 hv w.heap.size rfl)
theorem utf1_c (m : Nat) (w : World) (h : m < 128) :
    Calls Tryz.prog 153 #[.int .i64 m] w fun e w' => e = .returned (.string ⟨#[u8 (m)]⟩) ∧ Below w.heap.size w w' := by
  have hb0 : ((m : Int)) % 256 = ((u8 (m)).toNat : Int) := by have := u8N (n := m) (by omega); omega
  obtain ⟨x0, hx0⟩ : ∃ x : UInt8, u8 (m) = x := ⟨_, rfl⟩
  rw [hx0] at hb0 ⊢
  clear hx0
  have HB := Lib.hid (And.intro hb0 trivial)
  clear hb0
  have g1 : (m : Int) < 128 := by omega
  go_enter Tryz.func153, Tryz.ntmps153
  go_wp2_with fail
  rw [convB [x0] _ (by have := HB.out; simp [byteE]; omega) w 1 rfl]
  go_wp2_with fail
  go_ret
  exact ⟨rfl, (Below.refl _ _).alloc (Nat.le_refl _) _⟩
theorem utf2_c (m : Nat) (w : World) (h1 : ¬ m < 128) (h : m < 2048) :
    Calls Tryz.prog 153 #[.int .i64 m] w fun e w' => e = .returned (.string ⟨#[u8 (192 + m / 64), u8 (128 + m % 64)]⟩) ∧ Below w.heap.size w w' := by
  have hb0 : (192 + (m : Int) / 64) % 256 = ((u8 (192 + m / 64)).toNat : Int) := by have := u8N (n := 192 + m / 64) (by omega); omega
  obtain ⟨x0, hx0⟩ : ∃ x : UInt8, u8 (192 + m / 64) = x := ⟨_, rfl⟩
  rw [hx0] at hb0 ⊢
  clear hx0
  have hb1 : (128 + (m : Int) % 64) % 256 = ((u8 (128 + m % 64)).toNat : Int) := by have := u8N (n := 128 + m % 64) (by omega); omega
  obtain ⟨x1, hx1⟩ : ∃ x : UInt8, u8 (128 + m % 64) = x := ⟨_, rfl⟩
  rw [hx1] at hb1 ⊢
  clear hx1
  have HB := Lib.hid (And.intro hb0 hb1)
  clear hb0 hb1
  have g1 : ¬ (m : Int) < 128 := by omega
  have g2 : (m : Int) < 2048 := by omega
  go_enter Tryz.func153, Tryz.ntmps153
  go_wp2_with fail
  rw [convB [x0, x1] _ (by have := HB.out; simp [byteE]; omega) w 2 rfl]
  go_wp2_with fail
  go_ret
  exact ⟨rfl, (Below.refl _ _).alloc (Nat.le_refl _) _⟩
theorem utf3_c (m : Nat) (w : World) (h1 : ¬ m < 128) (h2 : ¬ m < 2048) (h : m < 65536) :
    Calls Tryz.prog 153 #[.int .i64 m] w fun e w' => e = .returned (.string ⟨#[u8 (224 + m / 4096), u8 (128 + m / 64 % 64), u8 (128 + m % 64)]⟩) ∧ Below w.heap.size w w' := by
  have hb0 : (224 + (m : Int) / 4096) % 256 = ((u8 (224 + m / 4096)).toNat : Int) := by have := u8N (n := 224 + m / 4096) (by omega); omega
  obtain ⟨x0, hx0⟩ : ∃ x : UInt8, u8 (224 + m / 4096) = x := ⟨_, rfl⟩
  rw [hx0] at hb0 ⊢
  clear hx0
  have hb1 : (128 + (m : Int) / 64 % 64) % 256 = ((u8 (128 + m / 64 % 64)).toNat : Int) := by have := u8N (n := 128 + m / 64 % 64) (by omega); omega
  obtain ⟨x1, hx1⟩ : ∃ x : UInt8, u8 (128 + m / 64 % 64) = x := ⟨_, rfl⟩
  rw [hx1] at hb1 ⊢
  clear hx1
  have hb2 : (128 + (m : Int) % 64) % 256 = ((u8 (128 + m % 64)).toNat : Int) := by have := u8N (n := 128 + m % 64) (by omega); omega
  obtain ⟨x2, hx2⟩ : ∃ x : UInt8, u8 (128 + m % 64) = x := ⟨_, rfl⟩
  rw [hx2] at hb2 ⊢
  clear hx2
  have HB := Lib.hid (And.intro hb0 (And.intro hb1 hb2))
  clear hb0 hb1 hb2
  have g1 : ¬ (m : Int) < 128 := by omega
  have g2 : ¬ (m : Int) < 2048 := by omega
  have g3 : (m : Int) < 65536 := by omega
  go_enter Tryz.func153, Tryz.ntmps153
  go_wp2_with fail
  rw [convB [x0, x1, x2] _ (by have := HB.out; simp [byteE]; omega) w 3 rfl]
  go_wp2_with fail
  go_ret
  exact ⟨rfl, (Below.refl _ _).alloc (Nat.le_refl _) _⟩
theorem utf4_c (m : Nat) (w : World) (h1 : ¬ m < 128) (h2 : ¬ m < 2048) (h3 : ¬ m < 65536) (h : m ≤ 1114111) :
    Calls Tryz.prog 153 #[.int .i64 m] w fun e w' => e = .returned (.string ⟨#[u8 (240 + m / 262144), u8 (128 + m / 4096 % 64), u8 (128 + m / 64 % 64), u8 (128 + m % 64)]⟩) ∧ Below w.heap.size w w' := by
  have hb0 : (240 + (m : Int) / 262144) % 256 = ((u8 (240 + m / 262144)).toNat : Int) := by have := u8N (n := 240 + m / 262144) (by omega); omega
  obtain ⟨x0, hx0⟩ : ∃ x : UInt8, u8 (240 + m / 262144) = x := ⟨_, rfl⟩
  rw [hx0] at hb0 ⊢
  clear hx0
  have hb1 : (128 + (m : Int) / 4096 % 64) % 256 = ((u8 (128 + m / 4096 % 64)).toNat : Int) := by have := u8N (n := 128 + m / 4096 % 64) (by omega); omega
  obtain ⟨x1, hx1⟩ : ∃ x : UInt8, u8 (128 + m / 4096 % 64) = x := ⟨_, rfl⟩
  rw [hx1] at hb1 ⊢
  clear hx1
  have hb2 : (128 + (m : Int) / 64 % 64) % 256 = ((u8 (128 + m / 64 % 64)).toNat : Int) := by have := u8N (n := 128 + m / 64 % 64) (by omega); omega
  obtain ⟨x2, hx2⟩ : ∃ x : UInt8, u8 (128 + m / 64 % 64) = x := ⟨_, rfl⟩
  rw [hx2] at hb2 ⊢
  clear hx2
  have hb3 : (128 + (m : Int) % 64) % 256 = ((u8 (128 + m % 64)).toNat : Int) := by have := u8N (n := 128 + m % 64) (by omega); omega
  obtain ⟨x3, hx3⟩ : ∃ x : UInt8, u8 (128 + m % 64) = x := ⟨_, rfl⟩
  rw [hx3] at hb3 ⊢
  clear hx3
  have HB := Lib.hid (And.intro hb0 (And.intro hb1 (And.intro hb2 hb3)))
  clear hb0 hb1 hb2 hb3
  have g1 : ¬ (m : Int) < 128 := by omega
  have g2 : ¬ (m : Int) < 2048 := by omega
  have g3 : ¬ (m : Int) < 65536 := by omega
  go_enter Tryz.func153, Tryz.ntmps153
  go_wp2_with fail
  rw [convB [x0, x1, x2, x3] _ (by have := HB.out; simp [byteE]; omega) w 4 rfl]
  go_wp2_with fail
  go_ret
  exact ⟨rfl, (Below.refl _ _).alloc (Nat.le_refl _) _⟩
theorem l03Utf_c (n : Int) (w : World) (h : rnOK n) :
    Calls Tryz.prog 153 #[.int .i64 n] w fun e w' => e = .returned (.string ⟨(utfB n.toNat).toArray⟩) ∧ Below w.heap.size w w' := by
  obtain ⟨m, rfl⟩ : ∃ m : Nat, n = m := ⟨n.toNat, by have := h.1; omega⟩
  have hm := h.2.1
  show Calls Tryz.prog 153 #[.int .i64 m] w fun e w' => e = .returned (.string ⟨(utfB m).toArray⟩) ∧ Below w.heap.size w w'
  unfold utfB
  by_cases a1 : m < 128
  · rw [if_pos a1]; exact utf1_c m w a1
  rw [if_neg a1]
  by_cases a2 : m < 2048
  · rw [if_pos a2]; exact utf2_c m w a1 a2
  rw [if_neg a2]
  by_cases a3 : m < 65536
  · rw [if_pos a3]; exact utf3_c m w a1 a2 a3
  rw [if_neg a3]
  exact utf4_c m w a1 a2 a3 (by omega)
end
section
open Go.RowKit
theorem trimC_snoc (l : List Cl) (c : Cl) : trimC (l ++ [c]) = if c.1 = 32 then trimC l else l ++ [c] := by
  unfold trimC
  rw [List.reverse_append, List.reverse_cons, List.reverse_nil, List.nil_append, List.singleton_append, List.dropWhile_cons]
  by_cases h : c.1 = 32
  · rw [if_pos h, if_pos (by simp [h])]
  · rw [if_neg h, if_neg (by simp [h])]
    simp
theorem trimC_pre (l : List Cl) : ∃ t, l = trimC l ++ t := by
  refine ⟨(l.reverse.takeWhile (fun c => c.1 == 32)).reverse, ?_⟩
  unfold trimC
  rw [← List.reverse_append, List.takeWhile_append_dropWhile, List.reverse_reverse]
def utfL (l : List Cl) : List UInt8 := l.flatMap fun c => utfB c.1.toNat
theorem utfL_snoc (l : List Cl) (c : Cl) : utfL (l ++ [c]) = utfL l ++ utfB c.1.toNat := by simp [utfL]
theorem rowL_utf (l : List Cl) : rowL l = utfL (trimC l) := rfl
theorem rowL_take (l : List Cl) : (utfL l).take (rowL l).length = rowL l := by
  obtain ⟨t, ht⟩ := trimC_pre l
  have h1 : utfL l = rowL l ++ utfL t := by
    conv => lhs; rw [ht]
    unfold utfL rowL
    rw [List.flatMap_append]
  rw [h1, List.take_left]
theorem utfL_len (l : List Cl) : (utfL l).length ≤ 4 * l.length := flatU_len l
theorem ext_take (l : List UInt8) (k : Nat) : (⟨l.toArray⟩ : ByteArray).extract 0 k = ⟨(l.take k).toArray⟩ := by
  apply bytes_eq
  simp [ByteArray.extract, ByteArray.copySlice]
theorem l04Row_c (s : Scr) (ac : Option Addr) (cc : Nat) (ah : Option Addr) (dh : Nat) (y : Nat) (w : World) (h : ScrS s ac ah w) (hw1 : 1 ≤ s.w) (hw2 : s.w ≤ 24) (hh2 : s.h ≤ 10) (hy : y < s.h) (hcn : s.cells.length = s.w * s.h) (hcs : ∀ c ∈ s.cells, rnOK c.1) :
    Calls Tryz.prog 142 #[scrV s ac cc ah dh, .int .i64 y] w fun e w' => e = .returned (.string (rowT s y)) ∧ Below w.heap.size w w' := by
  have h0 : 0 < s.cells.length := by rw [hcn]; exact Nat.mul_pos (by omega) (by omega)
  obtain ⟨b1, o1, rfl, hb1w, _⟩ := h.cs.at h0
  have HR := Lib.hid h
  obtain ⟨nh, hnh⟩ : ∃ n, s.hist.length = n := ⟨_, rfl⟩
  obtain ⟨wd, hwd⟩ : ∃ n, s.w = n := ⟨_, rfl⟩
  obtain ⟨n, hn⟩ : ∃ n, s.cells.length = n := ⟨_, rfl⟩
  obtain ⟨row, hrow⟩ : ∃ r, rowC s y = r := ⟨_, rfl⟩
  have hyw : (y + 1) * wd ≤ n := by rw [← hn, hcn, hwd, Nat.mul_comm]; exact Nat.mul_le_mul_left _ hy
  have hn240 : n ≤ 240 := by rw [← hn, hcn]; exact Nat.mul_le_mul hw2 hh2
  have hrl : row.length = wd := by
    rw [← hrow]
    simp only [rowC, List.length_take, List.length_drop, hn, hwd]
    rw [Nat.succ_mul] at hyw
    omega
  have hrc : ∀ i (hi : i < row.length) (hj : y * wd + i < s.cells.length), s.cells[y * wd + i] = row[i] := fun i hi hj => by
    subst hrow
    simp only [rowC, List.getElem_take, List.getElem_drop, hwd]
  have hrr : ∀ c ∈ row, rnOK c.1 := fun c hc => hcs c (by
    rw [← hrow] at hc
    exact List.mem_of_mem_drop (List.mem_of_mem_take hc))
  have HRL := Lib.hid hrl
  have HRC := Lib.hid hrc
  have HRR := Lib.hid hrr
  have HT : Hid (rowT s y = ⟨(rowL row).toArray⟩) := Lib.hid (by rw [← hrow]; rfl)
  have HN := Lib.hid hn
  unfold scrV
  rw [hwd] at hw2
  rw [hwd, hn, hnh, HT.out]
  rw [Nat.succ_mul] at hyw
  obtain ⟨p, hp⟩ : ∃ p, y * wd = p := ⟨_, rfl⟩
  have hpi : (y : Int) * (wd : Int) = (p : Int) := by rw [← hp]; exact (Int.natCast_mul y wd).symm
  rw [hp] at hyw
  have HP := Lib.hid hp
  clear h0 hw1 h hnh hrow hrl hrc hrr hp hcn hcs hwd hn hh2 hy
  go_enter Tryz.func142, Tryz.ntmps142
  go_wp2_with fail
  go_loopw [5, 6, 7] (fun so se sx wr => ∃ (x en : Nat) (o : ByteArray), x ≤ wd ∧ en ≤ o.size ∧ o.size ≤ 4 * x ∧ so = .string o ∧ se = .int .i64 en ∧ sx = .int .i64 x ∧ Hid (o.data.toList = utfL (row.take x) ∧ en = (rowL (row.take x)).length ∧ Below w.heap.size w wr ∧ wr.cell? ⟨w.heap.size, 0, none⟩ = some (.int .i64 wd) ∧ wr.cell? ⟨w.heap.size, 10, none⟩ = some (.slice (some ⟨b1, o1, none⟩) n cc) ∧ w.heap.size < wr.heap.size)) (fun _ _ sx _ => wd - (intOf sx).toNat)
  case atStart => exact ⟨0, 0, ⟨#[]⟩, Nat.zero_le _, Nat.zero_le _, by decide, rfl, rfl, rfl, Lib.hid ⟨rfl, rfl, (Below.refl _ _).alloc (Nat.le_refl _) _, by simp [go_sem], by simp [go_sem], by simp⟩⟩
  case round =>
    obtain ⟨x, en, o, hx, hen, hos, rfl, rfl, rfl, HQ⟩ := hrel
    have k_0 := HQ.out.2.2.2.1
    have k_10 := HQ.out.2.2.2.2.1
    have kl := HQ.out.2.2.2.2.2
    by_cases hlt : x < wd
    · have hlt' : (x : Int) < (wd : Int) := by omega
      have hxr : x < row.length := by rw [HRL.out]; exact hlt
      obtain ⟨c, hc⟩ : ∃ c, row[x] = c := ⟨_, rfl⟩
      have hxn : p + x < s.cells.length := by rw [HN.out]; omega
      have HC : Hid (s.cells[p + x] = c) := Lib.hid (by rw [← hc, ← HRC.out x hxr (by rw [HP.out]; exact hxn)]; simp only [HP.out])
      have HCM := Lib.hid (HRR.out c (by rw [← hc]; exact List.getElem_mem hxr))
      have HTK : Hid (row.take (x + 1) = row.take x ++ [c]) := Lib.hid (by rw [← hc]; exact List.take_succ_eq_append_getElem hxr)
      obtain ⟨b', o', hae, hb1, hc1⟩ := ((HR.out.below HQ.out.2.2.1).cs).at hxn
      cases hae
      have c1 := hc1 (p + x) hxn 0 (by omega)
      rw [HC.out] at c1
      simp only [celE, Nat.add_zero, List.getElem?_cons_zero] at c1
      clear hc1 hc hxr
      have hpx : (p : Int) + (x : Int) = ((p + x : Nat) : Int) := by omega
      have hpn : p + x < n := by omega
      obtain ⟨i, hi⟩ : ∃ i, p + x = i := ⟨_, rfl⟩
      rw [hi] at hpx c1 hpn
      have hin : (i : Int) < (n : Int) := by omega
      obtain ⟨U, hU⟩ : ∃ U : ByteArray, (⟨(utfB c.1.toNat).toArray⟩ : ByteArray) = U := ⟨_, rfl⟩
      have HU := Lib.hid hU
      have hUs : U.size ≤ 4 := by rw [← hU]; exact utfB_len _
      have HCALL : ∀ W, Calls Tryz.prog 153 #[.int .i64 c.1] W fun e w' => e = .returned (.string U) ∧ Below W.heap.size W w' := fun W => by rw [← hU]; exact l03Utf_c c.1 W HCM.out
      clear hU
      have hbig : ¬ 9223372036854775807 < o.size + U.size := by omega
      go_wp2_with fail
      refine (HCALL wr).mono ?_
      rintro e w2 ⟨rfl, hb2⟩
      have hz := HQ.out.2.2.1.size
      have HB2 : Hid (Below w.heap.size w w2 ∧ w.heap.size < w2.heap.size) := Lib.hid ⟨HQ.out.2.2.1.trans (hb2.mono hz), Nat.lt_of_lt_of_le kl hb2.size⟩
      have HSZ : Hid ((o ++ U).size = o.size + U.size) := Lib.hid ByteArray.size_append
      have HOD : Hid ((o ++ U).data.toList = utfL (row.take (x + 1))) := Lib.hid (by rw [HTK.out, utfL_snoc, ← HQ.out.1, ← HU.out]; simp [ByteArray.data_append])
      have d_0 := kC hb2 kl k_0
      have d_10 := kC hb2 kl k_10
      have d_c := kC hb2 hb1 c1
      clear hb2
      by_cases h32 : c.1 = 32
      · have h32' : (c.1 != 32) = false := by simp [h32]
        have HEN : Hid (en = (rowL (row.take (x + 1))).length) := Lib.hid (by rw [HTK.out, rowL_utf, trimC_snoc, if_pos h32]; exact HQ.out.2.1)
        go_wp2_with fail
        go_roundw
        case rel => exact ⟨x + 1, en, o ++ U, by omega, by rw [HSZ.out]; omega, by rw [HSZ.out]; omega, rfl, rfl, by go_num, Lib.hid ⟨HOD.out, HEN.out, HB2.out.1, d_0, d_10, HB2.out.2⟩⟩
        case measure => simp [intOf]; omega
      · have h32' : (c.1 != 32) = true := by simp [h32]
        have HEN : Hid (o.size + U.size = (rowL (row.take (x + 1))).length) := Lib.hid (by
          rw [HTK.out, rowL_utf, trimC_snoc, if_neg h32, ← HTK.out, ← HOD.out, ← HSZ.out]
          rfl)
        go_wp2_with fail
        go_roundw
        case rel => exact ⟨x + 1, o.size + U.size, o ++ U, by omega, by rw [HSZ.out]; omega, by rw [HSZ.out]; omega, rfl, by go_num, by go_num, Lib.hid ⟨HOD.out, HEN.out, HB2.out.1, d_0, d_10, HB2.out.2⟩⟩
        case measure => simp [intOf]; omega
    · obtain rfl : x = wd := by omega
      go_wp2_with fail
      go_ret
      refine ⟨?_, HQ.out.2.2.1⟩
      have htk : row.take x = row := List.take_of_length_le (by rw [HRL.out]; exact Nat.le_refl _)
      have h1 := HQ.out.1
      have h2 := HQ.out.2.1
      rw [htk] at h1 h2
      rw [bytes_eq h1, h2]
      refine congrArg (fun s => Ending.returned (Value.string s)) ?_
      rw [ext_take, rowL_take]
end
section
open Go.RowKit
def shU (f i w : Nat) (l : List Cl) : List Cl := l.take f ++ ((l.drop (f + w)).take (i - f) ++ l.drop i)
theorem shU_len {f i w : Nat} {l : List Cl} (h1 : f ≤ i) (h2 : i + w ≤ l.length) : (shU f i w l).length = l.length := by
  simp only [shU, List.length_append, List.length_take, List.length_drop]
  omega
theorem shU_get {f i w : Nat} {l : List Cl} (h1 : f ≤ i) (h2 : i + w ≤ l.length) (j : Nat) : (shU f i w l)[j]? = if j < f then l[j]? else if j < i then l[j + w]? else l[j]? := by
  unfold shU
  by_cases a : j < f
  · rw [if_pos a, List.getElem?_append_left (by rw [List.length_take]; omega), List.getElem?_take, if_pos a]
  · rw [if_neg a, List.getElem?_append_right (by rw [List.length_take]; omega)]
    have e1 : (l.take f).length = f := by rw [List.length_take]; omega
    rw [e1]
    by_cases c : j < i
    · rw [if_pos c, List.getElem?_append_left (by rw [List.length_take, List.length_drop]; omega), List.getElem?_take, if_pos (by omega), List.getElem?_drop]
      congr 1
      omega
    · rw [if_neg c, List.getElem?_append_right (by rw [List.length_take, List.length_drop]; omega), List.getElem?_drop]
      congr 1
      rw [List.length_take, List.length_drop]
      omega
theorem shU_none {f w : Nat} {l : List Cl} : shU f f w l = l := by simp [shU]
theorem shU_next {f i w : Nat} {l : List Cl} (h1 : f ≤ i) (h2 : i + w < l.length) : (shU f i w l).set i (l[i + w]'h2) = shU f (i + 1) w l := by
  apply List.ext_getElem?
  intro j
  rw [List.getElem?_set, shU_get (i := i + 1) (by omega) (by omega), shU_get (i := i) h1 (by omega), shU_len h1 (by omega)]
  by_cases e : i = j
  · subst e
    rw [if_pos rfl, if_pos (by omega), if_neg (by omega), if_pos (by omega), List.getElem?_eq_getElem h2]
  · rw [if_neg e]
    by_cases a : j < f
    · rw [if_pos a, if_pos a]
    · rw [if_neg a, if_neg a]
      by_cases c : j < i
      · rw [if_pos c, if_pos (by omega)]
      · rw [if_neg c, if_neg (by omega)]
theorem shU_at {f i w : Nat} {l : List Cl} (h1 : f ≤ i) (h2 : i + w < l.length) (h3 : i + w < (shU f i w l).length) : (shU f i w l)[i + w] = l[i + w] := by
  have := shU_get (f := f) (i := i) (w := w) (l := l) h1 (by omega) (i + w)
  rw [if_neg (by omega)] at this
  rw [List.getElem?_eq_getElem h3, List.getElem?_eq_getElem h2] at this
  split at this
  · rename_i hlt
    obtain rfl : w = 0 := by omega
    simp at hlt
  · exact Option.some.inj this
def shD (e m w : Nat) (l : List Cl) : List Cl := l.take m ++ ((l.drop (m - w)).take (e - m) ++ l.drop e)
theorem shD_len {e m w : Nat} {l : List Cl} (h0 : w ≤ m) (h1 : m ≤ e) (h2 : e ≤ l.length) : (shD e m w l).length = l.length := by
  simp only [shD, List.length_append, List.length_take, List.length_drop]
  omega
theorem shD_get {e m w : Nat} {l : List Cl} (h0 : w ≤ m) (h1 : m ≤ e) (h2 : e ≤ l.length) (j : Nat) : (shD e m w l)[j]? = if j < m then l[j]? else if j < e then l[j - w]? else l[j]? := by
  unfold shD
  have e1 : (l.take m).length = m := by rw [List.length_take]; omega
  by_cases a : j < m
  · rw [if_pos a, List.getElem?_append_left (by omega), List.getElem?_take, if_pos a]
  · rw [if_neg a, List.getElem?_append_right (by omega), e1]
    by_cases c : j < e
    · rw [if_pos c, List.getElem?_append_left (by rw [List.length_take, List.length_drop]; omega), List.getElem?_take, if_pos (by omega), List.getElem?_drop]
      congr 1
      omega
    · rw [if_neg c, List.getElem?_append_right (by rw [List.length_take, List.length_drop]; omega), List.getElem?_drop]
      congr 1
      rw [List.length_take, List.length_drop]
      omega
theorem shD_none {e w : Nat} {l : List Cl} : shD e e w l = l := by simp [shD]
theorem shD_next {e m w : Nat} {l : List Cl} (h0 : w ≤ m) (h1 : m < e) (h2 : e ≤ l.length) (h3 : m - w < l.length) : (shD e (m + 1) w l).set m (l[m - w]'h3) = shD e m w l := by
  apply List.ext_getElem?
  intro j
  rw [List.getElem?_set, shD_get (m := m + 1) (by omega) (by omega) h2, shD_get (m := m) h0 (by omega) h2, shD_len (by omega) (by omega) h2]
  by_cases q : m = j
  · subst q
    rw [if_pos rfl, if_pos (by omega), if_neg (by omega), if_pos h1, List.getElem?_eq_getElem h3]
  · rw [if_neg q]
    by_cases a : j < m
    · rw [if_pos (by omega), if_pos a]
    · rw [if_neg (by omega), if_neg a]
theorem shD_at {e m w : Nat} {l : List Cl} (h0 : w ≤ m) (h1 : m < e) (h2 : e ≤ l.length) (h3 : m - w < l.length) (h4 : m - w < (shD e (m + 1) w l).length) : (shD e (m + 1) w l)[m - w] = l[m - w] := by
  have := shD_get (e := e) (m := m + 1) (w := w) (l := l) (by omega) (by omega) h2 (m - w)
  rw [if_pos (by omega), List.getElem?_eq_getElem h4, List.getElem?_eq_getElem h3] at this
  exact Option.some.inj this
theorem up1_sh {w a b : Nat} {l : List Cl} (hab : a ≤ b) (hb : (b + 1) * w ≤ l.length) : clrL (b * w) ((b + 1) * w) (shU (a * w) (b * w) w l) = up1 w a b l := by
  have h2 : a * w ≤ b * w := mul_le_of hab
  have e1 : (a + 1) * w = a * w + w := Nat.succ_mul a w
  have e2 : (b + 1) * w = b * w + w := Nat.succ_mul b w
  have e3 : (b - a) * w = b * w - a * w := Nat.sub_mul b a w
  unfold clrL up1
  rw [e2, show b * w + w - b * w = w by omega]
  apply List.ext_getElem?
  intro j
  have hl1 : (l.take (a * w)).length = a * w := by rw [List.length_take]; omega
  have hl2 : ((l.drop ((a + 1) * w)).take ((b - a) * w)).length = b * w - a * w := by rw [List.length_take, List.length_drop]; omega
  have hl3 : ((shU (a * w) (b * w) w l).take (b * w)).length = b * w := by rw [List.length_take, shU_len h2 (by omega)]; omega
  by_cases c1 : j < b * w
  · rw [List.getElem?_append_left (by omega), List.getElem?_take, if_pos c1, shU_get h2 (by omega)]
    by_cases c2 : j < a * w
    · rw [if_pos c2, List.getElem?_append_left (by omega), List.getElem?_take, if_pos c2]
    · rw [if_neg c2, if_pos c1, List.getElem?_append_right (by omega), hl1, List.getElem?_append_left (by omega), List.getElem?_take, if_pos (by omega), List.getElem?_drop]
      congr 1
      omega
  · rw [List.getElem?_append_right (l₁ := (shU (a * w) (b * w) w l).take (b * w)) (by omega), hl3, List.getElem?_append_right (l₁ := l.take (a * w)) (by omega), hl1, List.getElem?_append_right (l₁ := (l.drop ((a + 1) * w)).take ((b - a) * w)) (by omega), hl2]
    have e4 : j - a * w - (b * w - a * w) = j - b * w := by omega
    rw [e4]
    by_cases c2 : j - b * w < w
    · rw [List.getElem?_append_left (by simp [blanksL]; omega), List.getElem?_append_left (by simp [blanksL]; omega)]
    · rw [List.getElem?_append_right (by simp [blanksL]; omega), List.getElem?_append_right (by simp [blanksL]; omega), List.getElem?_drop, List.getElem?_drop]
      simp only [blanksL, List.length_replicate]
      rw [shU_get h2 (by omega), if_neg (by omega), if_neg (by omega)]
theorem dn1_sh {w a b : Nat} {l : List Cl} (hab : a ≤ b) (hb : (b + 1) * w ≤ l.length) : clrL (a * w) ((a + 1) * w) (shD ((b + 1) * w) ((a + 1) * w) w l) = dn1 w a b l := by
  have h2 : a * w ≤ b * w := mul_le_of hab
  have e1 : (a + 1) * w = a * w + w := Nat.succ_mul a w
  have e2 : (b + 1) * w = b * w + w := Nat.succ_mul b w
  have e3 : (b - a) * w = b * w - a * w := Nat.sub_mul b a w
  unfold clrL dn1
  rw [e1, show a * w + w - a * w = w by omega]
  apply List.ext_getElem?
  intro j
  have hl1 : (l.take (a * w)).length = a * w := by rw [List.length_take]; omega
  have hl2 : ((l.drop (a * w)).take ((b - a) * w)).length = b * w - a * w := by rw [List.length_take, List.length_drop]; omega
  have hl3 : ((shD ((b + 1) * w) (a * w + w) w l).take (a * w)).length = a * w := by rw [List.length_take, shD_len (by omega) (by omega) hb]; omega
  have hl4 : (blanksL w).length = w := by simp [blanksL]
  by_cases c1 : j < a * w
  · rw [List.getElem?_append_left (by omega), List.getElem?_append_left (by omega), List.getElem?_take, List.getElem?_take, if_pos c1, if_pos c1, shD_get (by omega) (by omega) hb, if_pos (by omega)]
  · rw [List.getElem?_append_right (l₁ := (shD ((b + 1) * w) (a * w + w) w l).take (a * w)) (by omega), List.getElem?_append_right (l₁ := l.take (a * w)) (by omega), hl1, hl3]
    by_cases c2 : j - a * w < w
    · rw [List.getElem?_append_left (by omega), List.getElem?_append_left (by omega)]
    · rw [List.getElem?_append_right (l₁ := blanksL w) (by omega), List.getElem?_append_right (l₁ := blanksL w) (by omega), hl4, List.getElem?_drop, shD_get (by omega) (by omega) hb, if_neg (by omega)]
      by_cases c3 : j < (b + 1) * w
      · rw [if_pos (by omega), List.getElem?_append_left (by omega), List.getElem?_take, if_pos (by omega), List.getElem?_drop]
        congr 1
        omega
      · rw [if_neg (by omega), List.getElem?_append_right (by omega), hl2, List.getElem?_drop]
        congr 1
        omega
end
section
open Go.RowKit
theorem l04Row0_c (s : Scr) (ac : Option Addr) (cc : Nat) (ah : Option Addr) (dh : Nat) (w : World) (h : ScrS s ac ah w) (ok : ScrOK s) :
    Calls Tryz.prog 142 #[.agg #[.int .i64 (s.w : Int), .int .i64 (s.h : Int), .int .i64 (s.x : Int), .int .i64 (s.y : Int), .int .i64 (s.look : Int), .int .i64 (s.top : Int), .int .i64 (s.bot : Int), .int .i64 (s.sx : Int), .int .i64 (s.sy : Int), .string s.title, .slice ac s.cells.length cc, .slice ah s.hist.length dh], .int .i64 0] w fun e w' => e = .returned (.string (rowT s 0)) ∧ Below w.heap.size w w' :=
  l04Row_c s ac cc ah dh 0 w h (by have := ok.w1; omega) ok.w2 ok.h2 (by have := ok.h1; omega) ok.cn (fun c hc => (ok.cs c hc).1)
theorem pushH_one {l : List ByteArray} {r : ByteArray} (h : ¬ 6 < (l ++ [r]).length) : pushH l r = l ++ [r] := if_neg h
theorem pushH_six {l : List ByteArray} {r : ByteArray} {x : ByteArray} {t : List ByteArray} (h : 6 < (l ++ [r]).length) (e : l ++ [r] = x :: t) : pushH l r = t := by
  unfold pushH
  rw [if_pos h, e]
  rfl
theorem ScrAt.hist2 {lo b o : Nat} {s s' : Scr} {g cc : Nat} {ah : Option Addr} {dh : Nat} {w w' : World} {us : List ByteArray} {a' : Option Addr} {c' : Nat} {M : Nat → Prop} (h : ScrAt lo b o { s' with hist := s.hist } g cc ah dh w) (hc : Ch M w w') (h1 : ¬ M b) (h2 : ¬ M g) (hw : Win strE 9 1 lo w' a' c' us) (hd : ∀ k ∈ blkOf a', k ≠ b ∧ k ≠ g) : ScrAt lo b o { s' with hist := us } g cc a' c' (w'.setCell ⟨b, o + 11, none⟩ (.slice a' us.length c')) where
  c0 := sO ((hc.cell (p := ⟨b, o, none⟩) h.lt h1).trans h.c0)
  c1 := sO ((hc.cell (p := ⟨b, o + 1, none⟩) h.lt h1).trans h.c1)
  c2 := sO ((hc.cell (p := ⟨b, o + 2, none⟩) h.lt h1).trans h.c2)
  c3 := sO ((hc.cell (p := ⟨b, o + 3, none⟩) h.lt h1).trans h.c3)
  c4 := sO ((hc.cell (p := ⟨b, o + 4, none⟩) h.lt h1).trans h.c4)
  c5 := sO ((hc.cell (p := ⟨b, o + 5, none⟩) h.lt h1).trans h.c5)
  c6 := sO ((hc.cell (p := ⟨b, o + 6, none⟩) h.lt h1).trans h.c6)
  c7 := sO ((hc.cell (p := ⟨b, o + 7, none⟩) h.lt h1).trans h.c7)
  c8 := sO ((hc.cell (p := ⟨b, o + 8, none⟩) h.lt h1).trans h.c8)
  c9 := sO ((hc.cell (p := ⟨b, o + 9, none⟩) h.lt h1).trans h.c9)
  c10 := sO ((hc.cell (p := ⟨b, o + 10, none⟩) h.lt h1).trans h.c10)
  c11 := World.cell?_setCell_same _ _ _ ((hc.cell (p := ⟨b, o + 11, none⟩) h.lt h1).trans h.c11)
  fz := fun k => (World.frozen?_setCell _ _ _ _).trans ((hc.frozen (p := ⟨b, k, none⟩) h.lt h1).trans (h.fz k))
  lt := by have := Nat.lt_of_lt_of_le h.lt hc.size; simpa [World.setCell] using this
  row := (h.row.ch hc (fun k hk => by simp only [blkOf, List.mem_singleton] at hk; subst hk; exact h2)).ch (Ch.set1' w' b (o + 11) _) (fun k hk e => by simp only [blkOf, List.mem_singleton] at hk; exact h.gb (hk.symm.trans e))
  win := hw.ch (Ch.set1' w' b (o + 11) _) (fun k hk e => (hd k hk).1 e)
  gb := h.gb
  hb := hd
theorem ScrAt.hist' {lo b o : Nat} {s : Scr} {g cc : Nat} {ah : Option Addr} {dh : Nat} {w w' : World} {us : List ByteArray} {a' : Option Addr} {c' : Nat} (h : ScrAt lo b o s g cc ah dh w) (hc : Ch (· ∈ blkOf ah) w w') (h1 : ¬ b ∈ blkOf ah) (h2 : ¬ g ∈ blkOf ah) (hw : Win strE 9 1 lo w' a' c' us) (hd : ∀ k ∈ blkOf a', k ≠ b ∧ k ≠ g) : ScrAt lo b o { s with hist := us } g cc a' c' (w'.setCell ⟨b, o + 11, none⟩ (.slice a' us.length c')) where
  c0 := sO ((hc.cell (p := ⟨b, o, none⟩) h.lt h1).trans h.c0)
  c1 := sO ((hc.cell (p := ⟨b, o + 1, none⟩) h.lt h1).trans h.c1)
  c2 := sO ((hc.cell (p := ⟨b, o + 2, none⟩) h.lt h1).trans h.c2)
  c3 := sO ((hc.cell (p := ⟨b, o + 3, none⟩) h.lt h1).trans h.c3)
  c4 := sO ((hc.cell (p := ⟨b, o + 4, none⟩) h.lt h1).trans h.c4)
  c5 := sO ((hc.cell (p := ⟨b, o + 5, none⟩) h.lt h1).trans h.c5)
  c6 := sO ((hc.cell (p := ⟨b, o + 6, none⟩) h.lt h1).trans h.c6)
  c7 := sO ((hc.cell (p := ⟨b, o + 7, none⟩) h.lt h1).trans h.c7)
  c8 := sO ((hc.cell (p := ⟨b, o + 8, none⟩) h.lt h1).trans h.c8)
  c9 := sO ((hc.cell (p := ⟨b, o + 9, none⟩) h.lt h1).trans h.c9)
  c10 := sO ((hc.cell (p := ⟨b, o + 10, none⟩) h.lt h1).trans h.c10)
  c11 := World.cell?_setCell_same _ _ _ ((hc.cell (p := ⟨b, o + 11, none⟩) h.lt h1).trans h.c11)
  fz := fun k => (World.frozen?_setCell _ _ _ _).trans ((hc.frozen (p := ⟨b, k, none⟩) h.lt h1).trans (h.fz k))
  lt := by have := Nat.lt_of_lt_of_le h.lt hc.size; simpa [World.setCell] using this
  row := (h.row.ch hc (fun k hk => by simp only [blkOf, List.mem_singleton] at hk; subst hk; exact h2)).ch (Ch.set1' w' b (o + 11) _) (fun k hk e => by simp only [blkOf, List.mem_singleton] at hk; exact h.gb (hk.symm.trans e))
  win := hw.ch (Ch.set1' w' b (o + 11) _) (fun k hk e => (hd k hk).1 e)
  gb := h.gb
  hb := hd
def OldH (ah : Option Addr) (dh : Nat) (l : List ByteArray) (ah' : Option Addr) (dh' : Nat) (l' : List ByteArray) : Prop := (ah' = ah ∧ dh' = dh ∧ ∃ tl, l' = l ++ tl) ∨ ∀ k ∈ blkOf ah', k ∉ blkOf ah
theorem Upd.set1'' {g lo hi o : Nat} {S : Nat → Prop} {a w : World} (h : Upd g lo hi S a w) (h1 : lo ≤ o) (h2 : o < hi) (u : Value) : Upd g lo hi S a (w.setCell ⟨g, o, none⟩ u) := h.setCell o h1 h2 u
theorem scrollU_c (lo b : Nat) (s : Scr) (g cc : Nat) (ah : Option Addr) (dh : Nat) (w : World) (t bt n : Nat) (h : ScrAt lo b 0 s g cc ah dh w) (ok : ScrOK s) (htb : t ≤ bt) (hbt : bt < s.h) (hn : n ≤ 10) (hlo : lo ≤ w.heap.size) :
    Calls Tryz.prog 120 #[.pointer (some ⟨b, 0, none⟩), .int .i64 t, .int .i64 bt, .int .i64 n] w fun e w' => e = .returned (.tuple #[]) ∧ ScrR lo b 0 (scU true t bt n s) g ah w w' ∧ Win strE 9 1 lo w' ah dh s.hist := by
  obtain ⟨iS, hS, hS0, hS1, hS2⟩ := info_parts Tryz.infoStr
  have hS := hS
  have HS := Lib.hid h
  have HOK := Lib.hid ok
  clear h ok
  go_enter Tryz.func120, Tryz.ntmps120
  go_wp2_with fail
  go_loopw [3] (fun nv wr => ∃ k m : Nat, k + m = n ∧ nv = .int .i64 m ∧ Hid (∃ g' cc' ah' dh', ScrAt lo b 0 (scU true t bt k s) g' cc' ah' dh' wr ∧ Upd b 0 (0 + 12) (fun i => i = g ∨ i ∈ blkOf ah) w wr ∧ (g' = g ∨ w.heap.size ≤ g') ∧ (∀ i ∈ blkOf ah', i ∈ blkOf ah ∨ w.heap.size ≤ i) ∧ Win strE 9 1 lo wr ah dh s.hist ∧ OldH ah dh s.hist ah' dh' (scU true t bt k s).hist)) (fun nv _ => (intOf nv).toNat)
  case atStart => exact ⟨0, n, by omega, rfl, Lib.hid ⟨g, cc, ah, dh, HS.out, Upd.refl, .inl rfl, fun _ hi => .inl hi, HS.out.win, .inl ⟨rfl, rfl, [], by simp [scU]⟩⟩⟩
  case round =>
    obtain ⟨k, m, hkm, rfl, HR⟩ := hrel
    obtain ⟨g1, cc1, ah1, dh1, ha1, hu1, hg1, hh1, hwo1, hoo1⟩ := HR.out
    obtain ⟨s1, hs1⟩ : ∃ x, scU true t bt k s = x := ⟨_, rfl⟩
    have HK1 : Hid (scU true t bt (k + 1) s = scU1 true t bt s1) := Lib.hid (by rw [← hs1]; rfl)
    have ok1 : ScrOK s1 := by rw [← hs1]; exact HOK.out.okU htb hbt k
    have hbt1 : bt < s1.h := by rw [← hs1, (scU_same true t bt s k).2.1]; exact hbt
    have HS1 := Lib.hid hs1
    rw [hs1] at ha1 hoo1
    have HA1 := Lib.hid ha1
    have HWO1 := Lib.hid hwo1
    have HOO1 := Lib.hid hoo1
    clear hwo1 hoo1
    have HU1 := Lib.hid hu1
    have HG1 := Lib.hid hg1
    have HH1 := Lib.hid hh1
    have HOK1 := Lib.hid ok1
    have hz1 := hu1.size
    clear ha1 hu1 hg1 hh1 hs1 HR
    by_cases hm : 0 < m
    · have hm' : (0 : Int) < (m : Int) := by omega
      obtain ⟨s2, hs2⟩ : ∃ x, ({ s1 with hist := if t = 0 then pushH s1.hist (rowT s1 0) else s1.hist } : Scr) = x := ⟨_, rfl⟩
      have HS2 := Lib.hid hs2
      clear hs2
      go_upto_if 19 with fail
      go_cut [] (fun wx => ∃ ah2 dh2, ScrAt lo b 0 s2 g1 cc1 ah2 dh2 wx ∧ Upd b 0 (0 + 12) (fun i => i = g1 ∨ i ∈ blkOf ah1) wr wx ∧ (∀ i ∈ blkOf ah2, i ∈ blkOf ah1 ∨ wr.heap.size ≤ i) ∧ Win strE 9 1 lo wx ah1 dh1 s1.hist ∧ ((ah2 = ah1 ∧ dh2 = dh1 ∧ ∃ tl, s2.hist = s1.hist ++ tl) ∨ ∀ k ∈ blkOf ah2, wr.heap.size ≤ k))
      case first =>
        by_cases ht0 : t = 0
        · have ht0' : ((t : Int) == 0) = true := by simp [ht0]
          subst ht0
          go_upto_region 4 with fail
          have k_0 := HA1.out.e0
          have k_1 := HA1.out.e1
          have k_2 := HA1.out.e2
          have k_3 := HA1.out.e3
          have k_4 := HA1.out.e4
          have k_5 := HA1.out.e5
          have k_6 := HA1.out.e6
          have k_7 := HA1.out.e7
          have k_8 := HA1.out.e8
          have k_9 := HA1.out.e9
          have k_10 := HA1.out.e10
          have k_11 := HA1.out.e11
          have k_f := HA1.out.fz
          have k_l := HA1.out.lt
          have hSc1 := And.intro k_0 (And.intro k_1 (And.intro k_2 (And.intro k_3 (And.intro k_4 (And.intro k_5 (And.intro k_6 (And.intro k_7 (And.intro k_8 (And.intro k_9 (And.intro k_10 k_11))))))))))
          refine wp_region_G (fun w' => w'.cell? ⟨b, 0, none⟩ = some (.int .i64 (s1.w : Int)) ∧ w'.cell? ⟨b, 1, none⟩ = some (.int .i64 (s1.h : Int)) ∧ w'.cell? ⟨b, 2, none⟩ = some (.int .i64 (s1.x : Int)) ∧ w'.cell? ⟨b, 3, none⟩ = some (.int .i64 (s1.y : Int)) ∧ w'.cell? ⟨b, 4, none⟩ = some (.int .i64 (s1.look : Int)) ∧ w'.cell? ⟨b, 5, none⟩ = some (.int .i64 (s1.top : Int)) ∧ w'.cell? ⟨b, 6, none⟩ = some (.int .i64 (s1.bot : Int)) ∧ w'.cell? ⟨b, 7, none⟩ = some (.int .i64 (s1.sx : Int)) ∧ w'.cell? ⟨b, 8, none⟩ = some (.int .i64 (s1.sy : Int)) ∧ w'.cell? ⟨b, 9, none⟩ = some (.string s1.title) ∧ w'.cell? ⟨b, 10, none⟩ = some (.slice (some ⟨g1, 0, none⟩) s1.cells.length cc1) ∧ w'.cell? ⟨b, 11, none⟩ = some (.slice ah1 s1.hist.length dh1)) (fun i => i == 13) (by kernel_rfl) hSc1 ?_
          refine tW ?_ 0 rfl ?_ ?_; rotate_left
          · intro w' hSw; go_simp; try rfl
          try simp only [Act.put,j1,j2,j3,j4,j5,j6]
          refine tW ?_ 1 rfl ?_ ?_; rotate_left
          · intro w' hSw; go_simp; try rfl
          try simp only [Act.put,j1,j2,j3,j4,j5,j6]
          refine tW ?_ 2 rfl ?_ ?_; rotate_left
          · intro w' hSw; go_simp; try rfl
          try simp only [Act.put,j1,j2,j3,j4,j5,j6]
          refine tW ?_ 3 rfl ?_ ?_; rotate_left
          · intro w' hSw; go_simp; try rfl
          try simp only [Act.put,j1,j2,j3,j4,j5,j6]
          refine tL ?_ 4 rfl hSc1 ?_ ?_; rotate_left
          · intro w' hSw; obtain ⟨s0, s1, s2, s3, s4, s5, s6, s7, s8, s9, s10, s11⟩ := hSw; go_simp; try rfl
          try simp only [Act.put,j1,j2,j3,j4,j5,j6]
          refine tW ?_ 5 rfl ?_ ?_; rotate_left
          · intro w' hSw; go_simp; try rfl
          try simp only [Act.put,j1,j2,j3,j4,j5,j6]
          refine tW ?_ 6 rfl ?_ ?_; rotate_left
          · intro w' hSw; go_simp; try rfl
          try simp only [Act.put,j1,j2,j3,j4,j5,j6]
          refine tL ?_ 7 rfl hSc1 ?_ ?_; rotate_left
          · intro w' hSw; obtain ⟨s0, s1, s2, s3, s4, s5, s6, s7, s8, s9, s10, s11⟩ := hSw; go_simp; try rfl
          try simp only [Act.put,j1,j2,j3,j4,j5,j6]
          refine wpAnyG_one (i := 8) (by kernel_rfl) rfl hSc1 (fun K' hK => ?_)
          simp only [j1,j2,j3]
          go_simp
          refine (l04Row0_c s1 (some ⟨g1, 0, none⟩) cc1 ah1 dh1 _ HA1.out.drew.rd HOK1.out).mono ?_
          rintro e x1 ⟨rfl, hb1⟩
          have HBX1 : Hid (Below wr.heap.size wr x1) := Lib.hid (((Below.refl _ _).drew).trans hb1)
          have HAX1 := Lib.hid (HA1.out.below HBX1.out)
          have e_0 := HAX1.out.e0
          have e_1 := HAX1.out.e1
          have e_2 := HAX1.out.e2
          have e_3 := HAX1.out.e3
          have e_4 := HAX1.out.e4
          have e_5 := HAX1.out.e5
          have e_6 := HAX1.out.e6
          have e_7 := HAX1.out.e7
          have e_8 := HAX1.out.e8
          have e_9 := HAX1.out.e9
          have e_10 := HAX1.out.e10
          have e_11 := HAX1.out.e11
          have e_f := HAX1.out.fz
          have e_l := HAX1.out.lt
          have hSx1 : x1.cell? ⟨b, 0, none⟩ = some (.int .i64 (s1.w : Int)) ∧ x1.cell? ⟨b, 1, none⟩ = some (.int .i64 (s1.h : Int)) ∧ x1.cell? ⟨b, 2, none⟩ = some (.int .i64 (s1.x : Int)) ∧ x1.cell? ⟨b, 3, none⟩ = some (.int .i64 (s1.y : Int)) ∧ x1.cell? ⟨b, 4, none⟩ = some (.int .i64 (s1.look : Int)) ∧ x1.cell? ⟨b, 5, none⟩ = some (.int .i64 (s1.top : Int)) ∧ x1.cell? ⟨b, 6, none⟩ = some (.int .i64 (s1.bot : Int)) ∧ x1.cell? ⟨b, 7, none⟩ = some (.int .i64 (s1.sx : Int)) ∧ x1.cell? ⟨b, 8, none⟩ = some (.int .i64 (s1.sy : Int)) ∧ x1.cell? ⟨b, 9, none⟩ = some (.string s1.title) ∧ x1.cell? ⟨b, 10, none⟩ = some (.slice (some ⟨g1, 0, none⟩) s1.cells.length cc1) ∧ x1.cell? ⟨b, 11, none⟩ = some (.slice ah1 s1.hist.length dh1) := ⟨e_0, e_1, e_2, e_3, e_4, e_5, e_6, e_7, e_8, e_9, e_10, e_11⟩
          obtain ⟨r, hr⟩ : ∃ r, rowT s1 0 = r := ⟨_, rfl⟩
          have HRR := Lib.hid hr
          rw [hr]
          clear hr hb1 e_0 e_1 e_2 e_3 e_4 e_5 e_6 e_7 e_8 e_9 e_10 e_11 e_f e_l
          refine hK.out _ _ (Or.inr hSx1) ?_
          clear hK K'
          try simp only [Act.put,j1,j2,j3,j4,j5,j6]
          refine wpAnyG_one (i := 9) (by kernel_rfl) rfl hSx1 (fun K' hK => ?_)
          simp only [j1,j2,j3]
          go_simp
          obtain ⟨x2, hx2⟩ : ∃ x, x1.alloc (.cells #[.string r] 9) = x := ⟨_, rfl⟩
          have HB12 : Hid (Below x1.heap.size x1 x2) := Lib.hid (by rw [← hx2]; exact (Below.refl _ _).alloc (Nat.le_refl _) _)
          have HBX2 : Hid (Below wr.heap.size wr x2) := Lib.hid (HBX1.out.trans (HB12.out.mono HBX1.out.size))
          have HAX2 := Lib.hid (HA1.out.below HBX2.out)
          have HSRC : Hid (Src Tryz.prog 1 24 (.slice (some ⟨x1.heap.size, 0, none⟩) 1 1) [r].length ([r].flatMap strE) x2) := Lib.hid (by rw [← hx2]; exact Src.ofBox (enc := strE) Tryz.underlying24 (fun _ => rfl) strOne r _ _ (by simp [strE]) _ (by simp))
          have e_0 := HAX2.out.e0
          have e_1 := HAX2.out.e1
          have e_2 := HAX2.out.e2
          have e_3 := HAX2.out.e3
          have e_4 := HAX2.out.e4
          have e_5 := HAX2.out.e5
          have e_6 := HAX2.out.e6
          have e_7 := HAX2.out.e7
          have e_8 := HAX2.out.e8
          have e_9 := HAX2.out.e9
          have e_10 := HAX2.out.e10
          have e_11 := HAX2.out.e11
          have e_f := HAX2.out.fz
          have e_l := HAX2.out.lt
          have hSx2 : x2.cell? ⟨b, 0, none⟩ = some (.int .i64 (s1.w : Int)) ∧ x2.cell? ⟨b, 1, none⟩ = some (.int .i64 (s1.h : Int)) ∧ x2.cell? ⟨b, 2, none⟩ = some (.int .i64 (s1.x : Int)) ∧ x2.cell? ⟨b, 3, none⟩ = some (.int .i64 (s1.y : Int)) ∧ x2.cell? ⟨b, 4, none⟩ = some (.int .i64 (s1.look : Int)) ∧ x2.cell? ⟨b, 5, none⟩ = some (.int .i64 (s1.top : Int)) ∧ x2.cell? ⟨b, 6, none⟩ = some (.int .i64 (s1.bot : Int)) ∧ x2.cell? ⟨b, 7, none⟩ = some (.int .i64 (s1.sx : Int)) ∧ x2.cell? ⟨b, 8, none⟩ = some (.int .i64 (s1.sy : Int)) ∧ x2.cell? ⟨b, 9, none⟩ = some (.string s1.title) ∧ x2.cell? ⟨b, 10, none⟩ = some (.slice (some ⟨g1, 0, none⟩) s1.cells.length cc1) ∧ x2.cell? ⟨b, 11, none⟩ = some (.slice ah1 s1.hist.length dh1) := ⟨e_0, e_1, e_2, e_3, e_4, e_5, e_6, e_7, e_8, e_9, e_10, e_11⟩
          rw [hx2]
          clear hx2 e_0 e_1 e_2 e_3 e_4 e_5 e_6 e_7 e_8 e_9 e_10 e_11 e_f e_l
          refine hK.out _ _ (Or.inr hSx2) ?_
          clear hK K'
          try simp only [Act.put,j1,j2,j3,j4,j5,j6]
          refine wpAnyG_one (i := 10) (by kernel_rfl) rfl hSx2 (fun K' hK => ?_)
          simp only [j1,j2,j3]
          rw [if_pos (by rfl)]
          refine step_append_win (.tmp 24) (.tmp 29) 24 24 iS (.string ⟨#[]⟩) 16 Tryz.underlying24 hS hS0 hS1 hS2 rfl (by decide) (fun _ => rfl) s1.hist.length rfl HAX2.out.win (.slice (some ⟨x1.heap.size, 0, none⟩) 1 1) [r] HSRC.out (by have := HOK1.out.hn; simp; omega) (by have := HBX2.out.size; omega) ?_ ?_ ?_ ?_
          · rfl
          · rfl
          · rfl
          intro a4 c4 w4 us hus hf4 hc4 hk4 hwo4 hsm4
          have HSM4 := Lib.hid hsm4
          have HUS := hus
          have HF4 := Lib.hid hf4
          have HC4 := Lib.hid hc4
          have HK4 := Lib.hid hk4
          have hx12 := HB12.out.size
          have hbx := HBX2.out.size
          have HB1 : ¬ b ∈ blkOf ah1 := fun hb => (HA1.out.hb b hb).1 rfl
          have HA4 : Hid (ScrAt lo b 0 { s1 with hist := us } g1 cc1 a4 c4 (w4.setCell ⟨b, 11, none⟩ (.slice a4 us.length c4))) := Lib.hid (by
            have hh := HA1.out
            have hgl := hh.glt
            have hn4 : ∀ k ∈ blkOf a4, k ≠ b ∧ k ≠ g1 := fun k hk => by
              rcases hk4 k hk with h | h
              · exact hh.hb k h
              · have := hh.lt; have := hh.glt.2; omega
            have h4 : ScrAt lo b 0 { s1 with hist := us } g1 cc1 a4 c4 (w4.setCell ⟨b, 0 + 11, none⟩ (.slice a4 us.length c4)) := ScrAt.hist' HAX2.out hc4 (fun h => HB1 h) (fun h => (hh.hb g1 h).2 rfl) hf4 hn4
            exact h4)
          have HU4 : Hid (Upd b 0 (0 + 12) (fun i => i = g1 ∨ i ∈ blkOf ah1) wr (w4.setCell ⟨b, 11, none⟩ (.slice a4 us.length c4)) ∧ (∀ i ∈ blkOf a4, i ∈ blkOf ah1 ∨ wr.heap.size ≤ i) ∧ Win strE 9 1 lo (w4.setCell ⟨b, 11, none⟩ (.slice a4 us.length c4)) ah1 dh1 s1.hist) := Lib.hid (by
            have hh := HA1.out
            refine ⟨((Upd.refl.below HBX2.out hh.lt).transN (Upd.ofCh (S := fun i => i = g1 ∨ i ∈ blkOf ah1) hc4 (by have := hh.lt; omega) HB1 (fun i hi => .inl (.inr hi))) (fun i hi => .inl hi)).set1'' (by omega) (by omega) _, fun i hi => ?_, hwo4.ch (Ch.set1' w4 b 11 _) (fun k hk e => (hh.hb k hk).1 e)⟩
            · rcases hk4 i hi with h | h
              · exact .inl h
              · exact .inr (by omega))
          clear hus hf4 hc4 hk4 hwo4 hsm4
          have hSx4 : w4.cell? ⟨b, 0, none⟩ = some (.int .i64 (s1.w : Int)) ∧ w4.cell? ⟨b, 1, none⟩ = some (.int .i64 (s1.h : Int)) ∧ w4.cell? ⟨b, 2, none⟩ = some (.int .i64 (s1.x : Int)) ∧ w4.cell? ⟨b, 3, none⟩ = some (.int .i64 (s1.y : Int)) ∧ w4.cell? ⟨b, 4, none⟩ = some (.int .i64 (s1.look : Int)) ∧ w4.cell? ⟨b, 5, none⟩ = some (.int .i64 (s1.top : Int)) ∧ w4.cell? ⟨b, 6, none⟩ = some (.int .i64 (s1.bot : Int)) ∧ w4.cell? ⟨b, 7, none⟩ = some (.int .i64 (s1.sx : Int)) ∧ w4.cell? ⟨b, 8, none⟩ = some (.int .i64 (s1.sy : Int)) ∧ w4.cell? ⟨b, 9, none⟩ = some (.string s1.title) ∧ w4.cell? ⟨b, 10, none⟩ = some (.slice (some ⟨g1, 0, none⟩) s1.cells.length cc1) ∧ w4.cell? ⟨b, 11, none⟩ = some (.slice ah1 s1.hist.length dh1) := ⟨(HC4.out.cell (p := ⟨b, 0, none⟩) HAX2.out.lt HB1).trans hSx2.1, (HC4.out.cell (p := ⟨b, 1, none⟩) HAX2.out.lt HB1).trans hSx2.2.1, (HC4.out.cell (p := ⟨b, 2, none⟩) HAX2.out.lt HB1).trans hSx2.2.2.1, (HC4.out.cell (p := ⟨b, 3, none⟩) HAX2.out.lt HB1).trans hSx2.2.2.2.1, (HC4.out.cell (p := ⟨b, 4, none⟩) HAX2.out.lt HB1).trans hSx2.2.2.2.2.1, (HC4.out.cell (p := ⟨b, 5, none⟩) HAX2.out.lt HB1).trans hSx2.2.2.2.2.2.1, (HC4.out.cell (p := ⟨b, 6, none⟩) HAX2.out.lt HB1).trans hSx2.2.2.2.2.2.2.1, (HC4.out.cell (p := ⟨b, 7, none⟩) HAX2.out.lt HB1).trans hSx2.2.2.2.2.2.2.2.1, (HC4.out.cell (p := ⟨b, 8, none⟩) HAX2.out.lt HB1).trans hSx2.2.2.2.2.2.2.2.2.1, (HC4.out.cell (p := ⟨b, 9, none⟩) HAX2.out.lt HB1).trans hSx2.2.2.2.2.2.2.2.2.2.1, (HC4.out.cell (p := ⟨b, 10, none⟩) HAX2.out.lt HB1).trans hSx2.2.2.2.2.2.2.2.2.2.2.1, (HC4.out.cell (p := ⟨b, 11, none⟩) HAX2.out.lt HB1).trans hSx2.2.2.2.2.2.2.2.2.2.2.2⟩
          have v_f : ∀ o, w4.frozen? ⟨b, o, none⟩ = false := fun o => (HC4.out.frozen (p := ⟨b, o, none⟩) HAX2.out.lt HB1).trans (HAX2.out.fz o)
          have v_11 := hSx4.2.2.2.2.2.2.2.2.2.2.2
          have v_l : b < w4.heap.size := Nat.lt_of_lt_of_le HAX2.out.lt HC4.out.size
          refine hK.out _ _ (Or.inr hSx4) ?_
          clear hK K'
          try simp only [Act.put,j1,j2,j3,j4,j5,j6]
          refine tW ?_ 11 rfl ?_ ?_; rotate_left
          · intro w' hSw; go_simp; try rfl
          try simp only [Act.put,j1,j2,j3,j4,j5,j6]
          refine tW ?_ 12 rfl ?_ ?_; rotate_left
          · intro w' hSw; go_simp; try rfl
          try simp only [Act.put,j1,j2,j3,j4,j5,j6]
          refine wpAnyG_one (i := 13) (by kernel_rfl) rfl hSx4 (fun K' hK => ?_)
          simp only [j1,j2,j3]
          go_simp
          refine hK.out _ _ (Or.inl rfl) ?_
          clear hK K'
          try simp only [Act.put,j1,j2,j3,j4,j5,j6]
          refine wpAnyG_done (by kernel_rfl) ?_ _
          obtain ⟨w5, hw5⟩ : ∃ x, w4.setCell ⟨b, 11, none⟩ (.slice a4 us.length c4) = x := ⟨_, rfl⟩
          rw [hw5] at HA4 HU4 ⊢
          obtain ⟨ln, hln⟩ : ∃ n, us.length = n := ⟨_, rfl⟩
          have k5_11 : w5.cell? ⟨b, 11, none⟩ = some (.slice a4 ln c4) := by rw [← hln]; exact HA4.out.c11
          have HLN := Lib.hid hln
          have hln7 : ln ≤ 7 := by have := HOK1.out.hn; rw [← hln, HUS.out]; simp; omega
          rw [hln]
          have k5_f := HA4.out.fz
          have k5_l := HA4.out.lt
          have HH : Hid (us = s1.hist ++ [rowT s1 0]) := Lib.hid (by rw [HRR.out]; exact HUS.out)
          clear hw5 hln v_f v_11 v_l hSx4 hSx2 hSx1 k_0 k_1 k_2 k_3 k_4 k_5 k_6 k_7 k_8 k_9 k_10 k_11 k_f k_l hSc1
          by_cases h6 : 6 < ln
          · have h6' : (6 : Int) < (ln : Int) := by omega
            obtain ⟨x, tl, hxt⟩ : ∃ x tl, us = x :: tl := by
              cases us with
              | nil => have := HLN.out; simp at this; omega
              | cons x tl => exact ⟨x, tl, rfl⟩
            have HXT := Lib.hid hxt
            have hw : Win strE 9 1 lo w5 a4 c4 us := HA4.out.win
            rw [hxt] at hw
            obtain ⟨g4, o4, ha4, hg4, _⟩ := hw.cells (by simp)
            subst ha4
            have HTL := Lib.hid (Win.tail (enc := strE) (sz := 1) (fun _ => rfl) hw)
            have hcap := hw.cap
            have hl4 : ln ≤ c4 := by have h1 := hcap.1; have h2 := HLN.out; rw [hxt] at h2; omega
            have hc41 : ¬ c4 = 1 := by omega
            have hl41 : (1 : Int) ≤ (ln : Int) := by omega
            have HS2' : Hid (s2.hist = tl ∧ { s1 with hist := tl } = s2) := Lib.hid (by
              have h3 : 6 < (s1.hist ++ [rowT s1 0]).length := by rw [← HH.out, HLN.out]; exact h6
              have h4 : pushH s1.hist (rowT s1 0) = tl := pushH_six h3 (by rw [← HH.out]; exact hxt)
              rw [← HS2.out]
              simp [h4])
            clear hw hxt
            go_upto_region 6 with fail
            obtain ⟨w6, hw6⟩ : ∃ x, w5.alloc (.cells #[] 9) = x := ⟨_, rfl⟩
            have HB6 : Hid (Below w5.heap.size w5 w6) := Lib.hid (by rw [← hw6]; exact (Below.refl _ _).alloc (Nat.le_refl _) _)
            have hz6 : w5.heap.size < w6.heap.size := by rw [← hw6]; simp
            have hz5 := HU4.out.1.size
            have HF6 : Hid (FreshIn strE 9 1 lo w6.heap.size (.slice (some ⟨w5.heap.size, 0, none⟩) 0 0) [] w6) := Lib.hid (by rw [← hw6]; exact FreshIn.emp strE _ 1 lo w5 (by omega))
            have HSR6 : Hid (Src Tryz.prog 1 24 (.slice (some ⟨g4, o4 + 1, none⟩) (ln - 1) (c4 - 1)) tl.length (tl.flatMap strE) w6) := Lib.hid (by
              have e : ln - 1 = tl.length := by have h2 := HLN.out; rw [HXT.out] at h2; simp at h2; omega
              rw [e]
              exact Src.ofSl (enc := strE) (sz := 1) Tryz.underlying24 (fun _ => rfl) strOne ((Win.sl (enc := strE) (sz := 1) (fun _ => rfl) HTL.out).keep HB6.out) _)
            have HTLN : Hid (tl.length ≤ 6) := Lib.hid (by have h2 := HLN.out; rw [HXT.out] at h2; simp at h2; omega)
            have HA6 := Lib.hid (HA4.out.below HB6.out)
            have k6_11 := kC HB6.out k5_l k5_11
            clear k5_11
            go_wp2_with (at_builtin; refine wpList_append_ch (.tmp 40) (.tmp 45) 24 24 lo 9 iS (.string ⟨#[]⟩) 1 16 Tryz.underlying24 hS hS0 hS1 hS2 rfl (by decide) (some ⟨w5.heap.size, 0, none⟩) 0 0 [] HF6.out (.slice (some ⟨g4, o4 + 1, none⟩) (ln - 1) (c4 - 1)) tl HSR6.out (by have := HTLN.out; simp; omega) (by omega) rfl rfl rfl rfl ?_)
            intro a8 c8 w8 us2 hus2 hf8 hc8 hk8
            obtain rfl : us2 = tl := by simpa using hus2.out
            have HF8 := Lib.hid hf8
            have HK8 := Lib.hid hk8
            have HC8 := Lib.hid hc8
            have hz8 := hc8.size
            have hgb6 := HA6.out.glt.2
            have hne5 : ∀ k, k < w5.heap.size → ¬ k ∈ blkOf (some ⟨w5.heap.size, 0, none⟩) := fun k hk h => by simp [blkOf] at h; omega
            have k8_11 : w8.cell? ⟨b, 11, none⟩ = some (.slice (some ⟨g4, o4, none⟩) ln c4) := (HC8.out.cell (p := ⟨b, 11, none⟩) HA6.out.lt (hne5 b k5_l)).trans k6_11
            have k8_f : ∀ o, w8.frozen? ⟨b, o, none⟩ = false := fun o => (HC8.out.frozen (p := ⟨b, o, none⟩) HA6.out.lt (hne5 b k5_l)).trans (HA6.out.fz o)
            have k8_l : b < w8.heap.size := Nat.lt_of_lt_of_le HA6.out.lt HC8.out.size
            clear hus2 hf8 hc8 hk8 k6_11
            go_wp2_with fail
            go_meet
            have hh := HA6.out
            have hg1 := HA4.out.glt.2
            have hb8 : ∀ k ∈ blkOf a8, w5.heap.size ≤ k := fun k hk => by
              rcases HK8.out k hk with h | h
              · simp [blkOf] at h; omega
              · omega
            have h8 : ScrAt lo b 0 { s1 with hist := us2 } g1 cc1 a8 c8 (w8.setCell ⟨b, 0 + 11, none⟩ (.slice a8 us2.length c8)) := ScrAt.hist2 (s := { s1 with hist := us }) (s' := s1) HA6.out HC8.out (hne5 b k5_l) (hne5 g1 hg1) (FreshIn.win HF8.out) (fun k hk => by have := hb8 k hk; omega)
            rw [HS2'.out.2] at h8
            refine ⟨a8, c8, h8, ?_, fun k hk => .inr (by have := hb8 k hk; omega), ?_, .inr (fun k hk => by have := hb8 k hk; omega)⟩
            rotate_left
            · exact ((HU4.out.2.2.below HB6.out).ch HC8.out (fun k hk => hne5 k (by have := (HU4.out.2.2.blk k hk).2; exact this))).ch (Ch.set1' w8 b 11 _) (fun k hk e => (HA1.out.hb k hk).1 e)
            refine ((HU4.out.1.below HB6.out k5_l).transN (N := (· ∈ blkOf (some ⟨w5.heap.size, 0, none⟩))) (Upd.ofCh (S := (· ∈ blkOf (some ⟨w5.heap.size, 0, none⟩))) HC8.out (by omega) (hne5 b k5_l) (fun i hi => .inl hi)) (fun i hi => .inr (by simp [blkOf] at hi; omega))).set1'' (by omega) (by omega) _
          · have h6' : ¬ (6 : Int) < (ln : Int) := by omega
            have HS2' : Hid (({ s1 with hist := us } : Scr) = s2) := Lib.hid (by
              have h3 : ¬ 6 < (s1.hist ++ [rowT s1 0]).length := by rw [← HH.out, HLN.out]; exact h6
              rw [← HS2.out, HH.out, pushH_one h3]
              simp)
            go_wp2_with fail
            go_meet
            rw [HS2'.out] at HA4
            refine ⟨a4, c4, HA4.out, HU4.out.1, HU4.out.2.1, HU4.out.2.2, ?_⟩
            rcases HSM4.out with ⟨h1, h2⟩ | h1
            · exact .inl ⟨h1, h2, [rowT s1 0], by rw [← HS2'.out]; exact HH.out⟩
            · exact .inr (fun k hk => by rw [h1 k hk]; exact HBX2.out.size)
        · have ht0' : ((t : Int) == 0) = false := by simp [ht0]
          go_wp2_with fail
          go_meet
          have hs2' : s2 = s1 := by rw [← HS2.out, if_neg ht0]
          exact ⟨ah1, dh1, by rw [hs2']; exact HA1.out, Upd.refl, fun _ hi => .inl hi, HA1.out.win, .inl ⟨rfl, rfl, [], by rw [hs2']; simp⟩⟩
      case rest =>
        obtain ⟨ah2, dh2, ha2, hu2, hh2, hwo2, hoo2⟩ := hcut
        obtain ⟨w9, hw9⟩ : ∃ x, x = wc := ⟨_, rfl⟩
        subst hw9
        have HA2 := Lib.hid ha2
        have HU2 := Lib.hid hu2
        have HH2 := Lib.hid hh2
        have hbA : ∀ k ∈ blkOf ah, k < w.heap.size := fun k hk => (HS.out.win.blk k hk).2
        have HWO2 : Hid (Win strE 9 1 lo w9 ah dh s.hist ∧ OldH ah dh s.hist ah2 dh2 s2.hist) := Lib.hid (by
          refine ⟨?_, ?_⟩
          · rcases HOO1.out with ⟨h1, h2, tl, h3⟩ | h1
            · subst h1 h2
              rw [h3] at hwo2
              exact Win.pre (enc := strE) (sz := 1) (fun _ => rfl) hwo2
            · refine HWO1.out.ch hu2.ch (fun k hk => ?_)
              rintro (h | h | h)
              · exact (HS.out.hb k hk).1 h
              · rcases HG1.out with h4 | h4
                · exact (HS.out.hb k hk).2 (h.trans h4)
                · have := hbA k hk; omega
              · exact h1 k h hk
          · rcases hoo2 with ⟨h1, h2, tl, h3⟩ | h1
            · rcases HOO1.out with ⟨h4, h5, tl2, h6⟩ | h4
              · exact .inl ⟨h1.trans h4, h2.trans h5, tl2 ++ tl, by rw [h3, h6, List.append_assoc]⟩
              · exact .inr (fun k hk => h4 k (by rw [← h1]; exact hk))
            · exact .inr (fun k hk hk2 => by have := h1 k hk; have := hbA k hk2; omega))
        have hg1A : ∀ k ∈ blkOf ah, ¬ k = g1 := fun k hk e => by
          rcases HG1.out with h4 | h4
          · exact (HS.out.hb k hk).2 (e.trans h4)
          · have := hbA k hk; omega
        have HG1A := Lib.hid hg1A
        clear hwo2 hoo2 hg1A hbA
        have hz2 := hu2.size
        obtain ⟨wd, hwd⟩ : ∃ n, s2.w = n := ⟨_, rfl⟩
        obtain ⟨n2, hn2⟩ : ∃ n, s2.cells.length = n := ⟨_, rfl⟩
        have hsw : s1.w = wd := by rw [← hwd, ← HS2.out]
        have hsc : s2.cells = s1.cells := by rw [← HS2.out]
        have hn240 : n2 ≤ 240 := by rw [← hn2, hsc, HOK1.out.cn]; exact Nat.mul_le_mul HOK1.out.w2 HOK1.out.h2
        have hbw : (bt + 1) * wd ≤ n2 := by rw [← hn2, hsc, HOK1.out.cn, hsw, Nat.mul_comm]; exact Nat.mul_le_mul_left _ hbt1
        have htbw : t * wd ≤ bt * wd := mul_le_of htb
        obtain ⟨p, hp⟩ : ∃ p, t * wd = p := ⟨_, rfl⟩
        obtain ⟨q, hq⟩ : ∃ q, bt * wd = q := ⟨_, rfl⟩
        obtain ⟨r, hr⟩ : ∃ r, (bt + 1) * wd = r := ⟨_, rfl⟩
        have hrq : r = q + wd := by rw [← hr, ← hq]; exact Nat.succ_mul _ _
        have hpi : (t : Int) * (wd : Int) = (p : Int) := by rw [← hp]; exact (Int.natCast_mul _ _).symm
        have hqi : (bt : Int) * (wd : Int) = (q : Int) := by rw [← hq]; exact (Int.natCast_mul _ _).symm
        have hri : ((bt : Int) + 1) * (wd : Int) = (r : Int) := by rw [← hr]; exact (Int.natCast_mul (bt + 1) wd).symm
        rw [hr] at hbw
        rw [hp, hq] at htbw
        have HUP : Hid (({ s2 with cells := clrL q r (shU p q wd s2.cells) } : Scr) = scU1 true t bt s1) := Lib.hid (by
          subst hp hq hr
          rw [up1_sh htb (by rw [hn2]; exact hbw)]
          unfold scU1
          rw [← HS2.out]
          simp [hsw])
        have HWD := Lib.hid hwd
        have HN2 := Lib.hid hn2
        have hwd24 : wd ≤ 24 := by rw [← hsw]; exact HOK1.out.w2
        have hwd2 : 2 ≤ wd := by rw [← hsw]; exact HOK1.out.w1
        clear ha2 hu2 hh2 hwd hn2 hsw hsc hp hq hr
        have z_0 : w9.cell? ⟨b, 0, none⟩ = some (.int .i64 wd) := by rw [← HWD.out]; exact HA2.out.c0
        go_wp2_with fail
        go_loopw [9] (fun iv wi => ∃ i : Nat, p ≤ i ∧ i ≤ q ∧ iv = .int .i64 i ∧ Hid (ScrAt lo b 0 { s2 with cells := shU p i wd s2.cells } g1 cc1 ah2 dh2 wi ∧ Ch (· = g1) w9 wi)) (fun iv _ => q - (intOf iv).toNat)
        case atStart => exact ⟨p, Nat.le_refl _, htbw, rfl, Lib.hid ⟨by rw [shU_none]; exact HA2.out, Ch.refl⟩⟩
        case round =>
          obtain ⟨i, hpi2, hiq, rfl, HI⟩ := hrel
          have hwn : i + wd ≤ s2.cells.length := by rw [HN2.out]; omega
          have hlen : (shU p i wd s2.cells).length = n2 := (shU_len hpi2 hwn).trans HN2.out
          have i_0 : wr.cell? ⟨b, 0, none⟩ = some (.int .i64 wd) := by rw [← HWD.out]; exact HI.out.1.c0
          have i_10 : wr.cell? ⟨b, 10, none⟩ = some (.slice (some ⟨g1, 0, none⟩) n2 cc1) := by rw [← hlen]; exact HI.out.1.c10
          have HLEN := Lib.hid hlen
          clear hlen hwn
          by_cases hlt : i < q
          · have hlt' : (i : Int) < (q : Int) := by omega
            obtain ⟨j, hj⟩ : ∃ j, i + wd = j := ⟨_, rfl⟩
            have hji : (i : Int) + (wd : Int) = (j : Int) := by omega
            have hjn : j < n2 := by omega
            have hjn' : (j : Int) < (n2 : Int) := by omega
            have hin' : (i : Int) < (n2 : Int) := by omega
            have hwj : IntKind.i64.wrap (j : Int) = (j : Int) := IntWalk.i64_in _ ⟨by omega, by omega⟩
            have hj0 : (0 : Int) ≤ (j : Int) := by omega
            have hi0 : (0 : Int) ≤ (i : Int) := by omega
            have hj2 : i + wd < s2.cells.length := by rw [HN2.out, hj]; exact hjn
            obtain ⟨c, hc⟩ : ∃ c, s2.cells[i + wd] = c := ⟨_, rfl⟩
            have hj3 : i + wd < (shU p i wd s2.cells).length := by rw [HLEN.out, hj]; exact hjn
            have hcj := HI.out.1.cell (i := i + wd) hj3
            have hci := HI.out.1.cell (i := i) (show i < (shU p i wd s2.cells).length by rw [HLEN.out]; omega)
            have hat : ({ s2 with cells := shU p i wd s2.cells } : Scr).cells[i + wd]'hj3 = c := (shU_at hpi2 hj2 hj3).trans hc
            rw [hat, hj] at hcj
            obtain ⟨c_1, c_2⟩ := hcj
            obtain ⟨e_1, e_2⟩ := hci
            have HNX : Hid ((shU p i wd s2.cells).set i c = shU p (i + 1) wd s2.cells) := Lib.hid (by rw [← hc]; exact shU_next hpi2 hj2)
            have g_f := HI.out.1.gfz
            have g_l := HI.out.1.glt.2
            have HD : Hid (ScrAt lo b 0 { s2 with cells := shU p (i + 1) wd s2.cells } g1 cc1 ah2 dh2 ((wr.drew.setCell ⟨g1, i * 2, none⟩ (.int .i64 c.1)).setCell ⟨g1, i * 2 + 1, none⟩ (.int .i64 c.2)) ∧ Ch (· = g1) w9 ((wr.drew.setCell ⟨g1, i * 2, none⟩ (.int .i64 c.1)).setCell ⟨g1, i * 2 + 1, none⟩ (.int .i64 c.2))) := Lib.hid (by
              have h1 := HI.out.1.drew.setC (i := i) (show i < (shU p i wd s2.cells).length by rw [HLEN.out]; omega) c
              refine ⟨?_, ((HI.out.2.drew).trans (Ch.set1' _ g1 (i * 2) _) (fun _ h => .inl h)).trans (Ch.set1' _ g1 (i * 2 + 1) _) (fun _ h => .inl h)⟩
              have h2 := HNX.out
              simp only at h1
              rwa [h2] at h1)
            clear hat hc hj3 hj2
            go_upto_region 10 with fail
            have hSc6 := And.intro i_0 (And.intro i_10 (And.intro c_1 c_2))
            refine wp_region_G (fun w' => w'.cell? ⟨b, 0, none⟩ = some (.int .i64 wd) ∧ w'.cell? ⟨b, 10, none⟩ = some (.slice (some ⟨g1, 0, none⟩) n2 cc1) ∧ w'.cell? ⟨g1, j * 2, none⟩ = some (.int .i64 c.1) ∧ w'.cell? ⟨g1, j * 2 + 1, none⟩ = some (.int .i64 c.2)) (fun i => i == 18) (by kernel_rfl) hSc6 ?_
            refine tW ?_ 0 rfl ?_ ?_; rotate_left
            · intro w' hSw; go_simp; try rfl
            try simp only [Act.put,j1,j2,j3,j4,j5,j6]
            refine tW ?_ 1 rfl ?_ ?_; rotate_left
            · intro w' hSw; go_simp; try rfl
            try simp only [Act.put,j1,j2,j3,j4,j5,j6]
            refine tW ?_ 2 rfl ?_ ?_; rotate_left
            · intro w' hSw; go_simp; try rfl
            try simp only [Act.put,j1,j2,j3,j4,j5,j6]
            refine tL ?_ 3 rfl hSc6 ?_ ?_; rotate_left
            · intro w' hSw; obtain ⟨s0, s1, s2, s3⟩ := hSw; go_simp; try rfl
            try simp only [Act.put,j1,j2,j3,j4,j5,j6]
            refine tW ?_ 4 rfl ?_ ?_; rotate_left
            · intro w' hSw; go_simp; try rfl
            try simp only [Act.put,j1,j2,j3,j4,j5,j6]
            refine tW ?_ 5 rfl ?_ ?_; rotate_left
            · intro w' hSw; go_simp; try rfl
            try simp only [Act.put,j1,j2,j3,j4,j5,j6]
            refine tW ?_ 6 rfl ?_ ?_; rotate_left
            · intro w' hSw; go_simp; try rfl
            try simp only [Act.put,j1,j2,j3,j4,j5,j6]
            refine tW ?_ 7 rfl ?_ ?_; rotate_left
            · intro w' hSw; go_simp; try rfl
            try simp only [Act.put,j1,j2,j3,j4,j5,j6]
            refine tL ?_ 8 rfl hSc6 ?_ ?_; rotate_left
            · intro w' hSw; obtain ⟨s0, s1, s2, s3⟩ := hSw; go_simp; try rfl
            try simp only [Act.put,j1,j2,j3,j4,j5,j6]
            refine tW ?_ 9 rfl ?_ ?_; rotate_left
            · intro w' hSw; go_simp; try rfl
            try simp only [Act.put,j1,j2,j3,j4,j5,j6]
            refine tW ?_ 10 rfl ?_ ?_; rotate_left
            · intro w' hSw; go_simp; try rfl
            try simp only [Act.put,j1,j2,j3,j4,j5,j6]
            refine tW ?_ 11 rfl ?_ ?_; rotate_left
            · intro w' hSw; go_simp; try rfl
            try simp only [Act.put,j1,j2,j3,j4,j5,j6]
            refine tW ?_ 12 rfl ?_ ?_; rotate_left
            · intro w' hSw; go_simp; try rfl
            try simp only [Act.put,j1,j2,j3,j4,j5,j6]
            refine tL ?_ 13 rfl hSc6 ?_ ?_; rotate_left
            · intro w' hSw; obtain ⟨s0, s1, s2, s3⟩ := hSw; go_simp; try rfl
            try simp only [Act.put,j1,j2,j3,j4,j5,j6]
            refine tW ?_ 14 rfl ?_ ?_; rotate_left
            · intro w' hSw; go_simp; try rfl
            try simp only [Act.put,j1,j2,j3,j4,j5,j6]
            refine tW ?_ 15 rfl ?_ ?_; rotate_left
            · intro w' hSw; go_simp; try rfl
            try simp only [Act.put,j1,j2,j3,j4,j5,j6]
            refine tL ?_ 16 rfl hSc6 ?_ ?_; rotate_left
            · intro w' hSw; obtain ⟨s0, s1, s2, s3⟩ := hSw; go_simp; try rfl
            try simp only [Act.put,j1,j2,j3,j4,j5,j6]
            refine tW ?_ 17 rfl ?_ ?_; rotate_left
            · intro w' hSw; go_simp; try rfl
            try simp only [Act.put,j1,j2,j3,j4,j5,j6]
            refine wpAnyG_one (i := 18) (by kernel_rfl) rfl hSc6 (fun K' hK => ?_)
            simp only [j1,j2,j3]
            go_simp
            refine hK.out _ _ (Or.inl rfl) ?_
            clear hK K'
            try simp only [Act.put,j1,j2,j3,j4,j5,j6]
            refine wpAnyG_done (by kernel_rfl) ?_ _
            go_wp2_with fail
            go_roundw
            case rel => exact ⟨i + 1, by omega, by omega, by go_num, HD⟩
            case measure => simp [intOf]; omega
          · obtain rfl : i = q := by omega
            have HRQ := Lib.hid hrq
            have hri2 : i ≤ r := by omega
            clear hrq
            have hwr : IntKind.i64.wrap (r : Int) = (r : Int) := IntWalk.i64_in _ ⟨by omega, by omega⟩
            have hwi : IntKind.i64.wrap (i : Int) = (i : Int) := IntWalk.i64_in _ ⟨by omega, by omega⟩
            have hbt24 : bt ≤ 10 := by have := HOK1.out.h2; omega
            have hwb : IntKind.i64.wrap ((bt : Int) + 1) = (bt : Int) + 1 := IntWalk.i64_in _ ⟨by omega, by omega⟩
            go_upto_region 11 with fail
            have hSc7 := i_0
            refine wp_region_G (fun w' => w'.cell? ⟨b, 0, none⟩ = some (.int .i64 wd)) (fun i => false) (by kernel_rfl) hSc7 ?_
            refine tW ?_ 0 rfl ?_ ?_; rotate_left
            · intro w' hSw; go_simp; try rfl
            try simp only [Act.put,j1,j2,j3,j4,j5,j6]
            refine tW ?_ 1 rfl ?_ ?_; rotate_left
            · intro w' hSw; go_simp; try rfl
            try simp only [Act.put,j1,j2,j3,j4,j5,j6]
            refine tW ?_ 2 rfl ?_ ?_; rotate_left
            · intro w' hSw; go_simp; try rfl
            try simp only [Act.put,j1,j2,j3,j4,j5,j6]
            refine tW ?_ 3 rfl ?_ ?_; rotate_left
            · intro w' hSw; go_simp; try rfl
            try simp only [Act.put,j1,j2,j3,j4,j5,j6]
            refine tW ?_ 4 rfl ?_ ?_; rotate_left
            · intro w' hSw; go_simp; try rfl
            try simp only [Act.put,j1,j2,j3,j4,j5,j6]
            refine tL ?_ 5 rfl hSc7 ?_ ?_; rotate_left
            · intro w' hSw; go_simp; try rfl
            try simp only [Act.put,j1,j2,j3,j4,j5,j6]
            refine tW ?_ 6 rfl ?_ ?_; rotate_left
            · intro w' hSw; go_simp; try rfl
            try simp only [Act.put,j1,j2,j3,j4,j5,j6]
            refine tW ?_ 7 rfl ?_ ?_; rotate_left
            · intro w' hSw; go_simp; try rfl
            try simp only [Act.put,j1,j2,j3,j4,j5,j6]
            refine tW ?_ 8 rfl ?_ ?_; rotate_left
            · intro w' hSw; go_simp; try rfl
            try simp only [Act.put,j1,j2,j3,j4,j5,j6]
            refine tW ?_ 9 rfl ?_ ?_; rotate_left
            · intro w' hSw; go_simp; try rfl
            try simp only [Act.put,j1,j2,j3,j4,j5,j6]
            refine tW ?_ 10 rfl ?_ ?_; rotate_left
            · intro w' hSw; go_simp; try rfl
            try simp only [Act.put,j1,j2,j3,j4,j5,j6]
            refine tW ?_ 11 rfl ?_ ?_; rotate_left
            · intro w' hSw; go_simp; try rfl
            try simp only [Act.put,j1,j2,j3,j4,j5,j6]
            refine tL ?_ 12 rfl hSc7 ?_ ?_; rotate_left
            · intro w' hSw; go_simp; try rfl
            try simp only [Act.put,j1,j2,j3,j4,j5,j6]
            refine tW ?_ 13 rfl ?_ ?_; rotate_left
            · intro w' hSw; go_simp; try rfl
            try simp only [Act.put,j1,j2,j3,j4,j5,j6]
            refine wpAnyG_one (i := 14) (by kernel_rfl) rfl hSc7 (fun K' hK => ?_)
            simp only [j1,j2,j3]
            go_simp
            go_at_call 118
            refine (clear_c lo b { s2 with cells := shU p i wd s2.cells } g1 cc1 ah2 dh2 _ i r HI.out.1.drew hri2 (by show r ≤ (shU p i wd s2.cells).length; rw [HLEN.out]; omega) (by show (shU p i wd s2.cells).length ≤ 240; rw [HLEN.out]; exact hn240)).mono ?_
            rintro e x1 ⟨rfl, hax, hcx⟩
            have HAX := Lib.hid hax
            have HCX : Hid (Ch (· = g1) w9 x1) := Lib.hid (HI.out.2.drew.trans hcx (fun _ h => .inl h))
            have hSc8 : x1.cell? ⟨b, 0, none⟩ = some (.int .i64 wd) := by rw [← HWD.out]; exact HAX.out.c0
            clear hax hcx
            refine hK.out _ _ (Or.inr hSc8) ?_
            clear hK K'
            try simp only [Act.put,j1,j2,j3,j4,j5,j6]
            refine wpAnyG_done (by kernel_rfl) ?_ _
            go_wp2_with fail
            go_roundw
            case rel =>
              refine ⟨k + 1, m - 1, by omega, by go_num, Lib.hid ⟨g1, cc1, ah2, dh2, ?_, ?_, HG1.out, fun i hi => ?_, HWO2.out.1.ch HCX.out (fun k hk e => HG1A.out k hk e), ?_⟩⟩
              · rw [HK1.out, ← HUP.out]
                exact HAX.out
              · refine HU1.out.transN (N := fun i => i = g1 ∨ i ∈ blkOf ah1) (HU2.out.transN (Upd.ofCh (S := fun i => i = g1 ∨ i ∈ blkOf ah1) HCX.out (by have := HA2.out.lt; omega) (fun e => HA2.out.gb e.symm) (fun i hi => .inl (.inl hi))) (fun i hi => .inl hi)) (fun i hi => ?_)
                rcases hi with hi | hi
                · subst hi
                  rcases HG1.out with h | h
                  · exact .inl (.inl h)
                  · exact .inr h
                · rcases HH1.out i hi with h | h
                  · exact .inl (.inr h)
                  · exact .inr h
              · rcases HH2.out i hi with h | h
                · exact HH1.out i h
                · exact .inr (by omega)
              · rw [HK1.out, ← HUP.out]
                exact HWO2.out.2
            case measure => simp [intOf]; omega
    · obtain rfl : m = 0 := by omega
      go_wp2_with fail
      go_loopw [3] (fun nv wx => nv = .int .i64 (0 : Nat) ∧ wx = wr) (fun _ _ => 0)
      case atStart => exact ⟨rfl, rfl⟩
      case round =>
        obtain ⟨rfl, rfl⟩ := hrel
        go_wp2_with fail
        refine bodyPost_end (v := .tuple #[]) (by simp [results, Tryz.results120]) rfl ?_
        obtain rfl : k = n := by omega
        rw [HS1.out]
        exact ⟨rfl, ⟨g1, cc1, ah1, dh1, HA1.out, HU1.out, HG1.out, HH1.out⟩, HWO1.out⟩
end
section
open Go.RowKit
theorem scrollD_c (lo b : Nat) (s : Scr) (g cc : Nat) (ah : Option Addr) (dh : Nat) (w : World) (t bt n : Nat) (h : ScrAt lo b 0 s g cc ah dh w) (ok : ScrOK s) (htb : t ≤ bt) (hbt : bt < s.h) (hn : n ≤ 10) :
    Calls Tryz.prog 120 #[.pointer (some ⟨b, 0, none⟩), .int .i64 t, .int .i64 bt, .int .i64 (-(n : Int))] w fun e w' => e = .returned (.tuple #[]) ∧ ScrAt lo b 0 (scD t bt n s) g cc ah dh w' ∧ Ch (· = g) w w' := by
  have HS := Lib.hid h
  have HOK := Lib.hid ok
  clear h ok
  obtain ⟨V, hV⟩ : ∃ v, -(n : Int) = v := ⟨_, rfl⟩
  have hVn : ¬ 0 < V := by omega
  rw [hV]
  go_enter Tryz.func120, Tryz.ntmps120
  go_wp2_with fail
  go_loopw [3] (fun nv wx => nv = .int .i64 V ∧ wx = w) (fun _ _ => 0)
  case atStart => exact ⟨rfl, rfl⟩
  case round =>
  obtain ⟨rfl, rfl⟩ := hrel
  rename World => w
  go_wp2_with fail
  go_loopw [3] (fun nv wr => ∃ (k m : Nat) (v : Int), k + m = n ∧ nv = .int .i64 v ∧ v = -(m : Int) ∧ Hid (ScrAt lo b 0 (scD t bt k s) g cc ah dh wr ∧ Ch (· = g) w wr)) (fun nv _ => (-(intOf nv)).toNat)
  case atStart => exact ⟨0, n, V, by omega, rfl, hV.symm, Lib.hid ⟨HS.out, Ch.refl⟩⟩
  case round =>
    obtain ⟨k, m, v, hkm, rfl, hv, HR⟩ := hrel
    obtain ⟨s2, hs2⟩ : ∃ x, scD t bt k s = x := ⟨_, rfl⟩
    have HK2 : Hid (scD t bt (k + 1) s = scD1 t bt s2) := Lib.hid (by rw [← hs2]; rfl)
    have ok2 : ScrOK s2 := by rw [← hs2]; exact HOK.out.okD htb hbt k
    have hbt2 : bt < s2.h := by rw [← hs2, (scD_same t bt s k).2.1]; exact hbt
    have HS2 := Lib.hid hs2
    have HRA := HR.out
    rw [hs2] at HRA
    have HA2 := Lib.hid HRA.1
    have HC2 := Lib.hid HRA.2
    have HOK2 := Lib.hid ok2
    clear HRA hs2 ok2 HR
    by_cases hm : 0 < m
    · have hm' : v < 0 := by omega
      obtain ⟨w9, hw9⟩ : ∃ x, x = wr := ⟨_, rfl⟩
      subst hw9
      obtain ⟨wd, hwd⟩ : ∃ n, s2.w = n := ⟨_, rfl⟩
      obtain ⟨n2, hn2⟩ : ∃ n, s2.cells.length = n := ⟨_, rfl⟩
      have hn240 : n2 ≤ 240 := by rw [← hn2, HOK2.out.cn]; exact Nat.mul_le_mul HOK2.out.w2 HOK2.out.h2
      have hbw : (bt + 1) * wd ≤ n2 := by rw [← hn2, HOK2.out.cn, hwd, Nat.mul_comm]; exact Nat.mul_le_mul_left _ hbt2
      have htbw : t * wd ≤ bt * wd := mul_le_of htb
      obtain ⟨p, hp⟩ : ∃ p, t * wd = p := ⟨_, rfl⟩
      obtain ⟨q, hq⟩ : ∃ q, (t + 1) * wd = q := ⟨_, rfl⟩
      obtain ⟨r, hr⟩ : ∃ r, (bt + 1) * wd = r := ⟨_, rfl⟩
      have hqp : q = p + wd := by rw [← hp, ← hq]; exact Nat.succ_mul _ _
      have hrq : q ≤ r := by rw [← hq, ← hr]; exact mul_le_of (by omega)
      have hpi : (t : Int) * (wd : Int) = (p : Int) := by rw [← hp]; exact (Int.natCast_mul _ _).symm
      have hqi : ((t : Int) + 1) * (wd : Int) = (q : Int) := by rw [← hq]; exact (Int.natCast_mul (t + 1) wd).symm
      have hri : ((bt : Int) + 1) * (wd : Int) = (r : Int) := by rw [← hr]; exact (Int.natCast_mul (bt + 1) wd).symm
      rw [hr] at hbw
      have hwd24 : wd ≤ 24 := by rw [← hwd]; exact HOK2.out.w2
      have hwd2 : 2 ≤ wd := by rw [← hwd]; exact HOK2.out.w1
      have HUP : Hid (({ s2 with cells := clrL p q (shD r q wd s2.cells) } : Scr) = scD1 t bt s2) := Lib.hid (by
        subst hp hq hr
        rw [dn1_sh htb (by rw [hn2]; exact hbw)]
        unfold scD1
        simp [hwd])
      have hbt24 : bt ≤ 10 := by have := HOK2.out.h2; omega
      have HWD := Lib.hid hwd
      have HN2 := Lib.hid hn2
      have HQP := Lib.hid hqp
      have hpq : p ≤ q := by omega
      have hwq : wd ≤ q := by omega
      clear hwd hn2 hp hq hr htbw hqp
      have z_0 : w9.cell? ⟨b, 0, none⟩ = some (.int .i64 wd) := by rw [← HWD.out]; exact HA2.out.c0
      go_wp2_with fail
      go_loopw [10] (fun iv wi => ∃ (mm : Nat) (u : Int), q ≤ mm ∧ mm ≤ r ∧ iv = .int .i64 u ∧ u + 1 = (mm : Int) ∧ Hid (ScrAt lo b 0 { s2 with cells := shD r mm wd s2.cells } g cc ah dh wi ∧ Ch (· = g) w9 wi)) (fun iv _ => (intOf iv + 1).toNat)
      case atStart => exact ⟨r, (r : Int) - 1, hrq, Nat.le_refl _, by go_num, by omega, Lib.hid ⟨by rw [shD_none]; exact HA2.out, Ch.refl⟩⟩
      case round =>
        obtain ⟨mm, u, hqm, hmr, rfl, hu, HI⟩ := hrel
        have hlen : (shD r mm wd s2.cells).length = n2 := (shD_len (by omega) hmr (by rw [HN2.out]; omega)).trans HN2.out
        have i_0 : wr.cell? ⟨b, 0, none⟩ = some (.int .i64 wd) := by rw [← HWD.out]; exact HI.out.1.c0
        have i_10 : wr.cell? ⟨b, 10, none⟩ = some (.slice (some ⟨g, 0, none⟩) n2 cc) := by rw [← hlen]; exact HI.out.1.c10
        have HLEN := Lib.hid hlen
        clear hlen
        by_cases hlt : q < mm
        · obtain ⟨i, rfl⟩ : ∃ i, mm = i + 1 := ⟨mm - 1, by omega⟩
          obtain rfl : u = (i : Int) := by omega
          have hlt' : (q : Int) ≤ (i : Int) := by omega
          obtain ⟨j, hj⟩ : ∃ j, i - wd = j := ⟨_, rfl⟩
          have hji : (i : Int) - (wd : Int) = (j : Int) := by omega
          have hjn : j < n2 := by omega
          have hjn' : (j : Int) < (n2 : Int) := by omega
          have hin' : (i : Int) < (n2 : Int) := by omega
          have hwj : IntKind.i64.wrap (j : Int) = (j : Int) := IntWalk.i64_in _ ⟨by omega, by omega⟩
          have hj0 : (0 : Int) ≤ (j : Int) := by omega
          have hi0 : (0 : Int) ≤ (i : Int) := by omega
          have hj2 : i - wd < s2.cells.length := by rw [HN2.out, hj]; exact hjn
          obtain ⟨c, hc⟩ : ∃ c, s2.cells[i - wd] = c := ⟨_, rfl⟩
          have hj3 : i - wd < (shD r (i + 1) wd s2.cells).length := by rw [HLEN.out, hj]; exact hjn
          have hcj := HI.out.1.cell (i := i - wd) hj3
          have hci := HI.out.1.cell (i := i) (show i < (shD r (i + 1) wd s2.cells).length by rw [HLEN.out]; omega)
          have hat : ({ s2 with cells := shD r (i + 1) wd s2.cells } : Scr).cells[i - wd]'hj3 = c := (shD_at (by omega) (by omega) (by rw [HN2.out]; omega) hj2 hj3).trans hc
          rw [hat, hj] at hcj
          obtain ⟨c_1, c_2⟩ := hcj
          obtain ⟨e_1, e_2⟩ := hci
          have HNX : Hid ((shD r (i + 1) wd s2.cells).set i c = shD r i wd s2.cells) := Lib.hid (by rw [← hc]; exact shD_next (by omega) (by omega) (by rw [HN2.out]; omega) hj2)
          have g_f := HI.out.1.gfz
          have g_l := HI.out.1.glt.2
          have HD : Hid (ScrAt lo b 0 { s2 with cells := shD r i wd s2.cells } g cc ah dh ((wr.drew.setCell ⟨g, i * 2, none⟩ (.int .i64 c.1)).setCell ⟨g, i * 2 + 1, none⟩ (.int .i64 c.2)) ∧ Ch (· = g) w9 ((wr.drew.setCell ⟨g, i * 2, none⟩ (.int .i64 c.1)).setCell ⟨g, i * 2 + 1, none⟩ (.int .i64 c.2))) := Lib.hid (by
            have h1 := HI.out.1.drew.setC (i := i) (show i < (shD r (i + 1) wd s2.cells).length by rw [HLEN.out]; omega) c
            refine ⟨?_, ((HI.out.2.drew).trans (Ch.set1' _ g (i * 2) _) (fun _ h => .inl h)).trans (Ch.set1' _ g (i * 2 + 1) _) (fun _ h => .inl h)⟩
            have h2 := HNX.out
            simp only at h1
            rwa [h2] at h1)
          clear hat hc hj3 hj2 hu
          go_upto_region 17 with fail
          have hSc6 := And.intro i_0 (And.intro i_10 (And.intro c_1 c_2))
          refine wp_region_G (fun w' => w'.cell? ⟨b, 0, none⟩ = some (.int .i64 wd) ∧ w'.cell? ⟨b, 10, none⟩ = some (.slice (some ⟨g, 0, none⟩) n2 cc) ∧ w'.cell? ⟨g, j * 2, none⟩ = some (.int .i64 c.1) ∧ w'.cell? ⟨g, j * 2 + 1, none⟩ = some (.int .i64 c.2)) (fun i => i == 18) (by kernel_rfl) hSc6 ?_
          refine tW ?_ 0 rfl ?_ ?_; rotate_left
          · intro w' hSw; go_simp; try rfl
          try simp only [Act.put,j1,j2,j3,j4,j5,j6]
          refine tW ?_ 1 rfl ?_ ?_; rotate_left
          · intro w' hSw; go_simp; try rfl
          try simp only [Act.put,j1,j2,j3,j4,j5,j6]
          refine tW ?_ 2 rfl ?_ ?_; rotate_left
          · intro w' hSw; go_simp; try rfl
          try simp only [Act.put,j1,j2,j3,j4,j5,j6]
          refine tL ?_ 3 rfl hSc6 ?_ ?_; rotate_left
          · intro w' hSw; obtain ⟨s0, s1, s2, s3⟩ := hSw; go_simp; try rfl
          try simp only [Act.put,j1,j2,j3,j4,j5,j6]
          refine tW ?_ 4 rfl ?_ ?_; rotate_left
          · intro w' hSw; go_simp; try rfl
          try simp only [Act.put,j1,j2,j3,j4,j5,j6]
          refine tW ?_ 5 rfl ?_ ?_; rotate_left
          · intro w' hSw; go_simp; try rfl
          try simp only [Act.put,j1,j2,j3,j4,j5,j6]
          refine tW ?_ 6 rfl ?_ ?_; rotate_left
          · intro w' hSw; go_simp; try rfl
          try simp only [Act.put,j1,j2,j3,j4,j5,j6]
          refine tW ?_ 7 rfl ?_ ?_; rotate_left
          · intro w' hSw; go_simp; try rfl
          try simp only [Act.put,j1,j2,j3,j4,j5,j6]
          refine tL ?_ 8 rfl hSc6 ?_ ?_; rotate_left
          · intro w' hSw; obtain ⟨s0, s1, s2, s3⟩ := hSw; go_simp; try rfl
          try simp only [Act.put,j1,j2,j3,j4,j5,j6]
          refine tW ?_ 9 rfl ?_ ?_; rotate_left
          · intro w' hSw; go_simp; try rfl
          try simp only [Act.put,j1,j2,j3,j4,j5,j6]
          refine tW ?_ 10 rfl ?_ ?_; rotate_left
          · intro w' hSw; go_simp; try rfl
          try simp only [Act.put,j1,j2,j3,j4,j5,j6]
          refine tW ?_ 11 rfl ?_ ?_; rotate_left
          · intro w' hSw; go_simp; try rfl
          try simp only [Act.put,j1,j2,j3,j4,j5,j6]
          refine tW ?_ 12 rfl ?_ ?_; rotate_left
          · intro w' hSw; go_simp; try rfl
          try simp only [Act.put,j1,j2,j3,j4,j5,j6]
          refine tL ?_ 13 rfl hSc6 ?_ ?_; rotate_left
          · intro w' hSw; obtain ⟨s0, s1, s2, s3⟩ := hSw; go_simp; try rfl
          try simp only [Act.put,j1,j2,j3,j4,j5,j6]
          refine tW ?_ 14 rfl ?_ ?_; rotate_left
          · intro w' hSw; go_simp; try rfl
          try simp only [Act.put,j1,j2,j3,j4,j5,j6]
          refine tW ?_ 15 rfl ?_ ?_; rotate_left
          · intro w' hSw; go_simp; try rfl
          try simp only [Act.put,j1,j2,j3,j4,j5,j6]
          refine tL ?_ 16 rfl hSc6 ?_ ?_; rotate_left
          · intro w' hSw; obtain ⟨s0, s1, s2, s3⟩ := hSw; go_simp; try rfl
          try simp only [Act.put,j1,j2,j3,j4,j5,j6]
          refine tW ?_ 17 rfl ?_ ?_; rotate_left
          · intro w' hSw; go_simp; try rfl
          try simp only [Act.put,j1,j2,j3,j4,j5,j6]
          refine wpAnyG_one (i := 18) (by kernel_rfl) rfl hSc6 (fun K' hK => ?_)
          simp only [j1,j2,j3]
          go_simp
          refine hK.out _ _ (Or.inl rfl) ?_
          clear hK K'
          try simp only [Act.put,j1,j2,j3,j4,j5,j6]
          refine wpAnyG_done (by kernel_rfl) ?_ _
          go_wp2_with fail
          go_roundw
          case rel => first | exact ⟨i, by omega, by omega, by omega, HD⟩ | exact ⟨i, (i : Int) - 1, by omega, by omega, by go_num, by omega, HD⟩
          case measure => simp [intOf]; omega
        · obtain rfl : mm = q := by omega
          have hu' : ¬ (mm : Int) ≤ u := by omega
          have hwr : IntKind.i64.wrap (mm : Int) = (mm : Int) := IntWalk.i64_in _ ⟨by omega, by omega⟩
          have hwp : IntKind.i64.wrap (p : Int) = (p : Int) := IntWalk.i64_in _ ⟨by omega, by omega⟩
          have hwb : IntKind.i64.wrap ((t : Int) + 1) = (t : Int) + 1 := IntWalk.i64_in _ ⟨by omega, by omega⟩
          go_upto_region 18 with fail
          have hSc7 := i_0
          refine wp_region_G (fun w' => w'.cell? ⟨b, 0, none⟩ = some (.int .i64 wd)) (fun i => false) (by kernel_rfl) hSc7 ?_
          refine tW ?_ 0 rfl ?_ ?_; rotate_left
          · intro w' hSw; go_simp; try rfl
          try simp only [Act.put,j1,j2,j3,j4,j5,j6]
          refine tW ?_ 1 rfl ?_ ?_; rotate_left
          · intro w' hSw; go_simp; try rfl
          try simp only [Act.put,j1,j2,j3,j4,j5,j6]
          refine tW ?_ 2 rfl ?_ ?_; rotate_left
          · intro w' hSw; go_simp; try rfl
          try simp only [Act.put,j1,j2,j3,j4,j5,j6]
          refine tW ?_ 3 rfl ?_ ?_; rotate_left
          · intro w' hSw; go_simp; try rfl
          try simp only [Act.put,j1,j2,j3,j4,j5,j6]
          refine tW ?_ 4 rfl ?_ ?_; rotate_left
          · intro w' hSw; go_simp; try rfl
          try simp only [Act.put,j1,j2,j3,j4,j5,j6]
          refine tL ?_ 5 rfl hSc7 ?_ ?_; rotate_left
          · intro w' hSw; go_simp; try rfl
          try simp only [Act.put,j1,j2,j3,j4,j5,j6]
          refine tW ?_ 6 rfl ?_ ?_; rotate_left
          · intro w' hSw; go_simp; try rfl
          try simp only [Act.put,j1,j2,j3,j4,j5,j6]
          refine tW ?_ 7 rfl ?_ ?_; rotate_left
          · intro w' hSw; go_simp; try rfl
          try simp only [Act.put,j1,j2,j3,j4,j5,j6]
          refine tW ?_ 8 rfl ?_ ?_; rotate_left
          · intro w' hSw; go_simp; try rfl
          try simp only [Act.put,j1,j2,j3,j4,j5,j6]
          refine tW ?_ 9 rfl ?_ ?_; rotate_left
          · intro w' hSw; go_simp; try rfl
          try simp only [Act.put,j1,j2,j3,j4,j5,j6]
          refine tW ?_ 10 rfl ?_ ?_; rotate_left
          · intro w' hSw; go_simp; try rfl
          try simp only [Act.put,j1,j2,j3,j4,j5,j6]
          refine tW ?_ 11 rfl ?_ ?_; rotate_left
          · intro w' hSw; go_simp; try rfl
          try simp only [Act.put,j1,j2,j3,j4,j5,j6]
          refine tL ?_ 12 rfl hSc7 ?_ ?_; rotate_left
          · intro w' hSw; go_simp; try rfl
          try simp only [Act.put,j1,j2,j3,j4,j5,j6]
          refine tW ?_ 13 rfl ?_ ?_; rotate_left
          · intro w' hSw; go_simp; try rfl
          try simp only [Act.put,j1,j2,j3,j4,j5,j6]
          refine wpAnyG_one (i := 14) (by kernel_rfl) rfl hSc7 (fun K' hK => ?_)
          simp only [j1,j2,j3]
          go_simp
          go_at_call 118
          refine (clear_c lo b { s2 with cells := shD r mm wd s2.cells } g cc ah dh _ p mm HI.out.1.drew hpq (by show mm ≤ (shD r mm wd s2.cells).length; rw [HLEN.out]; omega) (by show (shD r mm wd s2.cells).length ≤ 240; rw [HLEN.out]; exact hn240)).mono ?_
          rintro e x1 ⟨rfl, hax, hcx⟩
          have HAX := Lib.hid hax
          have HCX : Hid (Ch (· = g) w9 x1) := Lib.hid (HI.out.2.drew.trans hcx (fun _ h => .inl h))
          have hSc8 : x1.cell? ⟨b, 0, none⟩ = some (.int .i64 wd) := by rw [← HWD.out]; exact HAX.out.c0
          clear hax hcx
          refine hK.out _ _ (Or.inr hSc8) ?_
          clear hK K'
          try simp only [Act.put,j1,j2,j3,j4,j5,j6]
          refine wpAnyG_done (by kernel_rfl) ?_ _
          go_wp2_with fail
          go_roundw
          case rel =>
            refine ⟨k + 1, m - 1, v + 1, by omega, by go_num, by omega, Lib.hid ⟨?_, HC2.out.trans HCX.out (fun _ h => .inl h)⟩⟩
            rw [HK2.out, ← HUP.out]
            exact HAX.out
          case measure => simp [intOf]; omega
    · obtain rfl : m = 0 := by omega
      have hv' : ¬ v < 0 := by omega
      go_wp2_with fail
      refine bodyPost_end (v := .tuple #[]) (by simp [results, Tryz.results120]) rfl ?_
      obtain rfl : k = n := by omega
      rw [HS2.out]
      exact ⟨rfl, HA2.out, HC2.out⟩
end
section
open Go.RowKit
theorem down_c (lo b : Nat) (s : Scr) (g cc : Nat) (ah : Option Addr) (dh : Nat) (w : World) (h : ScrAt lo b 0 s g cc ah dh w) (ok : ScrOK s) (hlo : lo ≤ w.heap.size) :
    Calls Tryz.prog 115 #[.pointer (some ⟨b, 0, none⟩)] w fun e w' => e = .returned (.tuple #[]) ∧ ScrR lo b 0 (downS s) g ah w w' := by
  have HS := Lib.hid h
  have HOK := Lib.hid ok
  have hw1 := ok.w1
  have hw2 := ok.w2
  have hh1 := ok.h1
  have hh2 := ok.h2
  have hx := ok.hx
  have hy := ok.hy
  clear h ok
  have hwr0 : IntKind.i64.wrap ((s.h : Int) - 1) = (s.h : Int) - 1 := IntWalk.i64_in _ ⟨by omega, by omega⟩
  have hwr1 : IntKind.i64.wrap ((s.y : Int) + 1) = (s.y : Int) + 1 := IntWalk.i64_in _ ⟨by omega, by omega⟩
  have k_0 := HS.out.e0
  have k_1 := HS.out.e1
  have k_2 := HS.out.e2
  have k_3 := HS.out.e3
  have k_4 := HS.out.e4
  have k_5 := HS.out.e5
  have k_6 := HS.out.e6
  have k_7 := HS.out.e7
  have k_8 := HS.out.e8
  have k_9 := HS.out.e9
  have k_10 := HS.out.e10
  have k_11 := HS.out.e11
  have k_f := HS.out.fz
  have k_l := HS.out.lt
  by_cases hyb : s.y = s.bot
  · have hyb' : ((s.y : Int) == (s.bot : Int)) = true := by simp [hyb]
    go_enter Tryz.func115, Tryz.ntmps115
    go_upto_region 0 with fail
    have hSc1 := And.intro k_3 k_6
    refine wp_region_G (fun w' => w'.cell? ⟨b, 3, none⟩ = some (.int .i64 (s.y : Int)) ∧ w'.cell? ⟨b, 6, none⟩ = some (.int .i64 (s.bot : Int))) (fun i => false) (by kernel_rfl) hSc1 ?_
    refine tW ?_ 0 rfl ?_ ?_; rotate_left
    · intro w' hSw; go_simp; try rfl
    try simp only [Act.put,j1,j2,j3,j4,j5,j6]
    refine tW ?_ 1 rfl ?_ ?_; rotate_left
    · intro w' hSw; go_simp; try rfl
    try simp only [Act.put,j1,j2,j3,j4,j5,j6]
    refine tW ?_ 2 rfl ?_ ?_; rotate_left
    · intro w' hSw; go_simp; try rfl
    try simp only [Act.put,j1,j2,j3,j4,j5,j6]
    refine tW ?_ 3 rfl ?_ ?_; rotate_left
    · intro w' hSw; go_simp; try rfl
    try simp only [Act.put,j1,j2,j3,j4,j5,j6]
    refine tL ?_ 4 rfl hSc1 ?_ ?_; rotate_left
    · intro w' hSw; obtain ⟨s0, s1⟩ := hSw; go_simp; try rfl
    try simp only [Act.put,j1,j2,j3,j4,j5,j6]
    refine tW ?_ 5 rfl ?_ ?_; rotate_left
    · intro w' hSw; go_simp; try rfl
    try simp only [Act.put,j1,j2,j3,j4,j5,j6]
    refine tW ?_ 6 rfl ?_ ?_; rotate_left
    · intro w' hSw; go_simp; try rfl
    try simp only [Act.put,j1,j2,j3,j4,j5,j6]
    refine tW ?_ 7 rfl ?_ ?_; rotate_left
    · intro w' hSw; go_simp; try rfl
    try simp only [Act.put,j1,j2,j3,j4,j5,j6]
    refine tW ?_ 8 rfl ?_ ?_; rotate_left
    · intro w' hSw; go_simp; try rfl
    try simp only [Act.put,j1,j2,j3,j4,j5,j6]
    refine tL ?_ 9 rfl hSc1 ?_ ?_; rotate_left
    · intro w' hSw; obtain ⟨s0, s1⟩ := hSw; go_simp; try rfl
    try simp only [Act.put,j1,j2,j3,j4,j5,j6]
    refine tW ?_ 10 rfl ?_ ?_; rotate_left
    · intro w' hSw; go_simp; try rfl
    try simp only [Act.put,j1,j2,j3,j4,j5,j6]
    refine wpAnyG_done (by kernel_rfl) ?_ _
    obtain ⟨v1, hv1⟩ : ∃ x, w.drew = x := ⟨_, rfl⟩
    have HBv1 : Hid (Below w.heap.size w v1) := Lib.hid (by rw [← hv1]; exact (Below.refl _ _).drew)
    rw [hv1]
    have hzv1 := HBv1.out.size
    have Hv1 := Lib.hid (HS.out.below HBv1.out)
    have HUv1 : Hid (Upd b 0 (0 + 12) (fun k => k = g ∨ k ∈ blkOf ah) w v1) := Lib.hid (Upd.refl'.below HBv1.out HS.out.lt)
    clear hv1 k_f k_l k_0 k_1 k_2 k_3 k_4 k_5 k_6 k_7 k_8 k_9 k_10 k_11 hSc1
    have k_0 := Hv1.out.e0
    have k_1 := Hv1.out.e1
    have k_2 := Hv1.out.e2
    have k_3 := Hv1.out.e3
    have k_4 := Hv1.out.e4
    have k_5 := Hv1.out.e5
    have k_6 := Hv1.out.e6
    have k_7 := Hv1.out.e7
    have k_8 := Hv1.out.e8
    have k_9 := Hv1.out.e9
    have k_10 := Hv1.out.e10
    have k_11 := Hv1.out.e11
    have k_f := Hv1.out.fz
    have k_l := Hv1.out.lt
    go_upto_region 1 with fail
    have hSc2 := And.intro k_5 k_6
    refine wp_region_G (fun w' => w'.cell? ⟨b, 5, none⟩ = some (.int .i64 (s.top : Int)) ∧ w'.cell? ⟨b, 6, none⟩ = some (.int .i64 (s.bot : Int))) (fun i => false) (by kernel_rfl) hSc2 ?_
    refine tW ?_ 0 rfl ?_ ?_; rotate_left
    · intro w' hSw; go_simp; try rfl
    try simp only [Act.put,j1,j2,j3,j4,j5,j6]
    refine tW ?_ 1 rfl ?_ ?_; rotate_left
    · intro w' hSw; go_simp; try rfl
    try simp only [Act.put,j1,j2,j3,j4,j5,j6]
    refine tW ?_ 2 rfl ?_ ?_; rotate_left
    · intro w' hSw; go_simp; try rfl
    try simp only [Act.put,j1,j2,j3,j4,j5,j6]
    refine tW ?_ 3 rfl ?_ ?_; rotate_left
    · intro w' hSw; go_simp; try rfl
    try simp only [Act.put,j1,j2,j3,j4,j5,j6]
    refine tW ?_ 4 rfl ?_ ?_; rotate_left
    · intro w' hSw; go_simp; try rfl
    try simp only [Act.put,j1,j2,j3,j4,j5,j6]
    refine tL ?_ 5 rfl hSc2 ?_ ?_; rotate_left
    · intro w' hSw; obtain ⟨s0, s1⟩ := hSw; go_simp; try rfl
    try simp only [Act.put,j1,j2,j3,j4,j5,j6]
    refine tW ?_ 6 rfl ?_ ?_; rotate_left
    · intro w' hSw; go_simp; try rfl
    try simp only [Act.put,j1,j2,j3,j4,j5,j6]
    refine tW ?_ 7 rfl ?_ ?_; rotate_left
    · intro w' hSw; go_simp; try rfl
    try simp only [Act.put,j1,j2,j3,j4,j5,j6]
    refine tW ?_ 8 rfl ?_ ?_; rotate_left
    · intro w' hSw; go_simp; try rfl
    try simp only [Act.put,j1,j2,j3,j4,j5,j6]
    refine tW ?_ 9 rfl ?_ ?_; rotate_left
    · intro w' hSw; go_simp; try rfl
    try simp only [Act.put,j1,j2,j3,j4,j5,j6]
    refine tL ?_ 10 rfl hSc2 ?_ ?_; rotate_left
    · intro w' hSw; obtain ⟨s0, s1⟩ := hSw; go_simp; try rfl
    try simp only [Act.put,j1,j2,j3,j4,j5,j6]
    refine wpAnyG_one (i := 11) (by kernel_rfl) rfl hSc2 (fun K' hK => ?_)
    simp only [j1,j2,j3]
    go_simp
    refine (scrollU_c lo b s g cc ah dh _ s.top s.bot 1 Hv1.out.drew HOK.out (Nat.le_of_lt HOK.out.tb) HOK.out.bh (by omega) (by show lo ≤ v1.heap.size; omega)).mono ?_
    rintro e x1 ⟨rfl, ⟨g1, cc1, ah1, dh1, ha, hu, hg, hh⟩, _⟩
    have hSx : x1.cell? ⟨b, 5, none⟩ = some (.int .i64 s.top) ∧ x1.cell? ⟨b, 6, none⟩ = some (.int .i64 s.bot) := ⟨ha.c5, ha.c6⟩
    have HR : Hid (ScrR lo b 0 (downS s) g ah w x1) := Lib.hid (by
      have e1 : downS s = scU true s.top s.bot 1 s := if_pos hyb
      rw [e1]
      exact ScrR.trans Hv1.out.drew HUv1.out.drew (.inl rfl) (fun _ h => .inl h) ⟨g1, cc1, ah1, dh1, ha, hu, hg, hh⟩)
    clear ha hu hg hh
    refine hK.out _ _ (Or.inr hSx) ?_
    clear hK K'
    try simp only [Act.put,j1,j2,j3,j4,j5,j6]
    refine wpAnyG_done (by kernel_rfl) ?_ _
    go_wp2_with fail
    first | refine bodyPost_end (v := .tuple #[]) (by simp [results, Tryz.results115]) rfl ?_ | refine bodyPost_ret (v := .tuple #[]) (by simp [results, Tryz.results115]) rfl ?_
    exact ⟨rfl, HR.out⟩
  · have hyb' : ((s.y : Int) == (s.bot : Int)) = false := beq_eq_false_iff_ne.2 (by omega)
    go_enter Tryz.func115, Tryz.ntmps115
    go_upto_region 0 with fail
    have hSc3 := And.intro k_3 k_6
    refine wp_region_G (fun w' => w'.cell? ⟨b, 3, none⟩ = some (.int .i64 (s.y : Int)) ∧ w'.cell? ⟨b, 6, none⟩ = some (.int .i64 (s.bot : Int))) (fun i => false) (by kernel_rfl) hSc3 ?_
    refine tW ?_ 0 rfl ?_ ?_; rotate_left
    · intro w' hSw; go_simp; try rfl
    try simp only [Act.put,j1,j2,j3,j4,j5,j6]
    refine tW ?_ 1 rfl ?_ ?_; rotate_left
    · intro w' hSw; go_simp; try rfl
    try simp only [Act.put,j1,j2,j3,j4,j5,j6]
    refine tW ?_ 2 rfl ?_ ?_; rotate_left
    · intro w' hSw; go_simp; try rfl
    try simp only [Act.put,j1,j2,j3,j4,j5,j6]
    refine tW ?_ 3 rfl ?_ ?_; rotate_left
    · intro w' hSw; go_simp; try rfl
    try simp only [Act.put,j1,j2,j3,j4,j5,j6]
    refine tL ?_ 4 rfl hSc3 ?_ ?_; rotate_left
    · intro w' hSw; obtain ⟨s0, s1⟩ := hSw; go_simp; try rfl
    try simp only [Act.put,j1,j2,j3,j4,j5,j6]
    refine tW ?_ 5 rfl ?_ ?_; rotate_left
    · intro w' hSw; go_simp; try rfl
    try simp only [Act.put,j1,j2,j3,j4,j5,j6]
    refine tW ?_ 6 rfl ?_ ?_; rotate_left
    · intro w' hSw; go_simp; try rfl
    try simp only [Act.put,j1,j2,j3,j4,j5,j6]
    refine tW ?_ 7 rfl ?_ ?_; rotate_left
    · intro w' hSw; go_simp; try rfl
    try simp only [Act.put,j1,j2,j3,j4,j5,j6]
    refine tW ?_ 8 rfl ?_ ?_; rotate_left
    · intro w' hSw; go_simp; try rfl
    try simp only [Act.put,j1,j2,j3,j4,j5,j6]
    refine tL ?_ 9 rfl hSc3 ?_ ?_; rotate_left
    · intro w' hSw; obtain ⟨s0, s1⟩ := hSw; go_simp; try rfl
    try simp only [Act.put,j1,j2,j3,j4,j5,j6]
    refine tW ?_ 10 rfl ?_ ?_; rotate_left
    · intro w' hSw; go_simp; try rfl
    try simp only [Act.put,j1,j2,j3,j4,j5,j6]
    refine wpAnyG_done (by kernel_rfl) ?_ _
    obtain ⟨v1, hv1⟩ : ∃ x, w.drew = x := ⟨_, rfl⟩
    have HBv1 : Hid (Below w.heap.size w v1) := Lib.hid (by rw [← hv1]; exact (Below.refl _ _).drew)
    rw [hv1]
    have hzv1 := HBv1.out.size
    have Hv1 := Lib.hid (HS.out.below HBv1.out)
    have HUv1 : Hid (Upd b 0 (0 + 12) (fun k => k = g ∨ k ∈ blkOf ah) w v1) := Lib.hid (Upd.refl'.below HBv1.out HS.out.lt)
    clear hv1 k_f k_l k_0 k_1 k_2 k_3 k_4 k_5 k_6 k_7 k_8 k_9 k_10 k_11 hSc3
    have k_0 := Hv1.out.e0
    have k_1 := Hv1.out.e1
    have k_2 := Hv1.out.e2
    have k_3 := Hv1.out.e3
    have k_4 := Hv1.out.e4
    have k_5 := Hv1.out.e5
    have k_6 := Hv1.out.e6
    have k_7 := Hv1.out.e7
    have k_8 := Hv1.out.e8
    have k_9 := Hv1.out.e9
    have k_10 := Hv1.out.e10
    have k_11 := Hv1.out.e11
    have k_f := Hv1.out.fz
    have k_l := Hv1.out.lt
    go_upto_region 2 with fail
    have hSc4 := And.intro k_1 k_3
    refine wp_region_G (fun w' => w'.cell? ⟨b, 1, none⟩ = some (.int .i64 (s.h : Int)) ∧ w'.cell? ⟨b, 3, none⟩ = some (.int .i64 (s.y : Int))) (fun i => i == 17) (by kernel_rfl) hSc4 ?_
    refine tW ?_ 0 rfl ?_ ?_; rotate_left
    · intro w' hSw; go_simp; try rfl
    try simp only [Act.put,j1,j2,j3,j4,j5,j6]
    refine tW ?_ 1 rfl ?_ ?_; rotate_left
    · intro w' hSw; go_simp; try rfl
    try simp only [Act.put,j1,j2,j3,j4,j5,j6]
    refine tW ?_ 2 rfl ?_ ?_; rotate_left
    · intro w' hSw; go_simp; try rfl
    try simp only [Act.put,j1,j2,j3,j4,j5,j6]
    refine tW ?_ 3 rfl ?_ ?_; rotate_left
    · intro w' hSw; go_simp; try rfl
    try simp only [Act.put,j1,j2,j3,j4,j5,j6]
    refine tW ?_ 4 rfl ?_ ?_; rotate_left
    · intro w' hSw; go_simp; try rfl
    try simp only [Act.put,j1,j2,j3,j4,j5,j6]
    refine tL ?_ 5 rfl hSc4 ?_ ?_; rotate_left
    · intro w' hSw; obtain ⟨s0, s1⟩ := hSw; go_simp; try rfl
    try simp only [Act.put,j1,j2,j3,j4,j5,j6]
    refine tW ?_ 6 rfl ?_ ?_; rotate_left
    · intro w' hSw; go_simp; try rfl
    try simp only [Act.put,j1,j2,j3,j4,j5,j6]
    refine tW ?_ 7 rfl ?_ ?_; rotate_left
    · intro w' hSw; go_simp; try rfl
    try simp only [Act.put,j1,j2,j3,j4,j5,j6]
    refine tW ?_ 8 rfl ?_ ?_; rotate_left
    · intro w' hSw; go_simp; try rfl
    try simp only [Act.put,j1,j2,j3,j4,j5,j6]
    refine tW ?_ 9 rfl ?_ ?_; rotate_left
    · intro w' hSw; go_simp; try rfl
    try simp only [Act.put,j1,j2,j3,j4,j5,j6]
    refine tW ?_ 10 rfl ?_ ?_; rotate_left
    · intro w' hSw; go_simp; try rfl
    try simp only [Act.put,j1,j2,j3,j4,j5,j6]
    refine tL ?_ 11 rfl hSc4 ?_ ?_; rotate_left
    · intro w' hSw; obtain ⟨s0, s1⟩ := hSw; go_simp; try rfl
    try simp only [Act.put,j1,j2,j3,j4,j5,j6]
    refine tW ?_ 12 rfl ?_ ?_; rotate_left
    · intro w' hSw; go_simp; try rfl
    try simp only [Act.put,j1,j2,j3,j4,j5,j6]
    refine tW ?_ 13 rfl ?_ ?_; rotate_left
    · intro w' hSw; go_simp; try rfl
    try simp only [Act.put,j1,j2,j3,j4,j5,j6]
    refine tW ?_ 14 rfl ?_ ?_; rotate_left
    · intro w' hSw; go_simp; try rfl
    try simp only [Act.put,j1,j2,j3,j4,j5,j6]
    refine tW ?_ 15 rfl ?_ ?_; rotate_left
    · intro w' hSw; go_simp; try rfl
    try simp only [Act.put,j1,j2,j3,j4,j5,j6]
    refine tW ?_ 16 rfl ?_ ?_; rotate_left
    · intro w' hSw; go_simp; try rfl
    try simp only [Act.put,j1,j2,j3,j4,j5,j6]
    refine wpAnyG_one (i := 17) (by kernel_rfl) rfl hSc4 (fun K' hK => ?_)
    simp only [j1,j2,j3]
    go_simp
    refine hK.out _ _ (Or.inl rfl) ?_
    clear hK K'
    try simp only [Act.put,j1,j2,j3,j4,j5,j6]
    refine wpAnyG_done (by kernel_rfl) ?_ _
    go_wp2_with fail
    first | refine bodyPost_end (v := .tuple #[]) (by simp [results, Tryz.results115]) rfl ?_ | refine bodyPost_ret (v := .tuple #[]) (by simp [results, Tryz.results115]) rfl ?_
    have e1 : downS s = { s with y := min (s.h - 1) (s.y + 1) } := if_neg hyb
    rw [e1]
    refine ⟨rfl, ?_⟩
    refine ScrR.mk (cc := cc) (dh := dh) ?_ ?_
    · repeat (with_reducible refine ScrAt.drew ?_)
      exact Hv1.out.setv3 _ (by omega)
    · repeat (with_reducible refine Upd.drew ?_)
      exact HUv1.out.set3 _
theorem up_c (lo b : Nat) (s : Scr) (g cc : Nat) (ah : Option Addr) (dh : Nat) (w : World) (h : ScrAt lo b 0 s g cc ah dh w) (ok : ScrOK s) (hlo : lo ≤ w.heap.size) :
    Calls Tryz.prog 116 #[.pointer (some ⟨b, 0, none⟩)] w fun e w' => e = .returned (.tuple #[]) ∧ ScrR lo b 0 (upS s) g ah w w' := by
  have HS := Lib.hid h
  have HOK := Lib.hid ok
  have hw1 := ok.w1
  have hw2 := ok.w2
  have hh1 := ok.h1
  have hh2 := ok.h2
  have hx := ok.hx
  have hy := ok.hy
  clear h ok
  have hwr0 : IntKind.i64.wrap ((s.y : Int) - 1) = (s.y : Int) - 1 := IntWalk.i64_in _ ⟨by omega, by omega⟩
  have k_0 := HS.out.e0
  have k_1 := HS.out.e1
  have k_2 := HS.out.e2
  have k_3 := HS.out.e3
  have k_4 := HS.out.e4
  have k_5 := HS.out.e5
  have k_6 := HS.out.e6
  have k_7 := HS.out.e7
  have k_8 := HS.out.e8
  have k_9 := HS.out.e9
  have k_10 := HS.out.e10
  have k_11 := HS.out.e11
  have k_f := HS.out.fz
  have k_l := HS.out.lt
  by_cases hyb : s.y = s.top
  · have hyb' : ((s.y : Int) == (s.top : Int)) = true := by simp [hyb]
    go_enter Tryz.func116, Tryz.ntmps116
    go_upto_region 0 with fail
    have hSc1 := And.intro k_3 k_5
    refine wp_region_G (fun w' => w'.cell? ⟨b, 3, none⟩ = some (.int .i64 (s.y : Int)) ∧ w'.cell? ⟨b, 5, none⟩ = some (.int .i64 (s.top : Int))) (fun i => false) (by kernel_rfl) hSc1 ?_
    refine tW ?_ 0 rfl ?_ ?_; rotate_left
    · intro w' hSw; go_simp; try rfl
    try simp only [Act.put,j1,j2,j3,j4,j5,j6]
    refine tW ?_ 1 rfl ?_ ?_; rotate_left
    · intro w' hSw; go_simp; try rfl
    try simp only [Act.put,j1,j2,j3,j4,j5,j6]
    refine tW ?_ 2 rfl ?_ ?_; rotate_left
    · intro w' hSw; go_simp; try rfl
    try simp only [Act.put,j1,j2,j3,j4,j5,j6]
    refine tW ?_ 3 rfl ?_ ?_; rotate_left
    · intro w' hSw; go_simp; try rfl
    try simp only [Act.put,j1,j2,j3,j4,j5,j6]
    refine tL ?_ 4 rfl hSc1 ?_ ?_; rotate_left
    · intro w' hSw; obtain ⟨s0, s1⟩ := hSw; go_simp; try rfl
    try simp only [Act.put,j1,j2,j3,j4,j5,j6]
    refine tW ?_ 5 rfl ?_ ?_; rotate_left
    · intro w' hSw; go_simp; try rfl
    try simp only [Act.put,j1,j2,j3,j4,j5,j6]
    refine tW ?_ 6 rfl ?_ ?_; rotate_left
    · intro w' hSw; go_simp; try rfl
    try simp only [Act.put,j1,j2,j3,j4,j5,j6]
    refine tW ?_ 7 rfl ?_ ?_; rotate_left
    · intro w' hSw; go_simp; try rfl
    try simp only [Act.put,j1,j2,j3,j4,j5,j6]
    refine tW ?_ 8 rfl ?_ ?_; rotate_left
    · intro w' hSw; go_simp; try rfl
    try simp only [Act.put,j1,j2,j3,j4,j5,j6]
    refine tL ?_ 9 rfl hSc1 ?_ ?_; rotate_left
    · intro w' hSw; obtain ⟨s0, s1⟩ := hSw; go_simp; try rfl
    try simp only [Act.put,j1,j2,j3,j4,j5,j6]
    refine tW ?_ 10 rfl ?_ ?_; rotate_left
    · intro w' hSw; go_simp; try rfl
    try simp only [Act.put,j1,j2,j3,j4,j5,j6]
    refine wpAnyG_done (by kernel_rfl) ?_ _
    obtain ⟨v1, hv1⟩ : ∃ x, w.drew = x := ⟨_, rfl⟩
    have HBv1 : Hid (Below w.heap.size w v1) := Lib.hid (by rw [← hv1]; exact (Below.refl _ _).drew)
    rw [hv1]
    have hzv1 := HBv1.out.size
    have Hv1 := Lib.hid (HS.out.below HBv1.out)
    have HUv1 : Hid (Upd b 0 (0 + 12) (fun k => k = g ∨ k ∈ blkOf ah) w v1) := Lib.hid (Upd.refl'.below HBv1.out HS.out.lt)
    clear hv1 k_f k_l k_0 k_1 k_2 k_3 k_4 k_5 k_6 k_7 k_8 k_9 k_10 k_11 hSc1
    have k_0 := Hv1.out.e0
    have k_1 := Hv1.out.e1
    have k_2 := Hv1.out.e2
    have k_3 := Hv1.out.e3
    have k_4 := Hv1.out.e4
    have k_5 := Hv1.out.e5
    have k_6 := Hv1.out.e6
    have k_7 := Hv1.out.e7
    have k_8 := Hv1.out.e8
    have k_9 := Hv1.out.e9
    have k_10 := Hv1.out.e10
    have k_11 := Hv1.out.e11
    have k_f := Hv1.out.fz
    have k_l := Hv1.out.lt
    go_upto_region 1 with fail
    have hSc2 := And.intro k_5 k_6
    refine wp_region_G (fun w' => w'.cell? ⟨b, 5, none⟩ = some (.int .i64 (s.top : Int)) ∧ w'.cell? ⟨b, 6, none⟩ = some (.int .i64 (s.bot : Int))) (fun i => false) (by kernel_rfl) hSc2 ?_
    refine tW ?_ 0 rfl ?_ ?_; rotate_left
    · intro w' hSw; go_simp; try rfl
    try simp only [Act.put,j1,j2,j3,j4,j5,j6]
    refine tW ?_ 1 rfl ?_ ?_; rotate_left
    · intro w' hSw; go_simp; try rfl
    try simp only [Act.put,j1,j2,j3,j4,j5,j6]
    refine tW ?_ 2 rfl ?_ ?_; rotate_left
    · intro w' hSw; go_simp; try rfl
    try simp only [Act.put,j1,j2,j3,j4,j5,j6]
    refine tW ?_ 3 rfl ?_ ?_; rotate_left
    · intro w' hSw; go_simp; try rfl
    try simp only [Act.put,j1,j2,j3,j4,j5,j6]
    refine tW ?_ 4 rfl ?_ ?_; rotate_left
    · intro w' hSw; go_simp; try rfl
    try simp only [Act.put,j1,j2,j3,j4,j5,j6]
    refine tL ?_ 5 rfl hSc2 ?_ ?_; rotate_left
    · intro w' hSw; obtain ⟨s0, s1⟩ := hSw; go_simp; try rfl
    try simp only [Act.put,j1,j2,j3,j4,j5,j6]
    refine tW ?_ 6 rfl ?_ ?_; rotate_left
    · intro w' hSw; go_simp; try rfl
    try simp only [Act.put,j1,j2,j3,j4,j5,j6]
    refine tW ?_ 7 rfl ?_ ?_; rotate_left
    · intro w' hSw; go_simp; try rfl
    try simp only [Act.put,j1,j2,j3,j4,j5,j6]
    refine tW ?_ 8 rfl ?_ ?_; rotate_left
    · intro w' hSw; go_simp; try rfl
    try simp only [Act.put,j1,j2,j3,j4,j5,j6]
    refine tW ?_ 9 rfl ?_ ?_; rotate_left
    · intro w' hSw; go_simp; try rfl
    try simp only [Act.put,j1,j2,j3,j4,j5,j6]
    refine tL ?_ 10 rfl hSc2 ?_ ?_; rotate_left
    · intro w' hSw; obtain ⟨s0, s1⟩ := hSw; go_simp; try rfl
    try simp only [Act.put,j1,j2,j3,j4,j5,j6]
    refine wpAnyG_one (i := 11) (by kernel_rfl) rfl hSc2 (fun K' hK => ?_)
    simp only [j1,j2,j3]
    go_simp
    refine (scrollD_c lo b s g cc ah dh _ s.top s.bot 1 Hv1.out.drew HOK.out (Nat.le_of_lt HOK.out.tb) HOK.out.bh (by omega)).mono ?_
    rintro e x1 ⟨rfl, ha, hc⟩
    have hSx : x1.cell? ⟨b, 5, none⟩ = some (.int .i64 s.top) ∧ x1.cell? ⟨b, 6, none⟩ = some (.int .i64 s.bot) := ⟨ha.c5, ha.c6⟩
    have HR : Hid (ScrR lo b 0 (upS s) g ah w x1) := Lib.hid (by
      have e1 : upS s = scD s.top s.bot 1 s := if_pos hyb
      rw [e1]
      exact .mk ha (HUv1.out.drew.transN (Upd.ofCh (S := fun i => i = g) hc Hv1.out.lt (fun e => HS.out.gb e.symm) (fun i hi => .inl hi)) (fun i hi => .inl (.inl hi))))
    clear ha hc
    refine hK.out _ _ (Or.inr hSx) ?_
    clear hK K'
    try simp only [Act.put,j1,j2,j3,j4,j5,j6]
    refine wpAnyG_done (by kernel_rfl) ?_ _
    go_wp2_with fail
    first | refine bodyPost_end (v := .tuple #[]) (by simp [results, Tryz.results116]) rfl ?_ | refine bodyPost_ret (v := .tuple #[]) (by simp [results, Tryz.results116]) rfl ?_
    exact ⟨rfl, HR.out⟩
  · have hyb' : ((s.y : Int) == (s.top : Int)) = false := beq_eq_false_iff_ne.2 (by omega)
    go_enter Tryz.func116, Tryz.ntmps116
    go_upto_region 0 with fail
    have hSc3 := And.intro k_3 k_5
    refine wp_region_G (fun w' => w'.cell? ⟨b, 3, none⟩ = some (.int .i64 (s.y : Int)) ∧ w'.cell? ⟨b, 5, none⟩ = some (.int .i64 (s.top : Int))) (fun i => false) (by kernel_rfl) hSc3 ?_
    refine tW ?_ 0 rfl ?_ ?_; rotate_left
    · intro w' hSw; go_simp; try rfl
    try simp only [Act.put,j1,j2,j3,j4,j5,j6]
    refine tW ?_ 1 rfl ?_ ?_; rotate_left
    · intro w' hSw; go_simp; try rfl
    try simp only [Act.put,j1,j2,j3,j4,j5,j6]
    refine tW ?_ 2 rfl ?_ ?_; rotate_left
    · intro w' hSw; go_simp; try rfl
    try simp only [Act.put,j1,j2,j3,j4,j5,j6]
    refine tW ?_ 3 rfl ?_ ?_; rotate_left
    · intro w' hSw; go_simp; try rfl
    try simp only [Act.put,j1,j2,j3,j4,j5,j6]
    refine tL ?_ 4 rfl hSc3 ?_ ?_; rotate_left
    · intro w' hSw; obtain ⟨s0, s1⟩ := hSw; go_simp; try rfl
    try simp only [Act.put,j1,j2,j3,j4,j5,j6]
    refine tW ?_ 5 rfl ?_ ?_; rotate_left
    · intro w' hSw; go_simp; try rfl
    try simp only [Act.put,j1,j2,j3,j4,j5,j6]
    refine tW ?_ 6 rfl ?_ ?_; rotate_left
    · intro w' hSw; go_simp; try rfl
    try simp only [Act.put,j1,j2,j3,j4,j5,j6]
    refine tW ?_ 7 rfl ?_ ?_; rotate_left
    · intro w' hSw; go_simp; try rfl
    try simp only [Act.put,j1,j2,j3,j4,j5,j6]
    refine tW ?_ 8 rfl ?_ ?_; rotate_left
    · intro w' hSw; go_simp; try rfl
    try simp only [Act.put,j1,j2,j3,j4,j5,j6]
    refine tL ?_ 9 rfl hSc3 ?_ ?_; rotate_left
    · intro w' hSw; obtain ⟨s0, s1⟩ := hSw; go_simp; try rfl
    try simp only [Act.put,j1,j2,j3,j4,j5,j6]
    refine tW ?_ 10 rfl ?_ ?_; rotate_left
    · intro w' hSw; go_simp; try rfl
    try simp only [Act.put,j1,j2,j3,j4,j5,j6]
    refine wpAnyG_done (by kernel_rfl) ?_ _
    obtain ⟨v1, hv1⟩ : ∃ x, w.drew = x := ⟨_, rfl⟩
    have HBv1 : Hid (Below w.heap.size w v1) := Lib.hid (by rw [← hv1]; exact (Below.refl _ _).drew)
    rw [hv1]
    have hzv1 := HBv1.out.size
    have Hv1 := Lib.hid (HS.out.below HBv1.out)
    have HUv1 : Hid (Upd b 0 (0 + 12) (fun k => k = g ∨ k ∈ blkOf ah) w v1) := Lib.hid (Upd.refl'.below HBv1.out HS.out.lt)
    clear hv1 k_f k_l k_0 k_1 k_2 k_3 k_4 k_5 k_6 k_7 k_8 k_9 k_10 k_11 hSc3
    have k_0 := Hv1.out.e0
    have k_1 := Hv1.out.e1
    have k_2 := Hv1.out.e2
    have k_3 := Hv1.out.e3
    have k_4 := Hv1.out.e4
    have k_5 := Hv1.out.e5
    have k_6 := Hv1.out.e6
    have k_7 := Hv1.out.e7
    have k_8 := Hv1.out.e8
    have k_9 := Hv1.out.e9
    have k_10 := Hv1.out.e10
    have k_11 := Hv1.out.e11
    have k_f := Hv1.out.fz
    have k_l := Hv1.out.lt
    go_wp2_with fail
    first | refine bodyPost_end (v := .tuple #[]) (by simp [results, Tryz.results116]) rfl ?_ | refine bodyPost_ret (v := .tuple #[]) (by simp [results, Tryz.results116]) rfl ?_
    have e1 : upS s = { s with y := s.y - 1 } := if_neg hyb
    rw [e1]
    refine ⟨rfl, ?_⟩
    refine ScrR.mk (cc := cc) (dh := dh) ?_ ?_
    · repeat (with_reducible refine ScrAt.drew ?_)
      exact Hv1.out.setv3 _ (by omega)
    · repeat (with_reducible refine Upd.drew ?_)
      exact HUv1.out.set3 _
theorem ScrR.then {lo b : Nat} {s1 s2 : Scr} {g : Nat} {ah : Option Addr} {w w1 w2 : World} (h : ScrR lo b 0 s1 g ah w w1) (k : ∀ g1 cc1 ah1 dh1, ScrAt lo b 0 s1 g1 cc1 ah1 dh1 w1 → ScrR lo b 0 s2 g1 ah1 w1 w2) : ScrR lo b 0 s2 g ah w w2 := by
  obtain ⟨g1, cc1, ah1, dh1, ha, hu, hg, hh⟩ := h
  exact ScrR.trans ha hu hg hh (k _ _ _ _ ha)
theorem ScrR.size {lo b : Nat} {s1 : Scr} {g : Nat} {ah : Option Addr} {w w1 : World} (h : ScrR lo b 0 s1 g ah w w1) : w.heap.size ≤ w1.heap.size := by
  obtain ⟨g1, cc1, ah1, dh1, ha, hu, hg, hh⟩ := h
  exact hu.size
theorem print_c (lo b : Nat) (s : Scr) (g cc : Nat) (ah : Option Addr) (dh : Nat) (w : World) (n : Int) (h : ScrAt lo b 0 s g cc ah dh w) (ok : ScrOK s) (hlo : lo ≤ w.heap.size) :
    Calls Tryz.prog 79 #[.pointer (some ⟨b, 0, none⟩), .int .i64 n] w fun e w' => e = .returned (.tuple #[]) ∧ ScrR lo b 0 (printS s n) g ah w w' := by
  have HS := Lib.hid h
  have HOK := Lib.hid ok
  have hw1 := ok.w1
  have hw2 := ok.w2
  have hh1 := ok.h1
  have hh2 := ok.h2
  have hx := ok.hx
  have hy := ok.hy
  clear h ok
  have k_0 := HS.out.e0
  have k_1 := HS.out.e1
  have k_2 := HS.out.e2
  have k_3 := HS.out.e3
  have k_4 := HS.out.e4
  have k_5 := HS.out.e5
  have k_6 := HS.out.e6
  have k_7 := HS.out.e7
  have k_8 := HS.out.e8
  have k_9 := HS.out.e9
  have k_10 := HS.out.e10
  have k_11 := HS.out.e11
  have k_f := HS.out.fz
  have k_l := HS.out.lt
  go_enter Tryz.func79, Tryz.ntmps79
  go_upto_region 0 with fail
  have hSc1 := And.intro k_0 k_2
  refine wp_region_G (fun w' => w'.cell? ⟨b, 0, none⟩ = some (.int .i64 (s.w : Int)) ∧ w'.cell? ⟨b, 2, none⟩ = some (.int .i64 (s.x : Int))) (fun i => false) (by kernel_rfl) hSc1 ?_
  refine tW ?_ 0 rfl ?_ ?_; rotate_left
  · intro w' hSw; go_simp; try rfl
  try simp only [Act.put,j1,j2,j3,j4,j5,j6]
  refine tW ?_ 1 rfl ?_ ?_; rotate_left
  · intro w' hSw; go_simp; try rfl
  try simp only [Act.put,j1,j2,j3,j4,j5,j6]
  refine tW ?_ 2 rfl ?_ ?_; rotate_left
  · intro w' hSw; go_simp; try rfl
  try simp only [Act.put,j1,j2,j3,j4,j5,j6]
  refine tW ?_ 3 rfl ?_ ?_; rotate_left
  · intro w' hSw; go_simp; try rfl
  try simp only [Act.put,j1,j2,j3,j4,j5,j6]
  refine tL ?_ 4 rfl hSc1 ?_ ?_; rotate_left
  · intro w' hSw; obtain ⟨s0, s1⟩ := hSw; go_simp; try rfl
  try simp only [Act.put,j1,j2,j3,j4,j5,j6]
  refine tW ?_ 5 rfl ?_ ?_; rotate_left
  · intro w' hSw; go_simp; try rfl
  try simp only [Act.put,j1,j2,j3,j4,j5,j6]
  refine tW ?_ 6 rfl ?_ ?_; rotate_left
  · intro w' hSw; go_simp; try rfl
  try simp only [Act.put,j1,j2,j3,j4,j5,j6]
  refine tW ?_ 7 rfl ?_ ?_; rotate_left
  · intro w' hSw; go_simp; try rfl
  try simp only [Act.put,j1,j2,j3,j4,j5,j6]
  refine tW ?_ 8 rfl ?_ ?_; rotate_left
  · intro w' hSw; go_simp; try rfl
  try simp only [Act.put,j1,j2,j3,j4,j5,j6]
  refine tL ?_ 9 rfl hSc1 ?_ ?_; rotate_left
  · intro w' hSw; obtain ⟨s0, s1⟩ := hSw; go_simp; try rfl
  try simp only [Act.put,j1,j2,j3,j4,j5,j6]
  refine tW ?_ 10 rfl ?_ ?_; rotate_left
  · intro w' hSw; go_simp; try rfl
  try simp only [Act.put,j1,j2,j3,j4,j5,j6]
  refine wpAnyG_done (by kernel_rfl) ?_ _
  obtain ⟨v1, hv1⟩ : ∃ x, w.drew = x := ⟨_, rfl⟩
  have HBv1 : Hid (Below w.heap.size w v1) := Lib.hid (by rw [← hv1]; exact (Below.refl _ _).drew)
  rw [hv1]
  have hzv1 := HBv1.out.size
  have Hv1 := Lib.hid (HS.out.below HBv1.out)
  have HUv1 : Hid (Upd b 0 (0 + 12) (fun k => k = g ∨ k ∈ blkOf ah) w v1) := Lib.hid (Upd.refl'.below HBv1.out HS.out.lt)
  clear hv1 k_f k_l k_0 k_1 k_2 k_3 k_4 k_5 k_6 k_7 k_8 k_9 k_10 k_11 hSc1
  have k_0 := Hv1.out.e0
  have k_1 := Hv1.out.e1
  have k_2 := Hv1.out.e2
  have k_3 := Hv1.out.e3
  have k_4 := Hv1.out.e4
  have k_5 := Hv1.out.e5
  have k_6 := Hv1.out.e6
  have k_7 := Hv1.out.e7
  have k_8 := Hv1.out.e8
  have k_9 := Hv1.out.e9
  have k_10 := Hv1.out.e10
  have k_11 := Hv1.out.e11
  have k_f := Hv1.out.fz
  have k_l := Hv1.out.lt
  go_upto_if 14 with fail
  go_cut [] (fun wx => ScrR lo b 0 (wrapS s) g ah w wx)
  case first =>
    by_cases hxw : s.x = s.w
    · have hxw' : ((s.x : Int) == (s.w : Int)) = true := by simp [hxw]
      have HX : Hid (ScrAt lo b 0 { s with x := 0 } g cc ah dh (v1.setCell ⟨b, 2, none⟩ (.int .i64 0)) ∧ Upd b 0 (0 + 12) (fun k => k = g ∨ k ∈ blkOf ah) w (v1.setCell ⟨b, 2, none⟩ (.int .i64 0))) := Lib.hid ⟨Hv1.out.setv2 0 rfl, HUv1.out.set2 _⟩
      have hz : lo ≤ (v1.setCell ⟨b, 2, none⟩ (.int .i64 0)).heap.size := by have := HX.out.2.size; omega
      go_wp2_with fail
      refine (down_c lo b { s with x := 0 } g cc ah dh _ HX.out.1 (HOK.out.xy (x := 0) (y := s.y) (Nat.zero_le _) hy) hz).mono ?_
      rintro e x1 ⟨rfl, hr⟩
      have HR := Lib.hid hr
      clear hr
      go_wp2_with fail
      go_meet
      have e1 : wrapS s = downS { s with x := 0 } := if_pos hxw
      rw [e1]
      exact ScrR.trans HX.out.1 HX.out.2 (.inl rfl) (fun _ h => .inl h) HR.out
    · have hxw' : ((s.x : Int) == (s.w : Int)) = false := beq_eq_false_iff_ne.2 (by omega)
      go_wp2_with fail
      go_meet
      have e1 : wrapS s = s := if_neg hxw
      rw [e1]
      exact .mk Hv1.out HUv1.out
  case rest =>
    have HW := Lib.hid hcut
    obtain ⟨s1, hs1⟩ : ∃ x, wrapS s = x := ⟨_, rfl⟩
    obtain ⟨g1, cc1, ah1, dh1, ha, hu, hg, hh⟩ := hcut
    have hok := HOK.out.wrap
    rw [hs1] at ha hok
    have HA := Lib.hid ha
    have HUW := Lib.hid hu
    have HGG := Lib.hid hg
    have HHH := Lib.hid hh
    have HOK1 := Lib.hid hok.1
    have hx1 := hok.2
    have hpr : printS s n = putS s1 n := by unfold printS; rw [hs1]
    have HPR := Lib.hid hpr
    have hw2' := hok.1.w2
    have hh2' := hok.1.h2
    have hy' := hok.1.hy
    have hcn := hok.1.cn
    have hlk := hok.1.lk
    have hcur : s1.y * s1.w + s1.x < s1.cells.length := by
      have h1 : (s1.y + 1) * s1.w ≤ s1.h * s1.w := mul_le_of hy'
      rw [Nat.succ_mul] at h1
      rw [hcn, Nat.mul_comm s1.w s1.h]
      omega
    have hn240 : s1.cells.length ≤ 240 := by rw [hcn]; exact Nat.mul_le_mul hw2' hh2'
    obtain ⟨p, hp⟩ : ∃ p, s1.y * s1.w = p := ⟨_, rfl⟩
    have hpi : (s1.y : Int) * (s1.w : Int) = (p : Int) := by rw [← hp]; exact (Int.natCast_mul _ _).symm
    rw [hp] at hcur
    obtain ⟨i, hi⟩ : ∃ i, p + s1.x = i := ⟨_, rfl⟩
    have hii : (p : Int) + (s1.x : Int) = (i : Int) := by omega
    rw [hi] at hcur
    have HI : Hid (s1.y * s1.w + s1.x = i) := Lib.hid (by rw [hp, hi])
    obtain ⟨n2, hn2⟩ : ∃ n, s1.cells.length = n := ⟨_, rfl⟩
    have HCUR := Lib.hid hcur
    have hci := ha.cell hcur
    obtain ⟨e_1, e_2⟩ := hci
    have g_f := ha.gfz
    have g_l := ha.glt.2
    rw [hn2] at hcur hn240
    have HN2 := Lib.hid hn2
    have hwrp : IntKind.i64.wrap (p : Int) = (p : Int) := IntWalk.i64_in _ ⟨by omega, by omega⟩
    have hwri : IntKind.i64.wrap (i : Int) = (i : Int) := IntWalk.i64_in _ ⟨by omega, by omega⟩
    have hi0 : (0 : Int) ≤ (i : Int) := by omega
    have hin : (i : Int) < (n2 : Int) := by omega
    obtain ⟨w9, hw9⟩ : ∃ x, x = wc := ⟨_, rfl⟩
    subst hw9
    clear hs1 hok ha hu hg hh hpr hp hi hcn k_0 k_1 k_2 k_3 k_4 k_5 k_6 k_7 k_8 k_9 k_10 k_11 k_f k_l
    have k_0 := HA.out.e0
    have k_1 := HA.out.e1
    have k_2 := HA.out.e2
    have k_3 := HA.out.e3
    have k_4 := HA.out.e4
    have k_5 := HA.out.e5
    have k_6 := HA.out.e6
    have k_7 := HA.out.e7
    have k_8 := HA.out.e8
    have k_9 := HA.out.e9
    have k_10 := HA.out.e10
    have k_11 := HA.out.e11
    have k_f := HA.out.fz
    have k_l := HA.out.lt
    rw [hn2] at k_10
    clear hn2
    have HD : Hid (ScrAt lo b 0 { s1 with cells := s1.cells.set i (n, (s1.look : Int)) } g1 cc1 ah1 dh1 ((w9.setCell ⟨g1, i * 2, none⟩ (.int .i64 n)).setCell ⟨g1, i * 2 + 1, none⟩ (.int .i64 s1.look)).drew ∧ Upd b 0 (0 + 12) (fun k => k = g1 ∨ k ∈ blkOf ah1) w9 ((w9.setCell ⟨g1, i * 2, none⟩ (.int .i64 n)).setCell ⟨g1, i * 2 + 1, none⟩ (.int .i64 s1.look)).drew) := Lib.hid (by
      have h1 := HA.out.setC HCUR.out (n, (s1.look : Int))
      have hc : Ch (· = g1) w9 ((w9.setCell ⟨g1, i * 2, none⟩ (.int .i64 n)).setCell ⟨g1, i * 2 + 1, none⟩ (.int .i64 s1.look)).drew := ((Ch.set1' _ g1 (i * 2) _).trans (Ch.set1' _ g1 (i * 2 + 1) _) (fun _ h => .inl h)).drew
      exact ⟨h1.drew, Upd.ofCh hc HA.out.lt (fun e => HA.out.gb e.symm) (fun _ hi => .inl (.inl hi))⟩)
    go_upto_region 3 with fail
    have hSc3 := And.intro k_0 (And.intro k_2 (And.intro k_3 (And.intro k_4 k_10)))
    refine wp_region_G (fun w' => w'.cell? ⟨b, 0, none⟩ = some (.int .i64 s1.w) ∧ w'.cell? ⟨b, 2, none⟩ = some (.int .i64 s1.x) ∧ w'.cell? ⟨b, 3, none⟩ = some (.int .i64 s1.y) ∧ w'.cell? ⟨b, 4, none⟩ = some (.int .i64 s1.look) ∧ w'.cell? ⟨b, 10, none⟩ = some (.slice (some ⟨g1, 0, none⟩) n2 cc1)) (fun i => i == 30) (by kernel_rfl) hSc3 ?_
    refine tW ?_ 0 rfl ?_ ?_; rotate_left
    · intro w' hSw; go_simp; try rfl
    try simp only [Act.put,j1,j2,j3,j4,j5,j6]
    refine tW ?_ 1 rfl ?_ ?_; rotate_left
    · intro w' hSw; go_simp; try rfl
    try simp only [Act.put,j1,j2,j3,j4,j5,j6]
    refine tW ?_ 2 rfl ?_ ?_; rotate_left
    · intro w' hSw; go_simp; try rfl
    try simp only [Act.put,j1,j2,j3,j4,j5,j6]
    refine tW ?_ 3 rfl ?_ ?_; rotate_left
    · intro w' hSw; go_simp; try rfl
    try simp only [Act.put,j1,j2,j3,j4,j5,j6]
    refine tL ?_ 4 rfl hSc3 ?_ ?_; rotate_left
    · intro w' hSw; obtain ⟨s0, s1', s2, s3, s4⟩ := hSw; go_simp; try rfl
    try simp only [Act.put,j1,j2,j3,j4,j5,j6]
    refine tW ?_ 5 rfl ?_ ?_; rotate_left
    · intro w' hSw; go_simp; try rfl
    try simp only [Act.put,j1,j2,j3,j4,j5,j6]
    refine tW ?_ 6 rfl ?_ ?_; rotate_left
    · intro w' hSw; go_simp; try rfl
    try simp only [Act.put,j1,j2,j3,j4,j5,j6]
    refine tW ?_ 7 rfl ?_ ?_; rotate_left
    · intro w' hSw; go_simp; try rfl
    try simp only [Act.put,j1,j2,j3,j4,j5,j6]
    refine tW ?_ 8 rfl ?_ ?_; rotate_left
    · intro w' hSw; go_simp; try rfl
    try simp only [Act.put,j1,j2,j3,j4,j5,j6]
    refine tL ?_ 9 rfl hSc3 ?_ ?_; rotate_left
    · intro w' hSw; obtain ⟨s0, s1', s2, s3, s4⟩ := hSw; go_simp; try rfl
    try simp only [Act.put,j1,j2,j3,j4,j5,j6]
    refine tW ?_ 10 rfl ?_ ?_; rotate_left
    · intro w' hSw; go_simp; try rfl
    try simp only [Act.put,j1,j2,j3,j4,j5,j6]
    refine tW ?_ 11 rfl ?_ ?_; rotate_left
    · intro w' hSw; go_simp; try rfl
    try simp only [Act.put,j1,j2,j3,j4,j5,j6]
    refine tW ?_ 12 rfl ?_ ?_; rotate_left
    · intro w' hSw; go_simp; try rfl
    try simp only [Act.put,j1,j2,j3,j4,j5,j6]
    refine tW ?_ 13 rfl ?_ ?_; rotate_left
    · intro w' hSw; go_simp; try rfl
    try simp only [Act.put,j1,j2,j3,j4,j5,j6]
    refine tL ?_ 14 rfl hSc3 ?_ ?_; rotate_left
    · intro w' hSw; obtain ⟨s0, s1', s2, s3, s4⟩ := hSw; go_simp; try rfl
    try simp only [Act.put,j1,j2,j3,j4,j5,j6]
    refine tW ?_ 15 rfl ?_ ?_; rotate_left
    · intro w' hSw; go_simp; try rfl
    try simp only [Act.put,j1,j2,j3,j4,j5,j6]
    refine tW ?_ 16 rfl ?_ ?_; rotate_left
    · intro w' hSw; go_simp; try rfl
    try simp only [Act.put,j1,j2,j3,j4,j5,j6]
    refine tW ?_ 17 rfl ?_ ?_; rotate_left
    · intro w' hSw; go_simp; try rfl
    try simp only [Act.put,j1,j2,j3,j4,j5,j6]
    refine tW ?_ 18 rfl ?_ ?_; rotate_left
    · intro w' hSw; go_simp; try rfl
    try simp only [Act.put,j1,j2,j3,j4,j5,j6]
    refine tW ?_ 19 rfl ?_ ?_; rotate_left
    · intro w' hSw; go_simp; try rfl
    try simp only [Act.put,j1,j2,j3,j4,j5,j6]
    refine tL ?_ 20 rfl hSc3 ?_ ?_; rotate_left
    · intro w' hSw; obtain ⟨s0, s1', s2, s3, s4⟩ := hSw; go_simp; try rfl
    try simp only [Act.put,j1,j2,j3,j4,j5,j6]
    refine tW ?_ 21 rfl ?_ ?_; rotate_left
    · intro w' hSw; go_simp; try rfl
    try simp only [Act.put,j1,j2,j3,j4,j5,j6]
    refine tW ?_ 22 rfl ?_ ?_; rotate_left
    · intro w' hSw; go_simp; try rfl
    try simp only [Act.put,j1,j2,j3,j4,j5,j6]
    refine tW ?_ 23 rfl ?_ ?_; rotate_left
    · intro w' hSw; go_simp; try rfl
    try simp only [Act.put,j1,j2,j3,j4,j5,j6]
    refine tW ?_ 24 rfl ?_ ?_; rotate_left
    · intro w' hSw; go_simp; try rfl
    try simp only [Act.put,j1,j2,j3,j4,j5,j6]
    refine tW ?_ 25 rfl ?_ ?_; rotate_left
    · intro w' hSw; go_simp; try rfl
    try simp only [Act.put,j1,j2,j3,j4,j5,j6]
    refine tW ?_ 26 rfl ?_ ?_; rotate_left
    · intro w' hSw; go_simp; try rfl
    try simp only [Act.put,j1,j2,j3,j4,j5,j6]
    refine tL ?_ 27 rfl hSc3 ?_ ?_; rotate_left
    · intro w' hSw; obtain ⟨s0, s1', s2, s3, s4⟩ := hSw; go_simp; try rfl
    try simp only [Act.put,j1,j2,j3,j4,j5,j6]
    refine tW ?_ 28 rfl ?_ ?_; rotate_left
    · intro w' hSw; go_simp; try rfl
    try simp only [Act.put,j1,j2,j3,j4,j5,j6]
    refine tW ?_ 29 rfl ?_ ?_; rotate_left
    · intro w' hSw; go_simp; try rfl
    try simp only [Act.put,j1,j2,j3,j4,j5,j6]
    refine wpAnyG_one (i := 30) (by kernel_rfl) rfl hSc3 (fun K' hK => ?_)
    simp only [j1,j2,j3]
    go_simp
    refine hK.out _ _ (Or.inl rfl) ?_
    clear hK K'
    try simp only [Act.put,j1,j2,j3,j4,j5,j6]
    refine wpAnyG_done (by kernel_rfl) ?_ _
    obtain ⟨w10, hw10⟩ : ∃ x, ((w9.setCell ⟨g1, i * 2, none⟩ (.int .i64 n)).setCell ⟨g1, i * 2 + 1, none⟩ (.int .i64 s1.look)).drew = x := ⟨_, rfl⟩
    rw [hw10] at HD ⊢
    clear hw10 k_0 k_1 k_2 k_3 k_4 k_5 k_6 k_7 k_8 k_9 k_10 k_11 k_f k_l hSc3 e_1 e_2 g_f g_l
    have z_2 : w10.cell? ⟨b, 2, none⟩ = some (.int .i64 s1.x) := HD.out.1.c2
    have z_f := HD.out.1.fz
    have z_l := HD.out.1.lt
    go_wp2_with fail
    first | refine bodyPost_end (v := .tuple #[]) (by simp [results, Tryz.results79]) rfl ?_ | refine bodyPost_ret (v := .tuple #[]) (by simp [results, Tryz.results79]) rfl ?_
    rw [HPR.out]
    have hput : putS s1 n = { s1 with cells := s1.cells.set i (n, (s1.look : Int)), x := s1.x + 1 } := by unfold putS; rw [HI.out]
    rw [hput]
    have h2 : ScrR lo b 0 { s1 with cells := s1.cells.set i (n, (s1.look : Int)), x := s1.x + 1 } g1 ah1 w9 (w10.setCell ⟨b, 2, none⟩ (.int .i64 ((s1.x : Int) + 1))) := .mk (HD.out.1.setv2 (s1.x + 1) (by omega)) (HD.out.2.set2 _)
    exact ⟨rfl, ScrR.trans HA.out HUW.out HGG.out HHH.out h2⟩
end
section
open Go.RowKit
theorem control_c (lo b : Nat) (s : Scr) (g cc : Nat) (ah : Option Addr) (dh : Nat) (w : World) (n : Int) (h : ScrAt lo b 0 s g cc ah dh w) (ok : ScrOK s) (hlo : lo ≤ w.heap.size) :
    Calls Tryz.prog 80 #[.pointer (some ⟨b, 0, none⟩), .int .i64 n] w fun e w' => e = .returned (.tuple #[]) ∧ ScrR lo b 0 (ctlS s n) g ah w w' := by
  have HS := Lib.hid h
  have HOK := Lib.hid ok
  have hw1 := ok.w1
  have hw2 := ok.w2
  have hh1 := ok.h1
  have hh2 := ok.h2
  have hx := ok.hx
  have hy := ok.hy
  clear h ok
  obtain ⟨x8, hx8⟩ : ∃ v, s.x / 8 = v := ⟨_, rfl⟩
  have hq8 : (s.x : Int).tdiv 8 = (x8 : Int) := by rw [Int.tdiv_eq_ediv_of_nonneg (by omega)]; omega
  have hq9 : (s.x : Int) / 8 = (x8 : Int) := by omega
  have HX8 := Lib.hid hx8
  have hx83 : x8 ≤ 3 := by omega
  clear hx8
  have hwr0 : IntKind.i64.wrap ((s.w : Int) - 1) = (s.w : Int) - 1 := IntWalk.i64_in _ ⟨by omega, by omega⟩
  have hwr1 : IntKind.i64.wrap (min (s.x : Int) ((s.w : Int) - 1)) = min (s.x : Int) ((s.w : Int) - 1) := IntWalk.i64_in _ ⟨by omega, by omega⟩
  have hwr2 : IntKind.i64.wrap (min (s.x : Int) ((s.w : Int) - 1) - 1) = min (s.x : Int) ((s.w : Int) - 1) - 1 := IntWalk.i64_in _ ⟨by omega, by omega⟩
  have hwr3 : IntKind.i64.wrap ((x8 : Int)) = (x8 : Int) := IntWalk.i64_in _ ⟨by omega, by omega⟩
  have hwr4 : IntKind.i64.wrap ((x8 : Int) + 1) = (x8 : Int) + 1 := IntWalk.i64_in _ ⟨by omega, by omega⟩
  have hwr5 : IntKind.i64.wrap (((x8 : Int) + 1) * 8) = ((x8 : Int) + 1) * 8 := IntWalk.i64_in _ ⟨by omega, by omega⟩
  have k_0 := HS.out.e0
  have k_1 := HS.out.e1
  have k_2 := HS.out.e2
  have k_3 := HS.out.e3
  have k_4 := HS.out.e4
  have k_5 := HS.out.e5
  have k_6 := HS.out.e6
  have k_7 := HS.out.e7
  have k_8 := HS.out.e8
  have k_9 := HS.out.e9
  have k_10 := HS.out.e10
  have k_11 := HS.out.e11
  have k_f := HS.out.fz
  have k_l := HS.out.lt
  by_cases h8 : n = 8
  · subst h8
    go_enter Tryz.func80, Tryz.ntmps80
    go_upto_region 2 with fail
    have hSc1 := And.intro k_0 k_2
    refine wp_region_G (fun w' => w'.cell? ⟨b, 0, none⟩ = some (.int .i64 (s.w : Int)) ∧ w'.cell? ⟨b, 2, none⟩ = some (.int .i64 (s.x : Int))) (fun i => i == 18) (by kernel_rfl) hSc1 ?_
    refine tW ?_ 0 rfl ?_ ?_; rotate_left
    · intro w' hSw; go_simp; try rfl
    try simp only [Act.put,j1,j2,j3,j4,j5,j6]
    refine tW ?_ 1 rfl ?_ ?_; rotate_left
    · intro w' hSw; go_simp; try rfl
    try simp only [Act.put,j1,j2,j3,j4,j5,j6]
    refine tW ?_ 2 rfl ?_ ?_; rotate_left
    · intro w' hSw; go_simp; try rfl
    try simp only [Act.put,j1,j2,j3,j4,j5,j6]
    refine tW ?_ 3 rfl ?_ ?_; rotate_left
    · intro w' hSw; go_simp; try rfl
    try simp only [Act.put,j1,j2,j3,j4,j5,j6]
    refine tW ?_ 4 rfl ?_ ?_; rotate_left
    · intro w' hSw; go_simp; try rfl
    try simp only [Act.put,j1,j2,j3,j4,j5,j6]
    refine tL ?_ 5 rfl hSc1 ?_ ?_; rotate_left
    · intro w' hSw; obtain ⟨s0, s1⟩ := hSw; go_simp; try rfl
    try simp only [Act.put,j1,j2,j3,j4,j5,j6]
    refine tW ?_ 6 rfl ?_ ?_; rotate_left
    · intro w' hSw; go_simp; try rfl
    try simp only [Act.put,j1,j2,j3,j4,j5,j6]
    refine tW ?_ 7 rfl ?_ ?_; rotate_left
    · intro w' hSw; go_simp; try rfl
    try simp only [Act.put,j1,j2,j3,j4,j5,j6]
    refine tW ?_ 8 rfl ?_ ?_; rotate_left
    · intro w' hSw; go_simp; try rfl
    try simp only [Act.put,j1,j2,j3,j4,j5,j6]
    refine tW ?_ 9 rfl ?_ ?_; rotate_left
    · intro w' hSw; go_simp; try rfl
    try simp only [Act.put,j1,j2,j3,j4,j5,j6]
    refine tL ?_ 10 rfl hSc1 ?_ ?_; rotate_left
    · intro w' hSw; obtain ⟨s0, s1⟩ := hSw; go_simp; try rfl
    try simp only [Act.put,j1,j2,j3,j4,j5,j6]
    refine tW ?_ 11 rfl ?_ ?_; rotate_left
    · intro w' hSw; go_simp; try rfl
    try simp only [Act.put,j1,j2,j3,j4,j5,j6]
    refine tW ?_ 12 rfl ?_ ?_; rotate_left
    · intro w' hSw; go_simp; try rfl
    try simp only [Act.put,j1,j2,j3,j4,j5,j6]
    refine tW ?_ 13 rfl ?_ ?_; rotate_left
    · intro w' hSw; go_simp; try rfl
    try simp only [Act.put,j1,j2,j3,j4,j5,j6]
    refine tW ?_ 14 rfl ?_ ?_; rotate_left
    · intro w' hSw; go_simp; try rfl
    try simp only [Act.put,j1,j2,j3,j4,j5,j6]
    refine tW ?_ 15 rfl ?_ ?_; rotate_left
    · intro w' hSw; go_simp; try rfl
    try simp only [Act.put,j1,j2,j3,j4,j5,j6]
    refine tW ?_ 16 rfl ?_ ?_; rotate_left
    · intro w' hSw; go_simp; try rfl
    try simp only [Act.put,j1,j2,j3,j4,j5,j6]
    refine tW ?_ 17 rfl ?_ ?_; rotate_left
    · intro w' hSw; go_simp; try rfl
    try simp only [Act.put,j1,j2,j3,j4,j5,j6]
    refine wpAnyG_one (i := 18) (by kernel_rfl) rfl hSc1 (fun K' hK => ?_)
    simp only [j1,j2,j3]
    go_simp
    refine hK.out _ _ (Or.inl rfl) ?_
    clear hK K'
    try simp only [Act.put,j1,j2,j3,j4,j5,j6]
    refine wpAnyG_done (by kernel_rfl) ?_ _
    go_wp2_with fail
    first | refine bodyPost_end (v := .tuple #[]) (by simp [results, Tryz.results80]) rfl ?_ | refine bodyPost_ret (v := .tuple #[]) (by simp [results, Tryz.results80]) rfl ?_
    refine ⟨rfl, ?_⟩
    unfold ctlS
    rw [if_pos rfl]
    refine ScrR.mk (cc := cc) (dh := dh) ?_ ?_
    · repeat (with_reducible refine ScrAt.drew ?_)
      exact HS.out.setv2 _ (by omega)
    · repeat (with_reducible refine Upd.drew ?_)
      exact Upd.refl'.set2 _
  by_cases h9 : n = 9
  · subst h9
    go_enter Tryz.func80, Tryz.ntmps80
    go_upto_region 4 with fail
    have hSc2 := And.intro k_0 k_2
    refine wp_region_G (fun w' => w'.cell? ⟨b, 0, none⟩ = some (.int .i64 (s.w : Int)) ∧ w'.cell? ⟨b, 2, none⟩ = some (.int .i64 (s.x : Int))) (fun i => i == 19) (by kernel_rfl) hSc2 ?_
    refine tW ?_ 0 rfl ?_ ?_; rotate_left
    · intro w' hSw; go_simp; try rfl
    try simp only [Act.put,j1,j2,j3,j4,j5,j6]
    refine tW ?_ 1 rfl ?_ ?_; rotate_left
    · intro w' hSw; go_simp; try rfl
    try simp only [Act.put,j1,j2,j3,j4,j5,j6]
    refine tW ?_ 2 rfl ?_ ?_; rotate_left
    · intro w' hSw; go_simp; try rfl
    try simp only [Act.put,j1,j2,j3,j4,j5,j6]
    refine tW ?_ 3 rfl ?_ ?_; rotate_left
    · intro w' hSw; go_simp; try rfl
    try simp only [Act.put,j1,j2,j3,j4,j5,j6]
    refine tW ?_ 4 rfl ?_ ?_; rotate_left
    · intro w' hSw; go_simp; try rfl
    try simp only [Act.put,j1,j2,j3,j4,j5,j6]
    refine tL ?_ 5 rfl hSc2 ?_ ?_; rotate_left
    · intro w' hSw; obtain ⟨s0, s1⟩ := hSw; go_simp; try rfl
    try simp only [Act.put,j1,j2,j3,j4,j5,j6]
    refine tW ?_ 6 rfl ?_ ?_; rotate_left
    · intro w' hSw; go_simp; try rfl
    try simp only [Act.put,j1,j2,j3,j4,j5,j6]
    refine tW ?_ 7 rfl ?_ ?_; rotate_left
    · intro w' hSw; go_simp; try rfl
    try simp only [Act.put,j1,j2,j3,j4,j5,j6]
    refine tW ?_ 8 rfl ?_ ?_; rotate_left
    · intro w' hSw; go_simp; try rfl
    try simp only [Act.put,j1,j2,j3,j4,j5,j6]
    refine tW ?_ 9 rfl ?_ ?_; rotate_left
    · intro w' hSw; go_simp; try rfl
    try simp only [Act.put,j1,j2,j3,j4,j5,j6]
    refine tW ?_ 10 rfl ?_ ?_; rotate_left
    · intro w' hSw; go_simp; try rfl
    try simp only [Act.put,j1,j2,j3,j4,j5,j6]
    refine tL ?_ 11 rfl hSc2 ?_ ?_; rotate_left
    · intro w' hSw; obtain ⟨s0, s1⟩ := hSw; go_simp; try rfl
    try simp only [Act.put,j1,j2,j3,j4,j5,j6]
    refine tW ?_ 12 rfl ?_ ?_; rotate_left
    · intro w' hSw; go_simp; try rfl
    try simp only [Act.put,j1,j2,j3,j4,j5,j6]
    refine tW ?_ 13 rfl ?_ ?_; rotate_left
    · intro w' hSw; go_simp; try rfl
    try simp only [Act.put,j1,j2,j3,j4,j5,j6]
    refine tW ?_ 14 rfl ?_ ?_; rotate_left
    · intro w' hSw; go_simp; try rfl
    try simp only [Act.put,j1,j2,j3,j4,j5,j6]
    refine tW ?_ 15 rfl ?_ ?_; rotate_left
    · intro w' hSw; go_simp; try rfl
    try simp only [Act.put,j1,j2,j3,j4,j5,j6]
    refine tW ?_ 16 rfl ?_ ?_; rotate_left
    · intro w' hSw; go_simp; try rfl
    try simp only [Act.put,j1,j2,j3,j4,j5,j6]
    refine tW ?_ 17 rfl ?_ ?_; rotate_left
    · intro w' hSw; go_simp; try rfl
    try simp only [Act.put,j1,j2,j3,j4,j5,j6]
    refine tW ?_ 18 rfl ?_ ?_; rotate_left
    · intro w' hSw; go_simp; try rfl
    try simp only [Act.put,j1,j2,j3,j4,j5,j6]
    refine wpAnyG_one (i := 19) (by kernel_rfl) rfl hSc2 (fun K' hK => ?_)
    simp only [j1,j2,j3]
    go_simp
    refine hK.out _ _ (Or.inl rfl) ?_
    clear hK K'
    try simp only [Act.put,j1,j2,j3,j4,j5,j6]
    refine wpAnyG_done (by kernel_rfl) ?_ _
    go_wp2_with fail
    first | refine bodyPost_end (v := .tuple #[]) (by simp [results, Tryz.results80]) rfl ?_ | refine bodyPost_ret (v := .tuple #[]) (by simp [results, Tryz.results80]) rfl ?_
    refine ⟨rfl, ?_⟩
    unfold ctlS
    rw [if_neg (by decide), if_pos rfl, HX8.out]
    refine ScrR.mk (cc := cc) (dh := dh) ?_ ?_
    · repeat (with_reducible refine ScrAt.drew ?_)
      exact HS.out.setv2 _ (by omega)
    · repeat (with_reducible refine Upd.drew ?_)
      exact Upd.refl'.set2 _
  by_cases h10 : n = 10
  · subst h10
    go_enter Tryz.func80, Tryz.ntmps80
    go_wp2_with fail
    refine (down_c lo b s g cc ah dh _ HS.out HOK.out (by first | omega | (have := Upd.refl'.size; omega))).mono ?_
    rintro e x1 ⟨rfl, hr⟩
    have HR : Hid (ScrR lo b 0 (downS s) g ah w x1) := Lib.hid (ScrR.trans HS.out Upd.refl' (.inl rfl) (fun _ h => .inl h) hr)
    clear hr
    go_wp2_with fail
    first | refine bodyPost_end (v := .tuple #[]) (by simp [results, Tryz.results80]) rfl ?_ | refine bodyPost_ret (v := .tuple #[]) (by simp [results, Tryz.results80]) rfl ?_
    refine ⟨rfl, ?_⟩
    unfold ctlS
    rw [if_neg (by decide), if_neg (by decide), if_pos rfl]
    exact HR.out
  by_cases h13 : n = 13
  · subst h13
    go_enter Tryz.func80, Tryz.ntmps80
    go_wp2_with fail
    first | refine bodyPost_end (v := .tuple #[]) (by simp [results, Tryz.results80]) rfl ?_ | refine bodyPost_ret (v := .tuple #[]) (by simp [results, Tryz.results80]) rfl ?_
    refine ⟨rfl, ?_⟩
    unfold ctlS
    rw [if_neg (by decide), if_neg (by decide), if_neg (by decide), if_pos rfl]
    refine ScrR.mk (cc := cc) (dh := dh) ?_ ?_
    · repeat (with_reducible refine ScrAt.drew ?_)
      exact HS.out.setv2 _ (by omega)
    · repeat (with_reducible refine Upd.drew ?_)
      exact Upd.refl'.set2 _
  have q8 : (n == 8) = false := beq_eq_false_iff_ne.2 h8
  have q9 : (n == 9) = false := beq_eq_false_iff_ne.2 h9
  have q10 : (n == 10) = false := beq_eq_false_iff_ne.2 h10
  have q13 : (n == 13) = false := beq_eq_false_iff_ne.2 h13
  go_enter Tryz.func80, Tryz.ntmps80
  go_wp2_with fail
  first | refine bodyPost_end (v := .tuple #[]) (by simp [results, Tryz.results80]) rfl ?_ | refine bodyPost_ret (v := .tuple #[]) (by simp [results, Tryz.results80]) rfl ?_
  refine ⟨rfl, ?_⟩
  unfold ctlS
  rw [if_neg h8, if_neg h9, if_neg h10, if_neg h13]
  exact .mk HS.out Upd.refl'
end
section
open Go.RowKit
theorem ScrAt.whole {lo b o : Nat} {s s' : Scr} {g cc g2 c2 : Nat} {ah a2 : Option Addr} {dh d2 : Nat} {w : World} (h : ScrAt lo b o s g cc ah dh w) (hf : ScrF lo s' (some ⟨g2, 0, none⟩) c2 a2 d2 w) (h1 : g2 ≠ b) (h2 : ∀ k ∈ blkOf a2, k ≠ b) : ScrAt lo b o s' g2 c2 a2 d2 ((((((((((((w.setCell ⟨b, o, none⟩ (.int .i64 (s'.w : Int))).setCell ⟨b, o + 1, none⟩ (.int .i64 (s'.h : Int))).setCell ⟨b, o + 2, none⟩ (.int .i64 (s'.x : Int))).setCell ⟨b, o + 3, none⟩ (.int .i64 (s'.y : Int))).setCell ⟨b, o + 4, none⟩ (.int .i64 (s'.look : Int))).setCell ⟨b, o + 5, none⟩ (.int .i64 (s'.top : Int))).setCell ⟨b, o + 6, none⟩ (.int .i64 (s'.bot : Int))).setCell ⟨b, o + 7, none⟩ (.int .i64 (s'.sx : Int))).setCell ⟨b, o + 8, none⟩ (.int .i64 (s'.sy : Int))).setCell ⟨b, o + 9, none⟩ (.string s'.title)).setCell ⟨b, o + 10, none⟩ (.slice (some ⟨g2, 0, none⟩) s'.cells.length c2)).setCell ⟨b, o + 11, none⟩ (.slice a2 s'.hist.length d2)) ∧ Ch (· = b) w ((((((((((((w.setCell ⟨b, o, none⟩ (.int .i64 (s'.w : Int))).setCell ⟨b, o + 1, none⟩ (.int .i64 (s'.h : Int))).setCell ⟨b, o + 2, none⟩ (.int .i64 (s'.x : Int))).setCell ⟨b, o + 3, none⟩ (.int .i64 (s'.y : Int))).setCell ⟨b, o + 4, none⟩ (.int .i64 (s'.look : Int))).setCell ⟨b, o + 5, none⟩ (.int .i64 (s'.top : Int))).setCell ⟨b, o + 6, none⟩ (.int .i64 (s'.bot : Int))).setCell ⟨b, o + 7, none⟩ (.int .i64 (s'.sx : Int))).setCell ⟨b, o + 8, none⟩ (.int .i64 (s'.sy : Int))).setCell ⟨b, o + 9, none⟩ (.string s'.title)).setCell ⟨b, o + 10, none⟩ (.slice (some ⟨g2, 0, none⟩) s'.cells.length c2)).setCell ⟨b, o + 11, none⟩ (.slice a2 s'.hist.length d2)) ∧ Upd b o (o + 12) (fun _ => False) w ((((((((((((w.setCell ⟨b, o, none⟩ (.int .i64 (s'.w : Int))).setCell ⟨b, o + 1, none⟩ (.int .i64 (s'.h : Int))).setCell ⟨b, o + 2, none⟩ (.int .i64 (s'.x : Int))).setCell ⟨b, o + 3, none⟩ (.int .i64 (s'.y : Int))).setCell ⟨b, o + 4, none⟩ (.int .i64 (s'.look : Int))).setCell ⟨b, o + 5, none⟩ (.int .i64 (s'.top : Int))).setCell ⟨b, o + 6, none⟩ (.int .i64 (s'.bot : Int))).setCell ⟨b, o + 7, none⟩ (.int .i64 (s'.sx : Int))).setCell ⟨b, o + 8, none⟩ (.int .i64 (s'.sy : Int))).setCell ⟨b, o + 9, none⟩ (.string s'.title)).setCell ⟨b, o + 10, none⟩ (.slice (some ⟨g2, 0, none⟩) s'.cells.length c2)).setCell ⟨b, o + 11, none⟩ (.slice a2 s'.hist.length d2)) := by
  have hc : Ch (· = b) w ((((((((((((w.setCell ⟨b, o, none⟩ (.int .i64 (s'.w : Int))).setCell ⟨b, o + 1, none⟩ (.int .i64 (s'.h : Int))).setCell ⟨b, o + 2, none⟩ (.int .i64 (s'.x : Int))).setCell ⟨b, o + 3, none⟩ (.int .i64 (s'.y : Int))).setCell ⟨b, o + 4, none⟩ (.int .i64 (s'.look : Int))).setCell ⟨b, o + 5, none⟩ (.int .i64 (s'.top : Int))).setCell ⟨b, o + 6, none⟩ (.int .i64 (s'.bot : Int))).setCell ⟨b, o + 7, none⟩ (.int .i64 (s'.sx : Int))).setCell ⟨b, o + 8, none⟩ (.int .i64 (s'.sy : Int))).setCell ⟨b, o + 9, none⟩ (.string s'.title)).setCell ⟨b, o + 10, none⟩ (.slice (some ⟨g2, 0, none⟩) s'.cells.length c2)).setCell ⟨b, o + 11, none⟩ (.slice a2 s'.hist.length d2)) := by
    exact (((((((((((Ch.set1' w b o _).trans (Ch.set1' _ b (o + 1) _) (fun _ h => .inl h)).trans (Ch.set1' _ b (o + 2) _) (fun _ h => .inl h)).trans (Ch.set1' _ b (o + 3) _) (fun _ h => .inl h)).trans (Ch.set1' _ b (o + 4) _) (fun _ h => .inl h)).trans (Ch.set1' _ b (o + 5) _) (fun _ h => .inl h)).trans (Ch.set1' _ b (o + 6) _) (fun _ h => .inl h)).trans (Ch.set1' _ b (o + 7) _) (fun _ h => .inl h)).trans (Ch.set1' _ b (o + 8) _) (fun _ h => .inl h)).trans (Ch.set1' _ b (o + 9) _) (fun _ h => .inl h)).trans (Ch.set1' _ b (o + 10) _) (fun _ h => .inl h)).trans (Ch.set1' _ b (o + 11) _) (fun _ h => .inl h)
  have yy0 : ((((((((((((w.setCell ⟨b, o, none⟩ (.int .i64 (s'.w : Int))).setCell ⟨b, o + 1, none⟩ (.int .i64 (s'.h : Int))).setCell ⟨b, o + 2, none⟩ (.int .i64 (s'.x : Int))).setCell ⟨b, o + 3, none⟩ (.int .i64 (s'.y : Int))).setCell ⟨b, o + 4, none⟩ (.int .i64 (s'.look : Int))).setCell ⟨b, o + 5, none⟩ (.int .i64 (s'.top : Int))).setCell ⟨b, o + 6, none⟩ (.int .i64 (s'.bot : Int))).setCell ⟨b, o + 7, none⟩ (.int .i64 (s'.sx : Int))).setCell ⟨b, o + 8, none⟩ (.int .i64 (s'.sy : Int))).setCell ⟨b, o + 9, none⟩ (.string s'.title)).setCell ⟨b, o + 10, none⟩ (.slice (some ⟨g2, 0, none⟩) s'.cells.length c2)).setCell ⟨b, o + 11, none⟩ (.slice a2 s'.hist.length d2)).cell? ⟨b, o, none⟩ = some (.int .i64 (s'.w : Int)) := sO (sO (sO (sO (sO (sO (sO (sO (sO (sO (sO (World.cell?_setCell_same _ _ _ (h.c0))))))))))))
  have yy1 : ((((((((((((w.setCell ⟨b, o, none⟩ (.int .i64 (s'.w : Int))).setCell ⟨b, o + 1, none⟩ (.int .i64 (s'.h : Int))).setCell ⟨b, o + 2, none⟩ (.int .i64 (s'.x : Int))).setCell ⟨b, o + 3, none⟩ (.int .i64 (s'.y : Int))).setCell ⟨b, o + 4, none⟩ (.int .i64 (s'.look : Int))).setCell ⟨b, o + 5, none⟩ (.int .i64 (s'.top : Int))).setCell ⟨b, o + 6, none⟩ (.int .i64 (s'.bot : Int))).setCell ⟨b, o + 7, none⟩ (.int .i64 (s'.sx : Int))).setCell ⟨b, o + 8, none⟩ (.int .i64 (s'.sy : Int))).setCell ⟨b, o + 9, none⟩ (.string s'.title)).setCell ⟨b, o + 10, none⟩ (.slice (some ⟨g2, 0, none⟩) s'.cells.length c2)).setCell ⟨b, o + 11, none⟩ (.slice a2 s'.hist.length d2)).cell? ⟨b, o + 1, none⟩ = some (.int .i64 (s'.h : Int)) := sO (sO (sO (sO (sO (sO (sO (sO (sO (sO (World.cell?_setCell_same _ _ _ (sO (h.c1))))))))))))
  have yy2 : ((((((((((((w.setCell ⟨b, o, none⟩ (.int .i64 (s'.w : Int))).setCell ⟨b, o + 1, none⟩ (.int .i64 (s'.h : Int))).setCell ⟨b, o + 2, none⟩ (.int .i64 (s'.x : Int))).setCell ⟨b, o + 3, none⟩ (.int .i64 (s'.y : Int))).setCell ⟨b, o + 4, none⟩ (.int .i64 (s'.look : Int))).setCell ⟨b, o + 5, none⟩ (.int .i64 (s'.top : Int))).setCell ⟨b, o + 6, none⟩ (.int .i64 (s'.bot : Int))).setCell ⟨b, o + 7, none⟩ (.int .i64 (s'.sx : Int))).setCell ⟨b, o + 8, none⟩ (.int .i64 (s'.sy : Int))).setCell ⟨b, o + 9, none⟩ (.string s'.title)).setCell ⟨b, o + 10, none⟩ (.slice (some ⟨g2, 0, none⟩) s'.cells.length c2)).setCell ⟨b, o + 11, none⟩ (.slice a2 s'.hist.length d2)).cell? ⟨b, o + 2, none⟩ = some (.int .i64 (s'.x : Int)) := sO (sO (sO (sO (sO (sO (sO (sO (sO (World.cell?_setCell_same _ _ _ (sO (sO (h.c2))))))))))))
  have yy3 : ((((((((((((w.setCell ⟨b, o, none⟩ (.int .i64 (s'.w : Int))).setCell ⟨b, o + 1, none⟩ (.int .i64 (s'.h : Int))).setCell ⟨b, o + 2, none⟩ (.int .i64 (s'.x : Int))).setCell ⟨b, o + 3, none⟩ (.int .i64 (s'.y : Int))).setCell ⟨b, o + 4, none⟩ (.int .i64 (s'.look : Int))).setCell ⟨b, o + 5, none⟩ (.int .i64 (s'.top : Int))).setCell ⟨b, o + 6, none⟩ (.int .i64 (s'.bot : Int))).setCell ⟨b, o + 7, none⟩ (.int .i64 (s'.sx : Int))).setCell ⟨b, o + 8, none⟩ (.int .i64 (s'.sy : Int))).setCell ⟨b, o + 9, none⟩ (.string s'.title)).setCell ⟨b, o + 10, none⟩ (.slice (some ⟨g2, 0, none⟩) s'.cells.length c2)).setCell ⟨b, o + 11, none⟩ (.slice a2 s'.hist.length d2)).cell? ⟨b, o + 3, none⟩ = some (.int .i64 (s'.y : Int)) := sO (sO (sO (sO (sO (sO (sO (sO (World.cell?_setCell_same _ _ _ (sO (sO (sO (h.c3))))))))))))
  have yy4 : ((((((((((((w.setCell ⟨b, o, none⟩ (.int .i64 (s'.w : Int))).setCell ⟨b, o + 1, none⟩ (.int .i64 (s'.h : Int))).setCell ⟨b, o + 2, none⟩ (.int .i64 (s'.x : Int))).setCell ⟨b, o + 3, none⟩ (.int .i64 (s'.y : Int))).setCell ⟨b, o + 4, none⟩ (.int .i64 (s'.look : Int))).setCell ⟨b, o + 5, none⟩ (.int .i64 (s'.top : Int))).setCell ⟨b, o + 6, none⟩ (.int .i64 (s'.bot : Int))).setCell ⟨b, o + 7, none⟩ (.int .i64 (s'.sx : Int))).setCell ⟨b, o + 8, none⟩ (.int .i64 (s'.sy : Int))).setCell ⟨b, o + 9, none⟩ (.string s'.title)).setCell ⟨b, o + 10, none⟩ (.slice (some ⟨g2, 0, none⟩) s'.cells.length c2)).setCell ⟨b, o + 11, none⟩ (.slice a2 s'.hist.length d2)).cell? ⟨b, o + 4, none⟩ = some (.int .i64 (s'.look : Int)) := sO (sO (sO (sO (sO (sO (sO (World.cell?_setCell_same _ _ _ (sO (sO (sO (sO (h.c4))))))))))))
  have yy5 : ((((((((((((w.setCell ⟨b, o, none⟩ (.int .i64 (s'.w : Int))).setCell ⟨b, o + 1, none⟩ (.int .i64 (s'.h : Int))).setCell ⟨b, o + 2, none⟩ (.int .i64 (s'.x : Int))).setCell ⟨b, o + 3, none⟩ (.int .i64 (s'.y : Int))).setCell ⟨b, o + 4, none⟩ (.int .i64 (s'.look : Int))).setCell ⟨b, o + 5, none⟩ (.int .i64 (s'.top : Int))).setCell ⟨b, o + 6, none⟩ (.int .i64 (s'.bot : Int))).setCell ⟨b, o + 7, none⟩ (.int .i64 (s'.sx : Int))).setCell ⟨b, o + 8, none⟩ (.int .i64 (s'.sy : Int))).setCell ⟨b, o + 9, none⟩ (.string s'.title)).setCell ⟨b, o + 10, none⟩ (.slice (some ⟨g2, 0, none⟩) s'.cells.length c2)).setCell ⟨b, o + 11, none⟩ (.slice a2 s'.hist.length d2)).cell? ⟨b, o + 5, none⟩ = some (.int .i64 (s'.top : Int)) := sO (sO (sO (sO (sO (sO (World.cell?_setCell_same _ _ _ (sO (sO (sO (sO (sO (h.c5))))))))))))
  have yy6 : ((((((((((((w.setCell ⟨b, o, none⟩ (.int .i64 (s'.w : Int))).setCell ⟨b, o + 1, none⟩ (.int .i64 (s'.h : Int))).setCell ⟨b, o + 2, none⟩ (.int .i64 (s'.x : Int))).setCell ⟨b, o + 3, none⟩ (.int .i64 (s'.y : Int))).setCell ⟨b, o + 4, none⟩ (.int .i64 (s'.look : Int))).setCell ⟨b, o + 5, none⟩ (.int .i64 (s'.top : Int))).setCell ⟨b, o + 6, none⟩ (.int .i64 (s'.bot : Int))).setCell ⟨b, o + 7, none⟩ (.int .i64 (s'.sx : Int))).setCell ⟨b, o + 8, none⟩ (.int .i64 (s'.sy : Int))).setCell ⟨b, o + 9, none⟩ (.string s'.title)).setCell ⟨b, o + 10, none⟩ (.slice (some ⟨g2, 0, none⟩) s'.cells.length c2)).setCell ⟨b, o + 11, none⟩ (.slice a2 s'.hist.length d2)).cell? ⟨b, o + 6, none⟩ = some (.int .i64 (s'.bot : Int)) := sO (sO (sO (sO (sO (World.cell?_setCell_same _ _ _ (sO (sO (sO (sO (sO (sO (h.c6))))))))))))
  have yy7 : ((((((((((((w.setCell ⟨b, o, none⟩ (.int .i64 (s'.w : Int))).setCell ⟨b, o + 1, none⟩ (.int .i64 (s'.h : Int))).setCell ⟨b, o + 2, none⟩ (.int .i64 (s'.x : Int))).setCell ⟨b, o + 3, none⟩ (.int .i64 (s'.y : Int))).setCell ⟨b, o + 4, none⟩ (.int .i64 (s'.look : Int))).setCell ⟨b, o + 5, none⟩ (.int .i64 (s'.top : Int))).setCell ⟨b, o + 6, none⟩ (.int .i64 (s'.bot : Int))).setCell ⟨b, o + 7, none⟩ (.int .i64 (s'.sx : Int))).setCell ⟨b, o + 8, none⟩ (.int .i64 (s'.sy : Int))).setCell ⟨b, o + 9, none⟩ (.string s'.title)).setCell ⟨b, o + 10, none⟩ (.slice (some ⟨g2, 0, none⟩) s'.cells.length c2)).setCell ⟨b, o + 11, none⟩ (.slice a2 s'.hist.length d2)).cell? ⟨b, o + 7, none⟩ = some (.int .i64 (s'.sx : Int)) := sO (sO (sO (sO (World.cell?_setCell_same _ _ _ (sO (sO (sO (sO (sO (sO (sO (h.c7))))))))))))
  have yy8 : ((((((((((((w.setCell ⟨b, o, none⟩ (.int .i64 (s'.w : Int))).setCell ⟨b, o + 1, none⟩ (.int .i64 (s'.h : Int))).setCell ⟨b, o + 2, none⟩ (.int .i64 (s'.x : Int))).setCell ⟨b, o + 3, none⟩ (.int .i64 (s'.y : Int))).setCell ⟨b, o + 4, none⟩ (.int .i64 (s'.look : Int))).setCell ⟨b, o + 5, none⟩ (.int .i64 (s'.top : Int))).setCell ⟨b, o + 6, none⟩ (.int .i64 (s'.bot : Int))).setCell ⟨b, o + 7, none⟩ (.int .i64 (s'.sx : Int))).setCell ⟨b, o + 8, none⟩ (.int .i64 (s'.sy : Int))).setCell ⟨b, o + 9, none⟩ (.string s'.title)).setCell ⟨b, o + 10, none⟩ (.slice (some ⟨g2, 0, none⟩) s'.cells.length c2)).setCell ⟨b, o + 11, none⟩ (.slice a2 s'.hist.length d2)).cell? ⟨b, o + 8, none⟩ = some (.int .i64 (s'.sy : Int)) := sO (sO (sO (World.cell?_setCell_same _ _ _ (sO (sO (sO (sO (sO (sO (sO (sO (h.c8))))))))))))
  have yy9 : ((((((((((((w.setCell ⟨b, o, none⟩ (.int .i64 (s'.w : Int))).setCell ⟨b, o + 1, none⟩ (.int .i64 (s'.h : Int))).setCell ⟨b, o + 2, none⟩ (.int .i64 (s'.x : Int))).setCell ⟨b, o + 3, none⟩ (.int .i64 (s'.y : Int))).setCell ⟨b, o + 4, none⟩ (.int .i64 (s'.look : Int))).setCell ⟨b, o + 5, none⟩ (.int .i64 (s'.top : Int))).setCell ⟨b, o + 6, none⟩ (.int .i64 (s'.bot : Int))).setCell ⟨b, o + 7, none⟩ (.int .i64 (s'.sx : Int))).setCell ⟨b, o + 8, none⟩ (.int .i64 (s'.sy : Int))).setCell ⟨b, o + 9, none⟩ (.string s'.title)).setCell ⟨b, o + 10, none⟩ (.slice (some ⟨g2, 0, none⟩) s'.cells.length c2)).setCell ⟨b, o + 11, none⟩ (.slice a2 s'.hist.length d2)).cell? ⟨b, o + 9, none⟩ = some (.string s'.title) := sO (sO (World.cell?_setCell_same _ _ _ (sO (sO (sO (sO (sO (sO (sO (sO (sO (h.c9))))))))))))
  have yy10 : ((((((((((((w.setCell ⟨b, o, none⟩ (.int .i64 (s'.w : Int))).setCell ⟨b, o + 1, none⟩ (.int .i64 (s'.h : Int))).setCell ⟨b, o + 2, none⟩ (.int .i64 (s'.x : Int))).setCell ⟨b, o + 3, none⟩ (.int .i64 (s'.y : Int))).setCell ⟨b, o + 4, none⟩ (.int .i64 (s'.look : Int))).setCell ⟨b, o + 5, none⟩ (.int .i64 (s'.top : Int))).setCell ⟨b, o + 6, none⟩ (.int .i64 (s'.bot : Int))).setCell ⟨b, o + 7, none⟩ (.int .i64 (s'.sx : Int))).setCell ⟨b, o + 8, none⟩ (.int .i64 (s'.sy : Int))).setCell ⟨b, o + 9, none⟩ (.string s'.title)).setCell ⟨b, o + 10, none⟩ (.slice (some ⟨g2, 0, none⟩) s'.cells.length c2)).setCell ⟨b, o + 11, none⟩ (.slice a2 s'.hist.length d2)).cell? ⟨b, o + 10, none⟩ = some (.slice (some ⟨g2, 0, none⟩) s'.cells.length c2) := sO (World.cell?_setCell_same _ _ _ (sO (sO (sO (sO (sO (sO (sO (sO (sO (sO (h.c10))))))))))))
  have yy11 : ((((((((((((w.setCell ⟨b, o, none⟩ (.int .i64 (s'.w : Int))).setCell ⟨b, o + 1, none⟩ (.int .i64 (s'.h : Int))).setCell ⟨b, o + 2, none⟩ (.int .i64 (s'.x : Int))).setCell ⟨b, o + 3, none⟩ (.int .i64 (s'.y : Int))).setCell ⟨b, o + 4, none⟩ (.int .i64 (s'.look : Int))).setCell ⟨b, o + 5, none⟩ (.int .i64 (s'.top : Int))).setCell ⟨b, o + 6, none⟩ (.int .i64 (s'.bot : Int))).setCell ⟨b, o + 7, none⟩ (.int .i64 (s'.sx : Int))).setCell ⟨b, o + 8, none⟩ (.int .i64 (s'.sy : Int))).setCell ⟨b, o + 9, none⟩ (.string s'.title)).setCell ⟨b, o + 10, none⟩ (.slice (some ⟨g2, 0, none⟩) s'.cells.length c2)).setCell ⟨b, o + 11, none⟩ (.slice a2 s'.hist.length d2)).cell? ⟨b, o + 11, none⟩ = some (.slice a2 s'.hist.length d2) := World.cell?_setCell_same _ _ _ (sO (sO (sO (sO (sO (sO (sO (sO (sO (sO (sO (h.c11))))))))))))
  exact ⟨⟨yy0, yy1, yy2, yy3, yy4, yy5, yy6, yy7, yy8, yy9, yy10, yy11, fun k => by rw [World.frozen?_setCell, World.frozen?_setCell, World.frozen?_setCell, World.frozen?_setCell, World.frozen?_setCell, World.frozen?_setCell, World.frozen?_setCell, World.frozen?_setCell, World.frozen?_setCell, World.frozen?_setCell, World.frozen?_setCell, World.frozen?_setCell]; exact h.fz k, Nat.lt_of_lt_of_le h.lt hc.size, hf.row.ch hc (fun k hk e => by simp only [blkOf, List.mem_singleton] at hk; exact h1 (hk.symm.trans e)), hf.win.ch hc (fun k hk e => h2 k hk e), h1, fun k hk => ⟨h2 k hk, fun e => hf.ap k hk (by rw [e]; simp [blkOf])⟩⟩, hc, ((((((((((((Upd.refl).setCell (o) (by omega) (by omega) _).setCell (o + 1) (by omega) (by omega) _).setCell (o + 2) (by omega) (by omega) _).setCell (o + 3) (by omega) (by omega) _).setCell (o + 4) (by omega) (by omega) _).setCell (o + 5) (by omega) (by omega) _).setCell (o + 6) (by omega) (by omega) _).setCell (o + 7) (by omega) (by omega) _).setCell (o + 8) (by omega) (by omega) _).setCell (o + 9) (by omega) (by omega) _).setCell (o + 10) (by omega) (by omega) _).setCell (o + 11) (by omega) (by omega) _⟩
theorem escape_c (lo b : Nat) (s : Scr) (g cc : Nat) (ah : Option Addr) (dh : Nat) (w : World) (n : Int) (h : ScrAt lo b 0 s g cc ah dh w) (ok : ScrOK s) (hlo : lo ≤ w.heap.size) :
    Calls Tryz.prog 81 #[.pointer (some ⟨b, 0, none⟩), .int .i64 n] w fun e w' => e = .returned (.tuple #[]) ∧ ScrR lo b 0 (escS s n) g ah w w' := by
  have HS := Lib.hid h
  have HOK := Lib.hid ok
  have hw1 := ok.w1
  have hw2 := ok.w2
  have hh1 := ok.h1
  have hh2 := ok.h2
  have hx := ok.hx
  have hy := ok.hy
  clear h ok
  have k_0 := HS.out.e0
  have k_1 := HS.out.e1
  have k_2 := HS.out.e2
  have k_3 := HS.out.e3
  have k_4 := HS.out.e4
  have k_5 := HS.out.e5
  have k_6 := HS.out.e6
  have k_7 := HS.out.e7
  have k_8 := HS.out.e8
  have k_9 := HS.out.e9
  have k_10 := HS.out.e10
  have k_11 := HS.out.e11
  have k_f := HS.out.fz
  have k_l := HS.out.lt
  by_cases h55 : n = 55
  · subst h55
    go_enter Tryz.func81, Tryz.ntmps81
    go_wp2_with fail
    first | refine bodyPost_end (v := .tuple #[]) (by simp [results, Tryz.results81]) rfl ?_ | refine bodyPost_ret (v := .tuple #[]) (by simp [results, Tryz.results81]) rfl ?_
    refine ⟨rfl, ?_⟩
    unfold escS
    rw [if_pos rfl]
    exact .mk ((HS.out.setv7 s.x rfl).setv8 s.y rfl) ((Upd.refl'.set7 _).set8 _)
  by_cases h56 : n = 56
  · subst h56
    go_enter Tryz.func81, Tryz.ntmps81
    go_wp2_with fail
    first | refine bodyPost_end (v := .tuple #[]) (by simp [results, Tryz.results81]) rfl ?_ | refine bodyPost_ret (v := .tuple #[]) (by simp [results, Tryz.results81]) rfl ?_
    refine ⟨rfl, ?_⟩
    unfold escS
    rw [if_neg (by decide), if_pos rfl]
    exact .mk ((HS.out.setv2 s.sx rfl).setv3 s.sy rfl) ((Upd.refl'.set2 _).set3 _)
  by_cases h68 : n = 68
  · subst h68
    go_enter Tryz.func81, Tryz.ntmps81
    go_wp2_with fail
    refine (down_c lo b s g cc ah dh _ HS.out HOK.out (by first | omega | (have := Upd.refl'.size; omega))).mono ?_
    rintro e x1 ⟨rfl, hr⟩
    have HR : Hid (ScrR lo b 0 (downS s) g ah w x1) := Lib.hid (ScrR.trans HS.out Upd.refl' (.inl rfl) (fun _ h => .inl h) hr)
    clear hr
    go_wp2_with fail
    first | refine bodyPost_end (v := .tuple #[]) (by simp [results, Tryz.results81]) rfl ?_ | refine bodyPost_ret (v := .tuple #[]) (by simp [results, Tryz.results81]) rfl ?_
    refine ⟨rfl, ?_⟩
    unfold escS
    rw [if_neg (by decide), if_neg (by decide), if_pos rfl]
    exact HR.out
  by_cases h69 : n = 69
  · subst h69
    go_enter Tryz.func81, Tryz.ntmps81
    have HX : Hid (ScrAt lo b 0 { s with x := 0 } g cc ah dh (w.setCell ⟨b, 2, none⟩ (.int .i64 0)) ∧ Upd b 0 (0 + 12) (fun k => k = g ∨ k ∈ blkOf ah) w (w.setCell ⟨b, 2, none⟩ (.int .i64 0))) := Lib.hid ⟨HS.out.setv2 0 rfl, Upd.refl'.set2 _⟩
    have hz : lo ≤ (w.setCell ⟨b, 2, none⟩ (.int .i64 0)).heap.size := by have := HX.out.2.size; omega
    go_wp2_with fail
    refine (down_c lo b { s with x := 0 } g cc ah dh _ HX.out.1 (HOK.out.xy (x := 0) (y := s.y) (Nat.zero_le _) hy) (by first | omega | (have := HX.out.2.size; omega))).mono ?_
    rintro e x1 ⟨rfl, hr⟩
    have HR : Hid (ScrR lo b 0 (downS { s with x := 0 }) g ah w x1) := Lib.hid (ScrR.trans HX.out.1 HX.out.2 (.inl rfl) (fun _ h => .inl h) hr)
    clear hr
    go_wp2_with fail
    first | refine bodyPost_end (v := .tuple #[]) (by simp [results, Tryz.results81]) rfl ?_ | refine bodyPost_ret (v := .tuple #[]) (by simp [results, Tryz.results81]) rfl ?_
    refine ⟨rfl, ?_⟩
    unfold escS
    rw [if_neg (by decide), if_neg (by decide), if_neg (by decide), if_pos rfl]
    exact HR.out
  by_cases h77 : n = 77
  · subst h77
    go_enter Tryz.func81, Tryz.ntmps81
    go_wp2_with fail
    refine (up_c lo b s g cc ah dh _ HS.out HOK.out hlo).mono ?_
    rintro e x1 ⟨rfl, hr⟩
    have HR := Lib.hid hr
    clear hr
    go_wp2_with fail
    first | refine bodyPost_end (v := .tuple #[]) (by simp [results, Tryz.results81]) rfl ?_ | refine bodyPost_ret (v := .tuple #[]) (by simp [results, Tryz.results81]) rfl ?_
    refine ⟨rfl, ?_⟩
    unfold escS
    rw [if_neg (by decide), if_neg (by decide), if_neg (by decide), if_neg (by decide), if_pos rfl]
    exact HR.out
  by_cases h99 : n = 99
  · subst h99
    go_enter Tryz.func81, Tryz.ntmps81
    go_upto_region 16 with fail
    have hSc1 := And.intro k_0 k_1
    refine wp_region_G (fun w' => w'.cell? ⟨b, 0, none⟩ = some (.int .i64 (s.w : Int)) ∧ w'.cell? ⟨b, 1, none⟩ = some (.int .i64 (s.h : Int))) (fun i => i == 14) (by kernel_rfl) hSc1 ?_
    refine tW ?_ 0 rfl ?_ ?_; rotate_left
    · intro w' hSw; go_simp; try rfl
    try simp only [Act.put,j1,j2,j3,j4,j5,j6]
    refine tW ?_ 1 rfl ?_ ?_; rotate_left
    · intro w' hSw; go_simp; try rfl
    try simp only [Act.put,j1,j2,j3,j4,j5,j6]
    refine tW ?_ 2 rfl ?_ ?_; rotate_left
    · intro w' hSw; go_simp; try rfl
    try simp only [Act.put,j1,j2,j3,j4,j5,j6]
    refine tW ?_ 3 rfl ?_ ?_; rotate_left
    · intro w' hSw; go_simp; try rfl
    try simp only [Act.put,j1,j2,j3,j4,j5,j6]
    refine tW ?_ 4 rfl ?_ ?_; rotate_left
    · intro w' hSw; go_simp; try rfl
    try simp only [Act.put,j1,j2,j3,j4,j5,j6]
    refine tL ?_ 5 rfl hSc1 ?_ ?_; rotate_left
    · intro w' hSw; obtain ⟨s0, s1⟩ := hSw; go_simp; try rfl
    try simp only [Act.put,j1,j2,j3,j4,j5,j6]
    refine tW ?_ 6 rfl ?_ ?_; rotate_left
    · intro w' hSw; go_simp; try rfl
    try simp only [Act.put,j1,j2,j3,j4,j5,j6]
    refine tW ?_ 7 rfl ?_ ?_; rotate_left
    · intro w' hSw; go_simp; try rfl
    try simp only [Act.put,j1,j2,j3,j4,j5,j6]
    refine tW ?_ 8 rfl ?_ ?_; rotate_left
    · intro w' hSw; go_simp; try rfl
    try simp only [Act.put,j1,j2,j3,j4,j5,j6]
    refine tW ?_ 9 rfl ?_ ?_; rotate_left
    · intro w' hSw; go_simp; try rfl
    try simp only [Act.put,j1,j2,j3,j4,j5,j6]
    refine tL ?_ 10 rfl hSc1 ?_ ?_; rotate_left
    · intro w' hSw; obtain ⟨s0, s1⟩ := hSw; go_simp; try rfl
    try simp only [Act.put,j1,j2,j3,j4,j5,j6]
    refine wpAnyG_one (i := 11) (by kernel_rfl) rfl hSc1 (fun K' hK => ?_)
    simp only [j1,j2,j3]
    go_simp
    refine (l04New_c s.w s.h _ hw2 hh2 (by omega)).mono ?_
    rintro e x1 ⟨ac, c2, a2, d2, rfl, hf, hb⟩
    have HB1 : Hid (Below w.heap.size w x1) := Lib.hid (((Below.refl _ _).drew).trans hb)
    have hn0 : 0 < (newS s.w s.h).cells.length := by simp only [newS, blanksL, List.length_replicate]; exact Nat.mul_pos (by omega) (by omega)
    obtain ⟨g2, rfl⟩ := hf.blk hn0
    have HF : Hid (ScrF w.heap.size (newS s.w s.h) (some ⟨g2, 0, none⟩) c2 a2 d2 x1) := Lib.hid hf
    have HAX := Lib.hid (HS.out.below HB1.out)
    have hg2 := FreshIn.blks hf.row g2 (by simp [blkOf])
    have hg2' : w.heap.size ≤ g2 := hg2.1
    clear hf hb hn0 hg2
    unfold scrV
    have e_0 := HAX.out.e0
    have e_1 := HAX.out.e1
    have e_2 := HAX.out.e2
    have e_3 := HAX.out.e3
    have e_4 := HAX.out.e4
    have e_5 := HAX.out.e5
    have e_6 := HAX.out.e6
    have e_7 := HAX.out.e7
    have e_8 := HAX.out.e8
    have e_9 := HAX.out.e9
    have e_10 := HAX.out.e10
    have e_11 := HAX.out.e11
    have e_f := HAX.out.fz
    have e_l := HAX.out.lt
    have hSx : x1.cell? ⟨b, 0, none⟩ = some (.int .i64 s.w) ∧ x1.cell? ⟨b, 1, none⟩ = some (.int .i64 s.h) := ⟨e_0, e_1⟩
    refine hK.out _ _ (Or.inr hSx) ?_
    clear hK K'
    try simp only [Act.put,j1,j2,j3,j4,j5,j6]
    refine tW ?_ 12 rfl ?_ ?_; rotate_left
    · intro w' hSw; go_simp; try rfl
    try simp only [Act.put,j1,j2,j3,j4,j5,j6]
    refine tW ?_ 13 rfl ?_ ?_; rotate_left
    · intro w' hSw; go_simp; try rfl
    try simp only [Act.put,j1,j2,j3,j4,j5,j6]
    refine wpAnyG_one (i := 14) (by kernel_rfl) rfl hSx (fun K' hK => ?_)
    simp only [j1,j2,j3]
    go_simp
    refine hK.out _ _ (Or.inl rfl) ?_
    clear hK K'
    try simp only [Act.put,j1,j2,j3,j4,j5,j6]
    refine wpAnyG_done (by kernel_rfl) ?_ _
    have hne : g2 ≠ b := by have := HS.out.lt; omega
    have hnh : ∀ j ∈ blkOf a2, j ≠ b := fun j hj => by have := (HF.out.win.blk j hj).1; have := HS.out.lt; omega
    have HWH := Lib.hid (HAX.out.whole (HF.out.low hlo) hne hnh)
    obtain ⟨w9, hw9⟩ : ∃ x, ((((((((((((x1.setCell ⟨b, 0, none⟩ (.int .i64 ((newS s.w s.h).w : Int))).setCell ⟨b, 1, none⟩ (.int .i64 ((newS s.w s.h).h : Int))).setCell ⟨b, 2, none⟩ (.int .i64 ((newS s.w s.h).x : Int))).setCell ⟨b, 3, none⟩ (.int .i64 ((newS s.w s.h).y : Int))).setCell ⟨b, 4, none⟩ (.int .i64 ((newS s.w s.h).look : Int))).setCell ⟨b, 5, none⟩ (.int .i64 ((newS s.w s.h).top : Int))).setCell ⟨b, 6, none⟩ (.int .i64 ((newS s.w s.h).bot : Int))).setCell ⟨b, 7, none⟩ (.int .i64 ((newS s.w s.h).sx : Int))).setCell ⟨b, 8, none⟩ (.int .i64 ((newS s.w s.h).sy : Int))).setCell ⟨b, 9, none⟩ (.string (newS s.w s.h).title)).setCell ⟨b, 10, none⟩ (.slice (some ⟨g2, 0, none⟩) (newS s.w s.h).cells.length c2)).setCell ⟨b, 11, none⟩ (.slice a2 (newS s.w s.h).hist.length d2)) = x := ⟨_, rfl⟩
    rw [hw9] at HWH ⊢
    clear hw9 e_0 e_1 e_2 e_3 e_4 e_5 e_6 e_7 e_8 e_9 e_10 e_11 e_f e_l
    have z_11 := HWH.out.1.c11
    have z_f := HWH.out.1.fz
    have z_l := HWH.out.1.lt
    go_wp2_with fail
    first | refine bodyPost_end (v := .tuple #[]) (by simp [results, Tryz.results81]) rfl ?_ | refine bodyPost_ret (v := .tuple #[]) (by simp [results, Tryz.results81]) rfl ?_
    refine ⟨rfl, ?_⟩
    unfold escS
    rw [if_neg (by decide), if_neg (by decide), if_neg (by decide), if_neg (by decide), if_neg (by decide), if_pos rfl]
    have hwin : Win strE 9 1 lo w9 ah dh s.hist := HAX.out.win.ch HWH.out.2.1 (fun j hj e => (HS.out.hb j hj).1 e)
    have hapart : ∀ j ∈ blkOf ah, j ≠ b ∧ j ≠ g2 := fun j hj => ⟨(HS.out.hb j hj).1, fun e => by have := (HS.out.win.blk j hj).2; omega⟩
    have h9 := HWH.out.1.hist hwin hapart
    have hup : Upd b 0 (0 + 12) (fun k => k = g ∨ k ∈ blkOf ah) w w9 := (Upd.refl'.below HB1.out HS.out.lt).transN HWH.out.2.2 (fun _ h => h.elim)
    exact ⟨g2, c2, ah, dh, h9, hup.set1'' (by omega) (by omega) _, .inr hg2', fun _ hj => .inl hj⟩
  have q55 : (n == 55) = false := beq_eq_false_iff_ne.2 h55
  have q56 : (n == 56) = false := beq_eq_false_iff_ne.2 h56
  have q68 : (n == 68) = false := beq_eq_false_iff_ne.2 h68
  have q69 : (n == 69) = false := beq_eq_false_iff_ne.2 h69
  have q77 : (n == 77) = false := beq_eq_false_iff_ne.2 h77
  have q99 : (n == 99) = false := beq_eq_false_iff_ne.2 h99
  go_enter Tryz.func81, Tryz.ntmps81
  go_wp2_with fail
  first | refine bodyPost_end (v := .tuple #[]) (by simp [results, Tryz.results81]) rfl ?_ | refine bodyPost_ret (v := .tuple #[]) (by simp [results, Tryz.results81]) rfl ?_
  refine ⟨rfl, ?_⟩
  unfold escS
  rw [if_neg h55, if_neg h56, if_neg h68, if_neg h69, if_neg h77, if_neg h99]
  exact .mk HS.out Upd.refl'
end
section
open Go.RowKit
theorem l03ArgG_c (kd n : Int) (pv : Bool) (tx : ByteArray) (xs : List Int) (aa : Option Addr) (ca : Nat) (i : Nat) (d : Int) (w : World) (ha : Sl intE 1 w aa xs) (hi : i ≤ 7) (hx : xs.length ≤ 8) :
    Calls Tryz.prog 117 #[.agg #[.int .i64 kd, .int .i64 n, .bool pv, .slice aa xs.length ca, .string tx], .int .i64 i, .int .i64 d] w fun e w' => e = .returned (.int .i64 (argA xs i d)) ∧ Below w.heap.size w w' := by
  obtain ⟨ln, hln⟩ : ∃ ln, xs.length = ln := ⟨_, rfl⟩
  have HLN := Lib.hid hln
  by_cases hil : i < xs.length
  · obtain ⟨b1, o1, rfl, hb1, hc1⟩ := (ha.alloc (.cells #[.int .i64 kd, .int .i64 n, .bool pv, .slice aa xs.length ca, .string tx] 38)).at hil
    have c1 := hc1 i hil 0 (by omega)
    obtain ⟨x, hx1⟩ : ∃ x, xs[i] = x := ⟨_, rfl⟩
    simp only [intE, Nat.mul_one, Nat.add_zero, List.getElem?_cons_zero] at c1
    rw [hx1] at c1
    have hv : argA xs i d = if x < 0 then d else x := by unfold argA; rw [dif_pos hil, hx1]
    rw [hv]
    rw [hln] at hb1 c1 hil hx ⊢
    clear hc1 ha hln hv hx1
    have g0 : ¬ ((i : Int) ≥ (ln : Int)) := by omega
    have g1 : (i : Int) < (ln : Int) := by omega
    by_cases h0 : x < 0
    · rw [if_pos h0]
      go_enter Tryz.func117, Tryz.ntmps117
      go_wp2_with fail
      go_ret
      exact ⟨rfl, (Below.refl _ _).alloc (Nat.le_refl _) _⟩
    · rw [if_neg h0]
      go_enter Tryz.func117, Tryz.ntmps117
      go_wp2_with fail
      go_ret
      exact ⟨rfl, (Below.refl _ _).alloc (Nat.le_refl _) _⟩
  · have hv : argA xs i d = d := by unfold argA; rw [dif_neg hil]
    rw [hv]
    rw [hln] at hil hx ⊢
    clear ha hln hv
    have g0 : (ln : Int) ≤ (i : Int) := by omega
    go_enter Tryz.func117, Tryz.ntmps117
    go_wp2_with fail
    go_ret
    exact ⟨rfl, (Below.refl _ _).alloc (Nat.le_refl _) _⟩
theorem scU_false (a b : Nat) (s : Scr) : ∀ n, ({ scU true a b n s with hist := s.hist } : Scr) = scU false a b n s
  | 0 => rfl
  | n + 1 => by
    have ih := scU_false a b s n
    show ({ scU1 true a b (scU true a b n s) with hist := s.hist } : Scr) = scU1 false a b (scU false a b n s)
    rw [← ih]
    unfold scU1
    simp
theorem withinU_c (lo b : Nat) (s : Scr) (g cc : Nat) (ah : Option Addr) (dh : Nat) (w : World) (t bt n : Nat) (h : ScrAt lo b 0 s g cc ah dh w) (ok : ScrOK s) (htb : t ≤ bt) (hbt : bt < s.h) (hn : n ≤ 10) (hlo : lo ≤ w.heap.size) :
    Calls Tryz.prog 119 #[.pointer (some ⟨b, 0, none⟩), .int .i64 t, .int .i64 bt, .int .i64 n] w fun e w' => e = .returned (.tuple #[]) ∧ ScrR lo b 0 (scU false t bt n s) g ah w w' := by
  have HS := Lib.hid h
  have HOK := Lib.hid ok
  have k_11 := h.c11
  clear h ok
  go_enter Tryz.func119, Tryz.ntmps119
  go_wp2_with fail
  refine (scrollU_c lo b s g cc ah dh _ t bt n HS.out HOK.out htb hbt hn hlo).mono ?_
  rintro e x1 ⟨rfl, ⟨g1, cc1, ah1, dh1, ha, hu, hg, hh⟩, hwo⟩
  have HWO := Lib.hid hwo
  have HA := Lib.hid ha
  have HU := Lib.hid hu
  have HG := Lib.hid hg
  have HH := Lib.hid hh
  have z_11 := ha.c11
  have z_f := ha.fz
  have z_l := ha.lt
  clear ha hu hg hh k_11 hwo
  go_wp2_with fail
  refine bodyPost_end (v := .tuple #[]) (by simp [results, Tryz.results119]) rfl ?_
  have hg1 : ∀ k ∈ blkOf ah, k ≠ b ∧ k ≠ g1 := fun k hk => ⟨(HS.out.hb k hk).1, fun e => by
    rcases HG.out with h4 | h4
    · exact (HS.out.hb k hk).2 (e.trans h4)
    · have := (HS.out.win.blk k hk).2; omega⟩
  have h9 := HA.out.hist HWO.out hg1
  rw [scU_false] at h9
  exact ⟨rfl, g1, cc1, ah, dh, h9, HU.out.set1'' (by omega) (by omega) _, HG.out, fun _ hi => .inl hi⟩
theorem withinD_c (lo b : Nat) (s : Scr) (g cc : Nat) (ah : Option Addr) (dh : Nat) (w : World) (t bt n : Nat) (h : ScrAt lo b 0 s g cc ah dh w) (ok : ScrOK s) (htb : t ≤ bt) (hbt : bt < s.h) (hn : n ≤ 10) (hlo : lo ≤ w.heap.size) :
    Calls Tryz.prog 119 #[.pointer (some ⟨b, 0, none⟩), .int .i64 t, .int .i64 bt, .int .i64 (-(n : Int))] w fun e w' => e = .returned (.tuple #[]) ∧ ScrR lo b 0 (scD t bt n s) g ah w w' := by
  have HS := Lib.hid h
  have HOK := Lib.hid ok
  have k_11 := h.c11
  clear h ok
  obtain ⟨V, hV⟩ : ∃ v, -(n : Int) = v := ⟨_, rfl⟩
  have HCALL : ∀ W, ScrAt lo b 0 s g cc ah dh W → Calls Tryz.prog 120 #[.pointer (some ⟨b, 0, none⟩), .int .i64 t, .int .i64 bt, .int .i64 V] W fun e w' => e = .returned (.tuple #[]) ∧ ScrAt lo b 0 (scD t bt n s) g cc ah dh w' ∧ Ch (· = g) W w' := fun W hW => by
    rw [← hV]
    exact scrollD_c lo b s g cc ah dh W t bt n hW HOK.out htb hbt hn
  rw [hV]
  clear hV
  go_enter Tryz.func119, Tryz.ntmps119
  go_wp2_with fail
  refine (HCALL _ HS.out).mono ?_
  rintro e x1 ⟨rfl, ha, hc⟩
  have HA := Lib.hid ha
  have HC := Lib.hid hc
  have z_11 := ha.c11
  have z_f := ha.fz
  have z_l := ha.lt
  clear ha hc k_11
  go_wp2_with fail
  refine bodyPost_end (v := .tuple #[]) (by simp [results, Tryz.results119]) rfl ?_
  have hh : (scD t bt n s).hist = s.hist := (scD_same t bt s n).2.2.2.2.2.2.2.2.2.2
  have h9 := HA.out.hist HA.out.win HA.out.hb
  rw [hh] at h9
  have e9 : ({ scD t bt n s with hist := s.hist } : Scr) = scD t bt n s := by rw [← hh]
  rw [e9] at h9
  exact ⟨rfl, .mk h9 ((Upd.ofCh (S := fun k => k = g ∨ k ∈ blkOf ah) HC.out HS.out.lt (fun e => HS.out.gb e.symm) (fun i hi => .inl (.inl hi))).set1'' (by omega) (by omega) _)⟩
end
end Go.Proofs.YtjmpgeffkdjpdaaGreatDoor
