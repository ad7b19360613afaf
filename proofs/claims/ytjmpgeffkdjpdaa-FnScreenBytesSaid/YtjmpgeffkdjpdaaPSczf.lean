/- Contracts of the functions that the claim reaches. No conditions but sizes. -/
import Derived.Test.YtjmpgeffkdjpdaaPScze
import Derived.Laws.IdiomStrings
namespace Go.Proofs.Ytjmpgeffkdjpdaa
set_option linter.unusedVariables false
set_option linter.unusedSimpArgs false
set_option maxRecDepth 100000
set_option maxHeartbeats 16000000
section
open Go.RowKit
section
variable {P : Program} {md : Region.Mode} {ops : Array Oper} {Q : Exit → Act → World → Prop} {S : World → Prop} {ex : Nat → Bool}
theorem wpAnyG_oneX {i : Nat} {o : Oper} {fuel : Nat} {listed : Array Bool} {a : Act} {w : World} (hr : Region.ready md ops listed = [i]) (ho : ops[i]? = some o) (hx : ex i = true)
    (h : ∀ K' : Act → World → Prop, Shut (∀ a w, wpAnyG P md ops Q S ex fuel (listed.setIfInBounds i true) a w → K' a w) → if Region.wanted o (yielded ops a.tmps) = true then Oper.wp P o a w K' Q else K' (a.put o.dst undef) w) : wpAnyG P md ops Q S ex (fuel + 1) listed a w :=
  ⟨fun h0 => (by rw [hr] at h0; cases h0), fun j hj => by
    rw [hr] at hj
    obtain rfl : j = i := by simpa using hj
    exact wpOp_step ho (fun K' hK => h K' (fun a w h2 => hK a w ⟨.inl hx, h2⟩))⟩
end
structure DrS (b : Nat) (a : Option Addr) (c : Nat) (xs : List UInt8) (K lo X Y : Nat) (s : Scr) (ac : Option Addr) (cc : Nat) (ah : Option Addr) (dh : Nat) (p : PV) (ap : Option Addr) (cp : Nat) (w : World) : Prop where
  sc : ScrF lo s ac cc ah dh w
  ok : ScrOK s
  pv : PvOK p
  ar : FreshIn intE 3 1 lo w.heap.size (.slice ap p.args.length cp) p.args w
  src : SrcAt b a c xs K w
  x0 : w.cell? ⟨X, 0, none⟩ = some (.int .i64 (s.w : Int))
  x1 : w.cell? ⟨X, 1, none⟩ = some (.int .i64 (s.h : Int))
  x2 : w.cell? ⟨X, 2, none⟩ = some (.int .i64 (s.x : Int))
  x3 : w.cell? ⟨X, 3, none⟩ = some (.int .i64 (s.y : Int))
  x4 : w.cell? ⟨X, 4, none⟩ = some (.int .i64 (s.look : Int))
  x5 : w.cell? ⟨X, 5, none⟩ = some (.int .i64 (s.top : Int))
  x6 : w.cell? ⟨X, 6, none⟩ = some (.int .i64 (s.bot : Int))
  x7 : w.cell? ⟨X, 7, none⟩ = some (.int .i64 (s.sx : Int))
  x8 : w.cell? ⟨X, 8, none⟩ = some (.int .i64 (s.sy : Int))
  x9 : w.cell? ⟨X, 9, none⟩ = some (.string s.title)
  x10 : w.cell? ⟨X, 10, none⟩ = some (.slice ac s.cells.length cc)
  x11 : w.cell? ⟨X, 11, none⟩ = some (.slice ah s.hist.length dh)
  y0 : w.cell? ⟨Y, 0, none⟩ = some (.int .i64 p.state)
  y1 : w.cell? ⟨Y, 1, none⟩ = some (.slice ap p.args.length cp)
  y2 : w.cell? ⟨Y, 2, none⟩ = some (.bool p.priv)
  y3 : w.cell? ⟨Y, 3, none⟩ = some (.string p.text)
  y4 : w.cell? ⟨Y, 4, none⟩ = some (.string p.utf)
  xf : ∀ o, w.frozen? ⟨X, o, none⟩ = false
  yf : ∀ o, w.frozen? ⟨Y, o, none⟩ = false
  xl : lo ≤ X ∧ X < w.heap.size
  yl : lo ≤ Y ∧ Y < w.heap.size
  xy : X ≠ Y
  bl : b < lo
  nx : ∀ k, k ∈ blkOf ac ∨ k ∈ blkOf ah ∨ k ∈ blkOf ap → k ≠ X ∧ k ≠ Y
theorem SrcAt.ch {b K c : Nat} {a : Option Addr} {xs : List UInt8} {w w' : World} {M : Nat → Prop} (h : SrcAt b a c xs K w) (hc : Ch M w w') (hb : ¬ M b) (ha : ∀ b' o, a = some ⟨b', o, none⟩ → xs = [] ∨ ¬ M b') : SrcAt b a c xs K w' := by
  obtain ⟨q, seed, h1, h2, h3, c0, c1, c2, hf, hs, hne, hb0⟩ := h
  refine ⟨q, seed, h1, h2, h3, (hc.cell (p := ⟨b, 0, none⟩) hb0 hb).trans c0, (hc.cell (p := ⟨b, 1, none⟩) hb0 hb).trans c1, (hc.cell (p := ⟨b, 2, none⟩) hb0 hb).trans c2, fun o => (hc.frozen (p := ⟨b, o, none⟩) hb0 hb).trans (hf o), ?_, hne, Nat.lt_of_lt_of_le hb0 hc.size⟩
  by_cases hx : xs = []
  · exact .inl hx
  · refine hs.ch hc (fun k hk => ?_)
    cases a with
    | none => simp [blkOf] at hk
    | some p =>
      simp only [blkOf, List.mem_singleton] at hk
      subst hk
      obtain ⟨pb, po, ps⟩ := p
      rcases hs with hs | ⟨b2, o2, he2, _⟩
      · exact absurd hs hx
      · cases he2
        exact (ha pb po rfl).resolve_left hx
theorem DrS.ch {b : Nat} {a : Option Addr} {c : Nat} {xs : List UInt8} {K K' lo X Y : Nat} {s : Scr} {ac : Option Addr} {cc : Nat} {ah : Option Addr} {dh : Nat} {p : PV} {ap : Option Addr} {cp : Nat} {w w' : World} (h : DrS b a c xs K lo X Y s ac cc ah dh p ap cp w) (hc : Ch (· = b) w w') (hs : SrcAt b a c xs K' w') : DrS b a c xs K' lo X Y s ac cc ah dh p ap cp w' := by
  have hb := h.bl
  have hX := h.xl
  have hY := h.yl
  have f1 := FreshIn.blks h.sc.row
  have f2 := h.sc.win.blk
  have f3 := FreshIn.blks h.ar
  have nX : ¬ X = b := by omega
  have nY : ¬ Y = b := by omega
  have hz := hc.size
  exact ⟨h.sc.ch hc (fun k hk e => by have := (f1 k hk).1; omega) (fun k hk e => by have := (f2 k hk).1; omega), h.ok, h.pv, h.ar.ch hc (fun k hk e => by have := (f3 k hk).1; omega), hs, (hc.cell (p := ⟨X, 0, none⟩) hX.2 nX).trans h.x0, (hc.cell (p := ⟨X, 1, none⟩) hX.2 nX).trans h.x1, (hc.cell (p := ⟨X, 2, none⟩) hX.2 nX).trans h.x2, (hc.cell (p := ⟨X, 3, none⟩) hX.2 nX).trans h.x3, (hc.cell (p := ⟨X, 4, none⟩) hX.2 nX).trans h.x4, (hc.cell (p := ⟨X, 5, none⟩) hX.2 nX).trans h.x5, (hc.cell (p := ⟨X, 6, none⟩) hX.2 nX).trans h.x6, (hc.cell (p := ⟨X, 7, none⟩) hX.2 nX).trans h.x7, (hc.cell (p := ⟨X, 8, none⟩) hX.2 nX).trans h.x8, (hc.cell (p := ⟨X, 9, none⟩) hX.2 nX).trans h.x9, (hc.cell (p := ⟨X, 10, none⟩) hX.2 nX).trans h.x10, (hc.cell (p := ⟨X, 11, none⟩) hX.2 nX).trans h.x11, (hc.cell (p := ⟨Y, 0, none⟩) hY.2 nY).trans h.y0, (hc.cell (p := ⟨Y, 1, none⟩) hY.2 nY).trans h.y1, (hc.cell (p := ⟨Y, 2, none⟩) hY.2 nY).trans h.y2, (hc.cell (p := ⟨Y, 3, none⟩) hY.2 nY).trans h.y3, (hc.cell (p := ⟨Y, 4, none⟩) hY.2 nY).trans h.y4, fun o => (hc.frozen (p := ⟨X, o, none⟩) hX.2 nX).trans (h.xf o), fun o => (hc.frozen (p := ⟨Y, o, none⟩) hY.2 nY).trans (h.yf o), ⟨hX.1, by omega⟩, ⟨hY.1, by omega⟩, h.xy, hb, h.nx⟩
theorem srcScreen_c (b : Nat) (a : Option Addr) (c : Nat) (xs : List UInt8) (w : World) (h : SrcAt b a c xs 0 w) :
    Calls Try.prog 12 #[.pointer (some ⟨b, 0, none⟩)] w fun e w' => ∃ s, ScrOK s ∧ Below b w w' ∧ ∃ ac cc ah dh, e = .returned (scrV s ac cc ah dh) ∧ ScrF w.heap.size s ac cc ah dh w' := by
  have hb0 : b < w.heap.size := h.lt
  have hfar := h.far
  obtain ⟨W0, hW0⟩ : ∃ x, w.alloc (.cells #[.int .i64 0, .int .i64 0, .int .i64 0, .int .i64 0, .int .i64 0, .int .i64 0, .int .i64 0, .int .i64 0, .int .i64 0, .string ⟨#[]⟩, .slice none 0 0, .slice none 0 0] 26) = x := ⟨_, rfl⟩
  have HB0 : Hid (Below w.heap.size w W0) := Lib.hid (by rw [← hW0]; exact (Below.refl _ _).alloc (Nat.le_refl _) _)
  have hz0 : w.heap.size < W0.heap.size := by rw [← hW0]; simp
  have z_0 : W0.cell? ⟨w.heap.size, 0, none⟩ = some (.int .i64 0) := by rw [← hW0]; simp [go_sem]
  have z_1 : W0.cell? ⟨w.heap.size, 1, none⟩ = some (.int .i64 0) := by rw [← hW0]; simp [go_sem]
  have z_2 : W0.cell? ⟨w.heap.size, 2, none⟩ = some (.int .i64 0) := by rw [← hW0]; simp [go_sem]
  have z_3 : W0.cell? ⟨w.heap.size, 3, none⟩ = some (.int .i64 0) := by rw [← hW0]; simp [go_sem]
  have z_4 : W0.cell? ⟨w.heap.size, 4, none⟩ = some (.int .i64 0) := by rw [← hW0]; simp [go_sem]
  have z_5 : W0.cell? ⟨w.heap.size, 5, none⟩ = some (.int .i64 0) := by rw [← hW0]; simp [go_sem]
  have z_6 : W0.cell? ⟨w.heap.size, 6, none⟩ = some (.int .i64 0) := by rw [← hW0]; simp [go_sem]
  have z_7 : W0.cell? ⟨w.heap.size, 7, none⟩ = some (.int .i64 0) := by rw [← hW0]; simp [go_sem]
  have z_8 : W0.cell? ⟨w.heap.size, 8, none⟩ = some (.int .i64 0) := by rw [← hW0]; simp [go_sem]
  have z_9 : W0.cell? ⟨w.heap.size, 9, none⟩ = some (.string ⟨#[]⟩) := by rw [← hW0]; simp [go_sem]
  have z_10 : W0.cell? ⟨w.heap.size, 10, none⟩ = some (.slice none 0 0) := by rw [← hW0]; simp [go_sem]
  have z_11 : W0.cell? ⟨w.heap.size, 11, none⟩ = some (.slice none 0 0) := by rw [← hW0]; simp [go_sem]
  have z_f : ∀ o, W0.frozen? ⟨w.heap.size, o, none⟩ = false := fun o => by rw [← hW0]; simp [go_sem]
  have HN := Lib.hid (srcNext_c b a c xs 0 12 W0 (h.below HB0.out) (by omega) (by omega) (by omega))
  clear h
  go_enter Try.func12, Try.ntmps12
  go_upto_region 1 with fail
  clear hW0
  go_wp2_with fail
  refine HN.out.mono ?_
  rintro e w1 ⟨m1, hm1, rfl, hs1, hd1⟩
  have HS1 := Lib.hid hs1
  have HD1 := Lib.hid hd1
  have hz1 := hd1.size
  have HN2 := Lib.hid (srcNext_c b a c xs 1 6 w1 hs1 (by omega) (by omega) (by omega))
  clear hs1 hd1
  go_wp2_with fail
  refine HN2.out.mono ?_
  rintro e w2 ⟨m2, hm2, rfl, hs2, hd2⟩
  have HS2 := Lib.hid hs2
  have HD2 := Lib.hid hd2
  have hz2 := hd2.size
  clear hs2 hd2
  obtain ⟨n1, hn1⟩ : ∃ n, 2 + m1 = n := ⟨_, rfl⟩
  obtain ⟨n2, hn2⟩ : ∃ n, 2 + m2 = n := ⟨_, rfl⟩
  have hi1 : (2 : Int) + (m1 : Int) = (n1 : Int) := by omega
  have hi2 : (2 : Int) + (m2 : Int) = (n2 : Int) := by omega
  go_wp2_with fail
  refine (l04New_c n1 n2 _ (by omega) (by omega) (by omega)).mono ?_
  rintro e w3 ⟨ac3, cc3, ah3, dh3, rfl, hf3, hb3⟩
  have HF3 := Lib.hid hf3
  have HB3 := Lib.hid hb3
  have hz3 := hb3.size
  unfold scrV
  obtain ⟨X, hX⟩ : ∃ x, w3.heap.size = x := ⟨_, rfl⟩
  obtain ⟨W3, hW3⟩ : ∃ x, w3.alloc (.cells #[.int .i64 ((newS n1 n2).w : Int), .int .i64 ((newS n1 n2).h : Int), .int .i64 ((newS n1 n2).x : Int), .int .i64 ((newS n1 n2).y : Int), .int .i64 ((newS n1 n2).look : Int), .int .i64 ((newS n1 n2).top : Int), .int .i64 ((newS n1 n2).bot : Int), .int .i64 ((newS n1 n2).sx : Int), .int .i64 ((newS n1 n2).sy : Int), .string (newS n1 n2).title, .slice ac3 (newS n1 n2).cells.length cc3, .slice ah3 (newS n1 n2).hist.length dh3] 26) = x := ⟨_, rfl⟩
  have HB3' : Hid (Below w3.heap.size w3 W3) := Lib.hid (by rw [← hW3]; exact (Below.refl _ _).alloc (Nat.le_refl _) _)
  have hX3 : X < W3.heap.size := by rw [← hW3, ← hX]; simp
  have x_0 : W3.cell? ⟨X, 0, none⟩ = some (.int .i64 ((newS n1 n2).w : Int)) := by rw [← hW3, ← hX]; simp [go_sem]
  have x_1 : W3.cell? ⟨X, 1, none⟩ = some (.int .i64 ((newS n1 n2).h : Int)) := by rw [← hW3, ← hX]; simp [go_sem]
  have x_2 : W3.cell? ⟨X, 2, none⟩ = some (.int .i64 ((newS n1 n2).x : Int)) := by rw [← hW3, ← hX]; simp [go_sem]
  have x_3 : W3.cell? ⟨X, 3, none⟩ = some (.int .i64 ((newS n1 n2).y : Int)) := by rw [← hW3, ← hX]; simp [go_sem]
  have x_4 : W3.cell? ⟨X, 4, none⟩ = some (.int .i64 ((newS n1 n2).look : Int)) := by rw [← hW3, ← hX]; simp [go_sem]
  have x_5 : W3.cell? ⟨X, 5, none⟩ = some (.int .i64 ((newS n1 n2).top : Int)) := by rw [← hW3, ← hX]; simp [go_sem]
  have x_6 : W3.cell? ⟨X, 6, none⟩ = some (.int .i64 ((newS n1 n2).bot : Int)) := by rw [← hW3, ← hX]; simp [go_sem]
  have x_7 : W3.cell? ⟨X, 7, none⟩ = some (.int .i64 ((newS n1 n2).sx : Int)) := by rw [← hW3, ← hX]; simp [go_sem]
  have x_8 : W3.cell? ⟨X, 8, none⟩ = some (.int .i64 ((newS n1 n2).sy : Int)) := by rw [← hW3, ← hX]; simp [go_sem]
  have x_9 : W3.cell? ⟨X, 9, none⟩ = some (.string (newS n1 n2).title) := by rw [← hW3, ← hX]; simp [go_sem]
  have x_10 : W3.cell? ⟨X, 10, none⟩ = some (.slice ac3 (newS n1 n2).cells.length cc3) := by rw [← hW3, ← hX]; simp [go_sem]
  have x_11 : W3.cell? ⟨X, 11, none⟩ = some (.slice ah3 (newS n1 n2).hist.length dh3) := by rw [← hW3, ← hX]; simp [go_sem]
  have x_f : ∀ o, W3.frozen? ⟨X, o, none⟩ = false := fun o => by rw [← hW3, ← hX]; simp [go_sem]
  clear hf3 hb3 hi1 hi2
  go_upto_region 2 with fail
  clear hW3
  go_upto_region 3 with fail
  obtain ⟨Y, hY⟩ : ∃ x, W3.heap.size + 1 = x := ⟨_, rfl⟩
  obtain ⟨W5, hW5⟩ : ∃ x, (W3.alloc (.cells #[] 3)).alloc (.cells #[.int .i64 0, .slice (some ⟨W3.heap.size, 0, none⟩) 0 0, .bool false, .string ⟨#[]⟩, .string ⟨#[]⟩] 50) = x := ⟨_, rfl⟩
  rw [hW5, hY]
  have HB5 : Hid (Below W3.heap.size W3 W5) := Lib.hid (by rw [← hW5]; exact ((Below.refl _ _).alloc (Nat.le_refl _) _).alloc (by simp) _)
  have hY5 : Y < W5.heap.size := by rw [← hW5, ← hY]; simp
  have HAR : Hid (FreshIn intE 3 1 (w.heap.size + 1) W5.heap.size (.slice (some ⟨W3.heap.size, 0, none⟩) 0 0) ([] : List Int) W5) := Lib.hid (by
    rw [← hW5]
    exact (FreshIn.emp intE _ 1 (w.heap.size + 1) W3 (by omega)).keepB ((Below.refl _ _).alloc (Nat.le_refl _) _))
  have y_0 : W5.cell? ⟨Y, 0, none⟩ = some (.int .i64 0) := by rw [← hW5, ← hY]; simp [go_sem]
  have y_1 : W5.cell? ⟨Y, 1, none⟩ = some (.slice (some ⟨W3.heap.size, 0, none⟩) 0 0) := by rw [← hW5, ← hY]; simp [go_sem]
  have y_2 : W5.cell? ⟨Y, 2, none⟩ = some (.bool false) := by rw [← hW5, ← hY]; simp [go_sem]
  have y_3 : W5.cell? ⟨Y, 3, none⟩ = some (.string ⟨#[]⟩) := by rw [← hW5, ← hY]; simp [go_sem]
  have y_4 : W5.cell? ⟨Y, 4, none⟩ = some (.string ⟨#[]⟩) := by rw [← hW5, ← hY]; simp [go_sem]
  have y_f : ∀ o, W5.frozen? ⟨Y, o, none⟩ = false := fun o => by rw [← hW5, ← hY]; simp [go_sem]
  obtain ⟨lo, hlo⟩ : ∃ l, w.heap.size = l := ⟨_, rfl⟩
  have HLO := Lib.hid hlo
  have HZ0 : Hid (W0.cell? ⟨lo, 0, none⟩ = some (.int .i64 0) ∧ W0.cell? ⟨lo, 1, none⟩ = some (.int .i64 0) ∧ W0.cell? ⟨lo, 2, none⟩ = some (.int .i64 0) ∧ W0.cell? ⟨lo, 3, none⟩ = some (.int .i64 0) ∧ W0.cell? ⟨lo, 4, none⟩ = some (.int .i64 0) ∧ W0.cell? ⟨lo, 5, none⟩ = some (.int .i64 0) ∧ W0.cell? ⟨lo, 6, none⟩ = some (.int .i64 0) ∧ W0.cell? ⟨lo, 7, none⟩ = some (.int .i64 0) ∧ W0.cell? ⟨lo, 8, none⟩ = some (.int .i64 0) ∧ W0.cell? ⟨lo, 9, none⟩ = some (.string ⟨#[]⟩) ∧ W0.cell? ⟨lo, 10, none⟩ = some (.slice none 0 0) ∧ W0.cell? ⟨lo, 11, none⟩ = some (.slice none 0 0) ∧ ∀ o, W0.frozen? ⟨lo, o, none⟩ = false) := Lib.hid (by rw [← hlo]; exact ⟨z_0, z_1, z_2, z_3, z_4, z_5, z_6, z_7, z_8, z_9, z_10, z_11, z_f⟩)
  have HDR : Hid (DrS b a c xs 2 (lo + 1) X Y (newS n1 n2) ac3 cc3 ah3 dh3 pz (some ⟨W3.heap.size, 0, none⟩) 0 W5) := Lib.hid (by
    have f1 := FreshIn.blks HF3.out.row
    have f2 := HF3.out.win.blk
    have g1 : ∀ k, k ∈ blkOf ac3 ∨ k ∈ blkOf ah3 ∨ k ∈ blkOf (some ⟨W3.heap.size, 0, none⟩) → k ≠ X ∧ k ≠ Y := fun k hk => by
      rcases hk with h | h | h
      · have := f1 k h; omega
      · have := f2 k h; omega
      · simp [blkOf] at h; omega
    have hsc : ScrF (lo + 1) (newS n1 n2) ac3 cc3 ah3 dh3 W5 := ((HF3.out.low (by omega)).below HB3'.out).below HB5.out
    have hsrc : SrcAt b a c xs 2 W5 := ((HS2.out.below HB3.out).below HB3'.out).below HB5.out
    have hX5 : X < W5.heap.size := by have := HB5.out.size; omega
    exact ⟨hsc, ScrOK.new (by omega) (by omega) (by omega) (by omega), PvOK.z, by rw [← hlo]; exact HAR.out, hsrc, (HB5.out.cell (p := ⟨X, 0, none⟩) hX3).trans x_0, (HB5.out.cell (p := ⟨X, 1, none⟩) hX3).trans x_1, (HB5.out.cell (p := ⟨X, 2, none⟩) hX3).trans x_2, (HB5.out.cell (p := ⟨X, 3, none⟩) hX3).trans x_3, (HB5.out.cell (p := ⟨X, 4, none⟩) hX3).trans x_4, (HB5.out.cell (p := ⟨X, 5, none⟩) hX3).trans x_5, (HB5.out.cell (p := ⟨X, 6, none⟩) hX3).trans x_6, (HB5.out.cell (p := ⟨X, 7, none⟩) hX3).trans x_7, (HB5.out.cell (p := ⟨X, 8, none⟩) hX3).trans x_8, (HB5.out.cell (p := ⟨X, 9, none⟩) hX3).trans x_9, (HB5.out.cell (p := ⟨X, 10, none⟩) hX3).trans x_10, (HB5.out.cell (p := ⟨X, 11, none⟩) hX3).trans x_11, y_0, y_1, y_2, y_3, y_4, fun o => (HB5.out.frozen (p := ⟨X, o, none⟩) hX3).trans (x_f o), y_f, ⟨by omega, hX5⟩, ⟨by omega, hY5⟩, by omega, by omega, g1⟩)
  have HZ : Hid ((∀ o, W5.cell? ⟨lo, o, none⟩ = W0.cell? ⟨lo, o, none⟩) ∧ (∀ o, W5.frozen? ⟨lo, o, none⟩ = W0.frozen? ⟨lo, o, none⟩) ∧ Ch (fun k => k = b ∨ lo ≤ k) w W5) := Lib.hid (by
    have h1 : Mid b (b + 1) W0 w2 := HD1.out.trans HD2.out
    have hzz : lo < w2.heap.size := by omega
    have h2 : Below w2.heap.size w2 W5 := (HB3.out.trans (HB3'.out.mono hz3)).trans (HB5.out.mono (by omega))
    refine ⟨fun o => (h2.cell (p := ⟨lo, o, none⟩) hzz).trans (h1.cell (p := ⟨lo, o, none⟩) (by show lo < _; omega) (.inr (by show b + 1 ≤ lo; omega))), fun o => (h2.frozen (p := ⟨lo, o, none⟩) hzz).trans (h1.frozen (p := ⟨lo, o, none⟩) (by show lo < _; omega) (.inr (by show b + 1 ≤ lo; omega))), ?_⟩
    exact ((Ch.of_below HB0.out).trans (Ch.of_mid (M := fun k => k = b ∨ lo ≤ k) h1 (fun k h1 h2 _ => .inl (by omega))) (fun i hi => .inl hi)).trans (N := fun _ => False) (Ch.of_below h2) (fun _ h => h.elim))
  have hloX : lo < X := by omega
  have hloY : lo < Y := by omega
  have hlo5 : lo < W5.heap.size := by omega
  have hbl : b < lo := by omega
  have HFAR : Hid (∀ b' o, a = some ⟨b', o, none⟩ → xs = [] ∨ b' < lo) := Lib.hid (by rw [← hlo]; exact hfar)
  have HN5 := Lib.hid (srcNext_c b a c xs 2 5 W5 HDR.out.src (by omega) (by omega) (by omega))
  clear hW5 x_0 x_1 x_2 x_3 x_4 x_5 x_6 x_7 x_8 x_9 x_10 x_11 x_f y_0 y_1 y_2 y_3 y_4 y_f z_0 z_1 z_2 z_3 z_4 z_5 z_6 z_7 z_8 z_9 z_10 z_11 z_f
  go_wp2_with fail
  refine HN5.out.mono ?_
  rintro e w6 ⟨m5, hm5, rfl, hs6, hd6⟩
  have hc6 : Ch (· = b) W5 w6 := Ch.of_mid hd6 (fun k h1 h2 _ => by omega)
  have HDR6 := Lib.hid (HDR.out.ch hc6 hs6)
  have HZ6 : Hid ((∀ o, w6.cell? ⟨lo, o, none⟩ = W0.cell? ⟨lo, o, none⟩) ∧ (∀ o, w6.frozen? ⟨lo, o, none⟩ = W0.frozen? ⟨lo, o, none⟩) ∧ Ch (fun k => k = b ∨ lo ≤ k) w w6) := Lib.hid ⟨fun o => (hc6.cell (p := ⟨lo, o, none⟩) hlo5 (by show ¬ lo = b; omega)).trans (HZ.out.1 o), fun o => (hc6.frozen (p := ⟨lo, o, none⟩) hlo5 (by show ¬ lo = b; omega)).trans (HZ.out.2.1 o), HZ.out.2.2.trans hc6 (fun i hi => .inl (.inl hi))⟩
  have hlo6 : lo < w6.heap.size := by have := hc6.size; omega
  clear hs6 hd6 hc6
  go_wp2_with fail
  go_loopw [5] (fun iv wr => ∃ (j : Nat), j ≤ 4 ∧ iv = .int .i64 j ∧ Hid (∃ K s ac cc ah dh p ap cp, K ≤ 1000 * (5 - j) ∧ DrS b a c xs K (lo + 1) X Y s ac cc ah dh p ap cp wr ∧ (∀ o, wr.cell? ⟨lo, o, none⟩ = W0.cell? ⟨lo, o, none⟩) ∧ (∀ o, wr.frozen? ⟨lo, o, none⟩ = W0.frozen? ⟨lo, o, none⟩) ∧ Ch (fun k => k = b ∨ lo ≤ k) w wr ∧ lo < wr.heap.size)) (fun iv _ => (intOf iv).toNat)
  case atStart => exact ⟨m5, by omega, rfl, Lib.hid ⟨3, _, _, _, _, _, _, _, _, by omega, HDR6.out, HZ6.out.1, HZ6.out.2.1, HZ6.out.2.2, hlo6⟩⟩
  case round =>
    obtain ⟨j, hj, rfl, HI⟩ := hrel
    obtain ⟨K, s, ac, cc, ah, dh, p, ap, cp, hK, hdr, hzc, hzf, hch, hlr⟩ := HI.out
    have HD := Lib.hid hdr
    have HZC := Lib.hid hzc
    have HZF := Lib.hid hzf
    have HCH := Lib.hid hch
    clear hdr hzc hzf hch
    by_cases hj0 : 0 < j
    · have hj0' : (0 : Int) < (j : Int) := by omega
      go_upto_region 6 with fail
      have x_0 := HD.out.x0
      have x_1 := HD.out.x1
      have x_2 := HD.out.x2
      have x_3 := HD.out.x3
      have x_4 := HD.out.x4
      have x_5 := HD.out.x5
      have x_6 := HD.out.x6
      have x_7 := HD.out.x7
      have x_8 := HD.out.x8
      have x_9 := HD.out.x9
      have x_10 := HD.out.x10
      have x_11 := HD.out.x11
      have y_0 := HD.out.y0
      have y_1 := HD.out.y1
      have y_2 := HD.out.y2
      have y_3 := HD.out.y3
      have y_4 := HD.out.y4
      have hS0 : wr.cell? ⟨X, 0, none⟩ = some (.int .i64 (s.w : Int)) ∧ wr.cell? ⟨X, 1, none⟩ = some (.int .i64 (s.h : Int)) ∧ wr.cell? ⟨X, 2, none⟩ = some (.int .i64 (s.x : Int)) ∧ wr.cell? ⟨X, 3, none⟩ = some (.int .i64 (s.y : Int)) ∧ wr.cell? ⟨X, 4, none⟩ = some (.int .i64 (s.look : Int)) ∧ wr.cell? ⟨X, 5, none⟩ = some (.int .i64 (s.top : Int)) ∧ wr.cell? ⟨X, 6, none⟩ = some (.int .i64 (s.bot : Int)) ∧ wr.cell? ⟨X, 7, none⟩ = some (.int .i64 (s.sx : Int)) ∧ wr.cell? ⟨X, 8, none⟩ = some (.int .i64 (s.sy : Int)) ∧ wr.cell? ⟨X, 9, none⟩ = some (.string s.title) ∧ wr.cell? ⟨X, 10, none⟩ = some (.slice ac s.cells.length cc) ∧ wr.cell? ⟨X, 11, none⟩ = some (.slice ah s.hist.length dh) ∧ wr.cell? ⟨Y, 0, none⟩ = some (.int .i64 p.state) ∧ wr.cell? ⟨Y, 1, none⟩ = some (.slice ap p.args.length cp) ∧ wr.cell? ⟨Y, 2, none⟩ = some (.bool p.priv) ∧ wr.cell? ⟨Y, 3, none⟩ = some (.string p.text) ∧ wr.cell? ⟨Y, 4, none⟩ = some (.string p.utf) := ⟨x_0, x_1, x_2, x_3, x_4, x_5, x_6, x_7, x_8, x_9, x_10, x_11, y_0, y_1, y_2, y_3, y_4⟩
      refine wp_region_G (fun w' => w'.cell? ⟨X, 0, none⟩ = some (.int .i64 (s.w : Int)) ∧ w'.cell? ⟨X, 1, none⟩ = some (.int .i64 (s.h : Int)) ∧ w'.cell? ⟨X, 2, none⟩ = some (.int .i64 (s.x : Int)) ∧ w'.cell? ⟨X, 3, none⟩ = some (.int .i64 (s.y : Int)) ∧ w'.cell? ⟨X, 4, none⟩ = some (.int .i64 (s.look : Int)) ∧ w'.cell? ⟨X, 5, none⟩ = some (.int .i64 (s.top : Int)) ∧ w'.cell? ⟨X, 6, none⟩ = some (.int .i64 (s.bot : Int)) ∧ w'.cell? ⟨X, 7, none⟩ = some (.int .i64 (s.sx : Int)) ∧ w'.cell? ⟨X, 8, none⟩ = some (.int .i64 (s.sy : Int)) ∧ w'.cell? ⟨X, 9, none⟩ = some (.string s.title) ∧ w'.cell? ⟨X, 10, none⟩ = some (.slice ac s.cells.length cc) ∧ w'.cell? ⟨X, 11, none⟩ = some (.slice ah s.hist.length dh) ∧ w'.cell? ⟨Y, 0, none⟩ = some (.int .i64 p.state) ∧ w'.cell? ⟨Y, 1, none⟩ = some (.slice ap p.args.length cp) ∧ w'.cell? ⟨Y, 2, none⟩ = some (.bool p.priv) ∧ w'.cell? ⟨Y, 3, none⟩ = some (.string p.text) ∧ w'.cell? ⟨Y, 4, none⟩ = some (.string p.utf)) (fun i => i == 8 || i == 9) (by kernel_rfl) hS0 ?_
      refine tL ?_ 0 rfl hS0 ?_ ?_; rotate_left
      · intro w' hSw; obtain ⟨s0, s1, s2, s3, s4, s5, s6, s7, s8, s9, s10, s11, s12, s13, s14, s15, s16⟩ := hSw; go_simp; try rfl
      try simp only [Act.put,j1,j2,j3,j4,j5,j6]
      refine tL ?_ 1 rfl hS0 ?_ ?_; rotate_left
      · intro w' hSw; obtain ⟨s0, s1, s2, s3, s4, s5, s6, s7, s8, s9, s10, s11, s12, s13, s14, s15, s16⟩ := hSw; go_simp; try rfl
      try simp only [Act.put,j1,j2,j3,j4,j5,j6]
      refine tW ?_ 2 rfl ?_ ?_; rotate_left
      · intro w' hSw; go_simp; try rfl
      try simp only [Act.put,j1,j2,j3,j4,j5,j6]
      refine wpAnyG_one (i := 3) (by kernel_rfl) rfl hS0 (fun K' hK => ?_)
      simp only [j1,j2,j3]
      go_simp
      refine (srcOutput_c b a c xs K _ (HD.out.src.below ((Below.refl _ _).drew)) (by omega)).mono ?_
      rintro e x1 ⟨t, ⟨ht1, ht2⟩, rfl, hs1, hd1⟩
      have hc1 : Ch (· = b) wr x1 := (Ch.refl.drew).trans (Ch.of_mid (M := (· = b)) hd1 (fun k h1 h2 _ => by omega)) (fun _ h => .inl h)
      have HD1 := Lib.hid (HD.out.ch hc1 hs1)
      have HC1 := Lib.hid hc1
      have hzx1 := hc1.size
      have hSx1 : x1.cell? ⟨X, 0, none⟩ = some (.int .i64 (s.w : Int)) ∧ x1.cell? ⟨X, 1, none⟩ = some (.int .i64 (s.h : Int)) ∧ x1.cell? ⟨X, 2, none⟩ = some (.int .i64 (s.x : Int)) ∧ x1.cell? ⟨X, 3, none⟩ = some (.int .i64 (s.y : Int)) ∧ x1.cell? ⟨X, 4, none⟩ = some (.int .i64 (s.look : Int)) ∧ x1.cell? ⟨X, 5, none⟩ = some (.int .i64 (s.top : Int)) ∧ x1.cell? ⟨X, 6, none⟩ = some (.int .i64 (s.bot : Int)) ∧ x1.cell? ⟨X, 7, none⟩ = some (.int .i64 (s.sx : Int)) ∧ x1.cell? ⟨X, 8, none⟩ = some (.int .i64 (s.sy : Int)) ∧ x1.cell? ⟨X, 9, none⟩ = some (.string s.title) ∧ x1.cell? ⟨X, 10, none⟩ = some (.slice ac s.cells.length cc) ∧ x1.cell? ⟨X, 11, none⟩ = some (.slice ah s.hist.length dh) ∧ x1.cell? ⟨Y, 0, none⟩ = some (.int .i64 p.state) ∧ x1.cell? ⟨Y, 1, none⟩ = some (.slice ap p.args.length cp) ∧ x1.cell? ⟨Y, 2, none⟩ = some (.bool p.priv) ∧ x1.cell? ⟨Y, 3, none⟩ = some (.string p.text) ∧ x1.cell? ⟨Y, 4, none⟩ = some (.string p.utf) := ⟨HD1.out.x0, HD1.out.x1, HD1.out.x2, HD1.out.x3, HD1.out.x4, HD1.out.x5, HD1.out.x6, HD1.out.x7, HD1.out.x8, HD1.out.x9, HD1.out.x10, HD1.out.x11, HD1.out.y0, HD1.out.y1, HD1.out.y2, HD1.out.y3, HD1.out.y4⟩
      clear hs1 hd1 hc1
      refine hK.out _ _ (Or.inr hSx1) ?_
      clear hK K'
      try simp only [Act.put,j1,j2,j3,j4,j5,j6]
      refine wpAnyG_one (i := 4) (by kernel_rfl) rfl hSx1 (fun K' hK => ?_)
      simp only [j1,j2,j3]
      go_simp
      refine (l04Feed_c s ac cc ah dh p ap cp t _ HD1.out.sc.rd HD1.out.ok HD1.out.pv (FreshIn.sl (enc := intE) (fun _ => rfl) HD1.out.ar) (by omega)).mono ?_
      rintro e x2 ⟨ac2, cc2, ah2, dh2, ap2, cp2, rfl, hsc2, har2, hdj2, hb2⟩
      obtain ⟨s2, hs2⟩ : ∃ z, actsS s (prun p t.data.toList).2 = z := ⟨_, rfl⟩
      obtain ⟨p2, hp2⟩ : ∃ z, (prun p t.data.toList).1 = z := ⟨_, rfl⟩
      have hok2 : ScrOK s2 := by
        rw [← hs2]
        exact HD1.out.ok.acts (fun A hA => prun_ac t.data.toList HD1.out.pv A hA)
      have hpv2 : PvOK p2 := by rw [← hp2]; exact prun_ok _ HD1.out.pv
      rw [hs2] at hsc2
      rw [hp2] at har2
      rw [hs2, hp2]
      have HSC2 := Lib.hid hsc2
      have HAR2 := Lib.hid har2
      have HB2 := Lib.hid hb2
      have HOK2 := Lib.hid hok2
      have HPV2 := Lib.hid hpv2
      have hzx2 := hb2.size
      have HD2 := Lib.hid (HD1.out.ch (w' := x2) (Ch.of_below hb2) (HD1.out.src.below hb2))
      have hSx2 : x2.cell? ⟨X, 0, none⟩ = some (.int .i64 (s.w : Int)) ∧ x2.cell? ⟨X, 1, none⟩ = some (.int .i64 (s.h : Int)) ∧ x2.cell? ⟨X, 2, none⟩ = some (.int .i64 (s.x : Int)) ∧ x2.cell? ⟨X, 3, none⟩ = some (.int .i64 (s.y : Int)) ∧ x2.cell? ⟨X, 4, none⟩ = some (.int .i64 (s.look : Int)) ∧ x2.cell? ⟨X, 5, none⟩ = some (.int .i64 (s.top : Int)) ∧ x2.cell? ⟨X, 6, none⟩ = some (.int .i64 (s.bot : Int)) ∧ x2.cell? ⟨X, 7, none⟩ = some (.int .i64 (s.sx : Int)) ∧ x2.cell? ⟨X, 8, none⟩ = some (.int .i64 (s.sy : Int)) ∧ x2.cell? ⟨X, 9, none⟩ = some (.string s.title) ∧ x2.cell? ⟨X, 10, none⟩ = some (.slice ac s.cells.length cc) ∧ x2.cell? ⟨X, 11, none⟩ = some (.slice ah s.hist.length dh) ∧ x2.cell? ⟨Y, 0, none⟩ = some (.int .i64 p.state) ∧ x2.cell? ⟨Y, 1, none⟩ = some (.slice ap p.args.length cp) ∧ x2.cell? ⟨Y, 2, none⟩ = some (.bool p.priv) ∧ x2.cell? ⟨Y, 3, none⟩ = some (.string p.text) ∧ x2.cell? ⟨Y, 4, none⟩ = some (.string p.utf) := ⟨HD2.out.x0, HD2.out.x1, HD2.out.x2, HD2.out.x3, HD2.out.x4, HD2.out.x5, HD2.out.x6, HD2.out.x7, HD2.out.x8, HD2.out.x9, HD2.out.x10, HD2.out.x11, HD2.out.y0, HD2.out.y1, HD2.out.y2, HD2.out.y3, HD2.out.y4⟩
      clear hs2 hp2 hok2 hpv2 hsc2 har2 hdj2 hb2
      unfold scrV
      refine hK.out _ _ (Or.inr hSx2) ?_
      clear hK K'
      try simp only [Act.put,j1,j2,j3,j4,j5,j6]
      refine tW ?_ 5 rfl ?_ ?_; rotate_left
      · intro w' hSw; go_simp; try rfl
      try simp only [Act.put,j1,j2,j3,j4,j5,j6]
      refine tW ?_ 6 rfl ?_ ?_; rotate_left
      · intro w' hSw; go_simp; try rfl
      try simp only [Act.put,j1,j2,j3,j4,j5,j6]
      refine tW ?_ 7 rfl ?_ ?_; rotate_left
      · intro w' hSw; go_simp; try rfl
      try simp only [Act.put,j1,j2,j3,j4,j5,j6]
      have e_0 := HD2.out.x0
      have e_1 := HD2.out.x1
      have e_2 := HD2.out.x2
      have e_3 := HD2.out.x3
      have e_4 := HD2.out.x4
      have e_5 := HD2.out.x5
      have e_6 := HD2.out.x6
      have e_7 := HD2.out.x7
      have e_8 := HD2.out.x8
      have e_9 := HD2.out.x9
      have e_10 := HD2.out.x10
      have e_11 := HD2.out.x11
      have e_f := HD2.out.xf
      have e_l := HD2.out.xl.2
      refine wpAnyG_oneX (i := 8) (by kernel_rfl) rfl (by rfl) (fun K' hK => ?_)
      simp only [j1,j2,j3]
      go_simp
      obtain ⟨x3, hx3⟩ : ∃ x, ((((((((((((x2.setCell ⟨X, 0, none⟩ (.int .i64 (s2.w : Int))).setCell ⟨X, 1, none⟩ (.int .i64 (s2.h : Int))).setCell ⟨X, 2, none⟩ (.int .i64 (s2.x : Int))).setCell ⟨X, 3, none⟩ (.int .i64 (s2.y : Int))).setCell ⟨X, 4, none⟩ (.int .i64 (s2.look : Int))).setCell ⟨X, 5, none⟩ (.int .i64 (s2.top : Int))).setCell ⟨X, 6, none⟩ (.int .i64 (s2.bot : Int))).setCell ⟨X, 7, none⟩ (.int .i64 (s2.sx : Int))).setCell ⟨X, 8, none⟩ (.int .i64 (s2.sy : Int))).setCell ⟨X, 9, none⟩ (.string s2.title)).setCell ⟨X, 10, none⟩ (.slice ac2 s2.cells.length cc2)).setCell ⟨X, 11, none⟩ (.slice ah2 s2.hist.length dh2)) = x := ⟨_, rfl⟩
      have HC3 : Hid (Ch (· = X) x2 x3) := Lib.hid (by rw [← hx3]; exact (((((((((((Ch.set1' _ _ 0 _).trans (Ch.set1' _ _ 1 _) (fun _ h => .inl h)).trans (Ch.set1' _ _ 2 _) (fun _ h => .inl h)).trans (Ch.set1' _ _ 3 _) (fun _ h => .inl h)).trans (Ch.set1' _ _ 4 _) (fun _ h => .inl h)).trans (Ch.set1' _ _ 5 _) (fun _ h => .inl h)).trans (Ch.set1' _ _ 6 _) (fun _ h => .inl h)).trans (Ch.set1' _ _ 7 _) (fun _ h => .inl h)).trans (Ch.set1' _ _ 8 _) (fun _ h => .inl h)).trans (Ch.set1' _ _ 9 _) (fun _ h => .inl h)).trans (Ch.set1' _ _ 10 _) (fun _ h => .inl h)).trans (Ch.set1' _ _ 11 _) (fun _ h => .inl h))
      have hzx3 := HC3.out.size
      have hnYX : ¬ Y = X := fun e => HD.out.xy e.symm
      have hnXY : ¬ X = Y := HD.out.xy
      have t_0 : x3.cell? ⟨X, 0, none⟩ = some (.int .i64 (s2.w : Int)) := by rw [← hx3]; simp [go_sem, e_0, e_1, e_2, e_3, e_4, e_5, e_6, e_7, e_8, e_9, e_10, e_11, e_l]
      have t_1 : x3.cell? ⟨X, 1, none⟩ = some (.int .i64 (s2.h : Int)) := by rw [← hx3]; simp [go_sem, e_0, e_1, e_2, e_3, e_4, e_5, e_6, e_7, e_8, e_9, e_10, e_11, e_l]
      have t_2 : x3.cell? ⟨X, 2, none⟩ = some (.int .i64 (s2.x : Int)) := by rw [← hx3]; simp [go_sem, e_0, e_1, e_2, e_3, e_4, e_5, e_6, e_7, e_8, e_9, e_10, e_11, e_l]
      have t_3 : x3.cell? ⟨X, 3, none⟩ = some (.int .i64 (s2.y : Int)) := by rw [← hx3]; simp [go_sem, e_0, e_1, e_2, e_3, e_4, e_5, e_6, e_7, e_8, e_9, e_10, e_11, e_l]
      have t_4 : x3.cell? ⟨X, 4, none⟩ = some (.int .i64 (s2.look : Int)) := by rw [← hx3]; simp [go_sem, e_0, e_1, e_2, e_3, e_4, e_5, e_6, e_7, e_8, e_9, e_10, e_11, e_l]
      have t_5 : x3.cell? ⟨X, 5, none⟩ = some (.int .i64 (s2.top : Int)) := by rw [← hx3]; simp [go_sem, e_0, e_1, e_2, e_3, e_4, e_5, e_6, e_7, e_8, e_9, e_10, e_11, e_l]
      have t_6 : x3.cell? ⟨X, 6, none⟩ = some (.int .i64 (s2.bot : Int)) := by rw [← hx3]; simp [go_sem, e_0, e_1, e_2, e_3, e_4, e_5, e_6, e_7, e_8, e_9, e_10, e_11, e_l]
      have t_7 : x3.cell? ⟨X, 7, none⟩ = some (.int .i64 (s2.sx : Int)) := by rw [← hx3]; simp [go_sem, e_0, e_1, e_2, e_3, e_4, e_5, e_6, e_7, e_8, e_9, e_10, e_11, e_l]
      have t_8 : x3.cell? ⟨X, 8, none⟩ = some (.int .i64 (s2.sy : Int)) := by rw [← hx3]; simp [go_sem, e_0, e_1, e_2, e_3, e_4, e_5, e_6, e_7, e_8, e_9, e_10, e_11, e_l]
      have t_9 : x3.cell? ⟨X, 9, none⟩ = some (.string s2.title) := by rw [← hx3]; simp [go_sem, e_0, e_1, e_2, e_3, e_4, e_5, e_6, e_7, e_8, e_9, e_10, e_11, e_l]
      have t_10 : x3.cell? ⟨X, 10, none⟩ = some (.slice ac2 s2.cells.length cc2) := by rw [← hx3]; simp [go_sem, e_0, e_1, e_2, e_3, e_4, e_5, e_6, e_7, e_8, e_9, e_10, e_11, e_l]
      have t_11 : x3.cell? ⟨X, 11, none⟩ = some (.slice ah2 s2.hist.length dh2) := by rw [← hx3]; simp [go_sem, e_0, e_1, e_2, e_3, e_4, e_5, e_6, e_7, e_8, e_9, e_10, e_11, e_l]
      have x3_fX : ∀ o, x3.frozen? ⟨X, o, none⟩ = false := fun o => by rw [← hx3]; simp only [World.frozen?_setCell]; exact HD2.out.xf o
      rw [hx3]
      clear hx3 e_0 e_1 e_2 e_3 e_4 e_5 e_6 e_7 e_8 e_9 e_10 e_11 e_f e_l
      have e_0 := (HC3.out.cell (p := ⟨Y, 0, none⟩) HD2.out.yl.2 hnYX).trans HD2.out.y0
      have e_1 := (HC3.out.cell (p := ⟨Y, 1, none⟩) HD2.out.yl.2 hnYX).trans HD2.out.y1
      have e_2 := (HC3.out.cell (p := ⟨Y, 2, none⟩) HD2.out.yl.2 hnYX).trans HD2.out.y2
      have e_3 := (HC3.out.cell (p := ⟨Y, 3, none⟩) HD2.out.yl.2 hnYX).trans HD2.out.y3
      have e_4 := (HC3.out.cell (p := ⟨Y, 4, none⟩) HD2.out.yl.2 hnYX).trans HD2.out.y4
      have e_f : ∀ o, x3.frozen? ⟨Y, o, none⟩ = false := fun o => (HC3.out.frozen (p := ⟨Y, o, none⟩) HD2.out.yl.2 hnYX).trans (HD2.out.yf o)
      have e_l : Y < x3.heap.size := Nat.lt_of_lt_of_le HD2.out.yl.2 hzx3
      refine hK.out _ _ ?_
      clear hK K'
      try simp only [Act.put,j1,j2,j3,j4,j5,j6]
      refine wpAnyG_oneX (i := 9) (by kernel_rfl) rfl (by rfl) (fun K' hK => ?_)
      simp only [j1,j2,j3]
      go_simp
      obtain ⟨x4, hx4⟩ : ∃ x, (((((x3.setCell ⟨Y, 0, none⟩ (.int .i64 p2.state)).setCell ⟨Y, 1, none⟩ (.slice ap2 p2.args.length cp2)).setCell ⟨Y, 2, none⟩ (.bool p2.priv)).setCell ⟨Y, 3, none⟩ (.string p2.text)).setCell ⟨Y, 4, none⟩ (.string p2.utf)) = x := ⟨_, rfl⟩
      have HC4 : Hid (Ch (· = Y) x3 x4) := Lib.hid (by rw [← hx4]; exact ((((Ch.set1' _ _ 0 _).trans (Ch.set1' _ _ 1 _) (fun _ h => .inl h)).trans (Ch.set1' _ _ 2 _) (fun _ h => .inl h)).trans (Ch.set1' _ _ 3 _) (fun _ h => .inl h)).trans (Ch.set1' _ _ 4 _) (fun _ h => .inl h))
      have u_0 : x4.cell? ⟨Y, 0, none⟩ = some (.int .i64 p2.state) := by rw [← hx4]; simp [go_sem, e_0, e_1, e_2, e_3, e_4, e_l]
      have u_1 : x4.cell? ⟨Y, 1, none⟩ = some (.slice ap2 p2.args.length cp2) := by rw [← hx4]; simp [go_sem, e_0, e_1, e_2, e_3, e_4, e_l]
      have u_2 : x4.cell? ⟨Y, 2, none⟩ = some (.bool p2.priv) := by rw [← hx4]; simp [go_sem, e_0, e_1, e_2, e_3, e_4, e_l]
      have u_3 : x4.cell? ⟨Y, 3, none⟩ = some (.string p2.text) := by rw [← hx4]; simp [go_sem, e_0, e_1, e_2, e_3, e_4, e_l]
      have u_4 : x4.cell? ⟨Y, 4, none⟩ = some (.string p2.utf) := by rw [← hx4]; simp [go_sem, e_0, e_1, e_2, e_3, e_4, e_l]
      have x4_fX : ∀ o, x4.frozen? ⟨X, o, none⟩ = false := fun o => by rw [← hx4]; simp only [World.frozen?_setCell]; exact x3_fX o
      have x4_fY : ∀ o, x4.frozen? ⟨Y, o, none⟩ = false := fun o => by rw [← hx4]; simp only [World.frozen?_setCell]; exact e_f o
      rw [hx4]
      clear hx4 e_0 e_1 e_2 e_3 e_4 e_f e_l
      have hzx4 := HC4.out.size
      refine hK.out _ _ ?_
      clear hK K'
      try simp only [Act.put,j1,j2,j3,j4,j5,j6]
      refine wpAnyG_done (by kernel_rfl) ?_ _
      have HC34 : Hid (Ch (fun k => k = X ∨ k = Y) x2 x4) := Lib.hid ((HC3.out.mono (fun i h => .inl (.inl h))).trans HC4.out (fun i h => .inl (.inr h)))
      have HXY : Hid (x2.heap.size ≤ x4.heap.size ∧ X < x1.heap.size ∧ Y < x1.heap.size ∧ lo + 1 ≤ X ∧ lo + 1 ≤ Y ∧ wr.heap.size ≤ x1.heap.size) := Lib.hid ⟨HC34.out.size, HD1.out.xl.2, HD1.out.yl.2, HD.out.xl.1, HD.out.yl.1, hzx1⟩
      have HDN : Hid (DrS b a c xs (K + 9) (lo + 1) X Y s2 ac2 cc2 ah2 dh2 p2 ap2 cp2 x4) := Lib.hid (by
        have hq := HXY.out
        have f1 := FreshIn.blks HSC2.out.row
        have f2 := HSC2.out.win.blk
        have f3 := FreshIn.blks HAR2.out
        have hlx : lo + 1 ≤ x1.heap.size := by omega
        have hn : ∀ k, k ∈ blkOf ac2 ∨ k ∈ blkOf ah2 ∨ k ∈ blkOf ap2 → k ≠ X ∧ k ≠ Y := fun k hk => by
          rcases hk with h | h | h
          · have := f1 k h; omega
          · have := f2 k h; omega
          · have := f3 k h; omega
        have hn' : ∀ k, k ∈ blkOf ac2 ∨ k ∈ blkOf ah2 ∨ k ∈ blkOf ap2 → ¬ (k = X ∨ k = Y) := fun k hk e => by have := hn k hk; omega
        exact ⟨(HSC2.out.low hlx).ch HC34.out (fun k hk => hn' k (.inl hk)) (fun k hk => hn' k (.inr (.inl hk))), HOK2.out, HPV2.out, (HAR2.out.ch HC34.out (fun k hk => hn' k (.inr (.inr hk)))).mono hlx (Nat.le_refl _), HD2.out.src.ch HC34.out (by omega) (fun b' o he => (HFAR.out b' o he).imp id (fun h => by omega)), (HC4.out.cell (p := ⟨X, 0, none⟩) (by show X < _; omega) hnXY).trans t_0, (HC4.out.cell (p := ⟨X, 1, none⟩) (by show X < _; omega) hnXY).trans t_1, (HC4.out.cell (p := ⟨X, 2, none⟩) (by show X < _; omega) hnXY).trans t_2, (HC4.out.cell (p := ⟨X, 3, none⟩) (by show X < _; omega) hnXY).trans t_3, (HC4.out.cell (p := ⟨X, 4, none⟩) (by show X < _; omega) hnXY).trans t_4, (HC4.out.cell (p := ⟨X, 5, none⟩) (by show X < _; omega) hnXY).trans t_5, (HC4.out.cell (p := ⟨X, 6, none⟩) (by show X < _; omega) hnXY).trans t_6, (HC4.out.cell (p := ⟨X, 7, none⟩) (by show X < _; omega) hnXY).trans t_7, (HC4.out.cell (p := ⟨X, 8, none⟩) (by show X < _; omega) hnXY).trans t_8, (HC4.out.cell (p := ⟨X, 9, none⟩) (by show X < _; omega) hnXY).trans t_9, (HC4.out.cell (p := ⟨X, 10, none⟩) (by show X < _; omega) hnXY).trans t_10, (HC4.out.cell (p := ⟨X, 11, none⟩) (by show X < _; omega) hnXY).trans t_11, u_0, u_1, u_2, u_3, u_4, x4_fX, x4_fY, ⟨hq.2.2.2.1, by omega⟩, ⟨hq.2.2.2.2.1, by omega⟩, HD.out.xy, by omega, hn⟩)
      have HZN : Hid ((∀ o, x4.cell? ⟨lo, o, none⟩ = W0.cell? ⟨lo, o, none⟩) ∧ (∀ o, x4.frozen? ⟨lo, o, none⟩ = W0.frozen? ⟨lo, o, none⟩) ∧ Ch (fun k => k = b ∨ lo ≤ k) w x4 ∧ lo < x4.heap.size) := Lib.hid (by
        have hq := HXY.out
        have hce : Ch (fun k => k = b ∨ k = X ∨ k = Y) wr x4 := ((HC1.out.mono (M := fun k => k = b ∨ k = X ∨ k = Y) (fun i h => .inl (.inl h))).trans (N := fun _ => False) (Ch.of_below HB2.out) (fun _ h => h.elim)).trans HC34.out (fun i h => .inl (.inr h))
        have hnl : ¬ (lo = b ∨ lo = X ∨ lo = Y) := by omega
        exact ⟨fun o => (hce.cell (p := ⟨lo, o, none⟩) hlr hnl).trans (HZC.out o), fun o => (hce.frozen (p := ⟨lo, o, none⟩) hlr hnl).trans (HZF.out o), HCH.out.trans hce (fun i hi => .inl (by omega)), by omega⟩)
      go_wp2_with fail
      go_roundw
      case rel => exact ⟨j - 1, by omega, by go_num, Lib.hid ⟨K + 9, s2, ac2, cc2, ah2, dh2, p2, ap2, cp2, by omega, HDN.out, HZN.out.1, HZN.out.2.1, HZN.out.2.2.1, HZN.out.2.2.2⟩⟩
      case measure => simp [intOf]; omega
    · obtain rfl : j = 0 := by omega
      have x_0 : wr.cell? ⟨X, 0, none⟩ = some (.int .i64 (s.w : Int)) := HD.out.x0
      have x_1 : wr.cell? ⟨X, 1, none⟩ = some (.int .i64 (s.h : Int)) := HD.out.x1
      have x_2 : wr.cell? ⟨X, 2, none⟩ = some (.int .i64 (s.x : Int)) := HD.out.x2
      have x_3 : wr.cell? ⟨X, 3, none⟩ = some (.int .i64 (s.y : Int)) := HD.out.x3
      have x_4 : wr.cell? ⟨X, 4, none⟩ = some (.int .i64 (s.look : Int)) := HD.out.x4
      have x_5 : wr.cell? ⟨X, 5, none⟩ = some (.int .i64 (s.top : Int)) := HD.out.x5
      have x_6 : wr.cell? ⟨X, 6, none⟩ = some (.int .i64 (s.bot : Int)) := HD.out.x6
      have x_7 : wr.cell? ⟨X, 7, none⟩ = some (.int .i64 (s.sx : Int)) := HD.out.x7
      have x_8 : wr.cell? ⟨X, 8, none⟩ = some (.int .i64 (s.sy : Int)) := HD.out.x8
      have x_9 : wr.cell? ⟨X, 9, none⟩ = some (.string s.title) := HD.out.x9
      have x_10 : wr.cell? ⟨X, 10, none⟩ = some (.slice ac s.cells.length cc) := HD.out.x10
      have x_11 : wr.cell? ⟨X, 11, none⟩ = some (.slice ah s.hist.length dh) := HD.out.x11
      have z_0 : wr.cell? ⟨lo, 0, none⟩ = some (.int .i64 0) := (HZC.out 0).trans HZ0.out.1
      have z_1 : wr.cell? ⟨lo, 1, none⟩ = some (.int .i64 0) := (HZC.out 1).trans HZ0.out.2.1
      have z_2 : wr.cell? ⟨lo, 2, none⟩ = some (.int .i64 0) := (HZC.out 2).trans HZ0.out.2.2.1
      have z_3 : wr.cell? ⟨lo, 3, none⟩ = some (.int .i64 0) := (HZC.out 3).trans HZ0.out.2.2.2.1
      have z_4 : wr.cell? ⟨lo, 4, none⟩ = some (.int .i64 0) := (HZC.out 4).trans HZ0.out.2.2.2.2.1
      have z_5 : wr.cell? ⟨lo, 5, none⟩ = some (.int .i64 0) := (HZC.out 5).trans HZ0.out.2.2.2.2.2.1
      have z_6 : wr.cell? ⟨lo, 6, none⟩ = some (.int .i64 0) := (HZC.out 6).trans HZ0.out.2.2.2.2.2.2.1
      have z_7 : wr.cell? ⟨lo, 7, none⟩ = some (.int .i64 0) := (HZC.out 7).trans HZ0.out.2.2.2.2.2.2.2.1
      have z_8 : wr.cell? ⟨lo, 8, none⟩ = some (.int .i64 0) := (HZC.out 8).trans HZ0.out.2.2.2.2.2.2.2.2.1
      have z_9 : wr.cell? ⟨lo, 9, none⟩ = some (.string ⟨#[]⟩) := (HZC.out 9).trans HZ0.out.2.2.2.2.2.2.2.2.2.1
      have z_10 : wr.cell? ⟨lo, 10, none⟩ = some (.slice none 0 0) := (HZC.out 10).trans HZ0.out.2.2.2.2.2.2.2.2.2.2.1
      have z_11 : wr.cell? ⟨lo, 11, none⟩ = some (.slice none 0 0) := (HZC.out 11).trans HZ0.out.2.2.2.2.2.2.2.2.2.2.2.1
      have z_f : ∀ o, wr.frozen? ⟨lo, o, none⟩ = false := fun o => (HZF.out o).trans (HZ0.out.2.2.2.2.2.2.2.2.2.2.2.2 o)
      have nn : ¬ X = lo := by omega
      have nm : ¬ lo = X := by omega
      have hXr := HD.out.xl.2
      go_wp2_with fail
      refine bodyPost_ret (v := scrV s ac cc ah dh) (by simp [results, Try.results12, scrV, go_sem, x_0, x_1, x_2, x_3, x_4, x_5, x_6, x_7, x_8, x_9, x_10, x_11, z_0, z_1, z_2, z_3, z_4, z_5, z_6, z_7, z_8, z_9, z_10, z_11, hlr, hXr, nn, nm]) rfl ?_
      have hfin : ∀ wz, Ch (· = lo) wr wz → ScrF w.heap.size s ac cc ah dh wz ∧ Below b w wz := fun wz hc => by
        rw [HLO.out]
        have f1 := FreshIn.blks HD.out.sc.row
        have f2 := HD.out.sc.win.blk
        refine ⟨(HD.out.sc.low (Nat.le_succ lo)).ch hc (fun k hk e => ?_) (fun k hk e => ?_), ?_⟩
        · have := (f1 k hk).1; omega
        · have := (f2 k hk).1; omega
        · exact (HCH.out.below (by rw [HLO.out]; omega) (fun k h => by omega)).trans (hc.below (by omega) (fun k h => by omega))
      refine ⟨s, HD.out.ok, (hfin _ ?_).2, ac, cc, ah, dh, rfl, (hfin _ ?_).1⟩
      all_goals repeat (first | (with_reducible exact Ch.refl) | (with_reducible refine Ch.setB ?_ _ _))
theorem screenOf_c (a : Option Addr) (c : Nat) (xs : List UInt8) (w : World) (ha : Sl byteE 1 w a xs) (hl : xs.length ≤ 1048576) :
    Calls Try.prog 4 #[.slice a xs.length c] w fun e w' => ∃ s, ScrOK s ∧ Below w.heap.size w w' ∧ ∃ ac cc ah dh, e = .returned (scrV s ac cc ah dh) ∧ ScrF w.heap.size s ac cc ah dh w' := by
  obtain ⟨W0, hW0⟩ : ∃ x, w.alloc (.cells #[.int .i64 0, .int .i64 0, .int .i64 0, .int .i64 0, .int .i64 0, .int .i64 0, .int .i64 0, .int .i64 0, .int .i64 0, .string ⟨#[]⟩, .slice none 0 0, .slice none 0 0] 26) = x := ⟨_, rfl⟩
  have HB0 : Hid (Below w.heap.size w W0) := Lib.hid (by rw [← hW0]; exact (Below.refl _ _).alloc (Nat.le_refl _) _)
  have hz0 : w.heap.size < W0.heap.size := by rw [← hW0]; simp
  have z_0 : W0.cell? ⟨w.heap.size, 0, none⟩ = some (.int .i64 0) := by rw [← hW0]; simp [go_sem]
  have z_1 : W0.cell? ⟨w.heap.size, 1, none⟩ = some (.int .i64 0) := by rw [← hW0]; simp [go_sem]
  have z_2 : W0.cell? ⟨w.heap.size, 2, none⟩ = some (.int .i64 0) := by rw [← hW0]; simp [go_sem]
  have z_3 : W0.cell? ⟨w.heap.size, 3, none⟩ = some (.int .i64 0) := by rw [← hW0]; simp [go_sem]
  have z_4 : W0.cell? ⟨w.heap.size, 4, none⟩ = some (.int .i64 0) := by rw [← hW0]; simp [go_sem]
  have z_5 : W0.cell? ⟨w.heap.size, 5, none⟩ = some (.int .i64 0) := by rw [← hW0]; simp [go_sem]
  have z_6 : W0.cell? ⟨w.heap.size, 6, none⟩ = some (.int .i64 0) := by rw [← hW0]; simp [go_sem]
  have z_7 : W0.cell? ⟨w.heap.size, 7, none⟩ = some (.int .i64 0) := by rw [← hW0]; simp [go_sem]
  have z_8 : W0.cell? ⟨w.heap.size, 8, none⟩ = some (.int .i64 0) := by rw [← hW0]; simp [go_sem]
  have z_9 : W0.cell? ⟨w.heap.size, 9, none⟩ = some (.string ⟨#[]⟩) := by rw [← hW0]; simp [go_sem]
  have z_10 : W0.cell? ⟨w.heap.size, 10, none⟩ = some (.slice none 0 0) := by rw [← hW0]; simp [go_sem]
  have z_11 : W0.cell? ⟨w.heap.size, 11, none⟩ = some (.slice none 0 0) := by rw [← hW0]; simp [go_sem]
  have z_f : ∀ o, W0.frozen? ⟨w.heap.size, o, none⟩ = false := fun o => by rw [← hW0]; simp [go_sem]
  have HC := Lib.hid (l00Source_c a c xs W0 (ha.keep HB0.out) hl)
  clear ha
  go_enter Try.func4, Try.ntmps4
  go_upto_region 1 with fail
  clear hW0
  go_wp2_with fail
  refine HC.out.mono ?_
  rintro e w1 ⟨rfl, hs1, hb1⟩
  have HB1 := Lib.hid hb1
  have HN := Lib.hid (srcScreen_c W0.heap.size a c xs w1 hs1)
  have hz1 := hb1.size
  clear hs1 hb1
  go_wp2_with fail
  refine HN.out.mono ?_
  rintro e w2 ⟨s, hok, hb2, ac, cc, ah, dh, rfl, hsc⟩
  have HOK := Lib.hid hok
  have HB2 := Lib.hid hb2
  have HSC := Lib.hid hsc
  have hz2 := hb2.size
  have HB12 : Hid (Below W0.heap.size W0 w2) := Lib.hid (HB1.out.trans hb2)
  unfold scrV
  have x_0 := kC HB12.out hz0 z_0
  have x_1 := kC HB12.out hz0 z_1
  have x_2 := kC HB12.out hz0 z_2
  have x_3 := kC HB12.out hz0 z_3
  have x_4 := kC HB12.out hz0 z_4
  have x_5 := kC HB12.out hz0 z_5
  have x_6 := kC HB12.out hz0 z_6
  have x_7 := kC HB12.out hz0 z_7
  have x_8 := kC HB12.out hz0 z_8
  have x_9 := kC HB12.out hz0 z_9
  have x_10 := kC HB12.out hz0 z_10
  have x_11 := kC HB12.out hz0 z_11
  have x_f := fun o => kF HB12.out hz0 (z_f o)
  have x_l : w.heap.size < w2.heap.size := by have := HB12.out.size; omega
  clear hok hb2 hsc z_0 z_1 z_2 z_3 z_4 z_5 z_6 z_7 z_8 z_9 z_10 z_11 z_f
  go_wp2_with fail
  refine bodyPost_ret (v := scrV s ac cc ah dh) (by simp [results, Try.results4, scrV, go_sem, x_0, x_1, x_2, x_3, x_4, x_5, x_6, x_7, x_8, x_9, x_10, x_11, x_l]) rfl ?_
  have hfin : ∀ wz, Ch (fun k => k = w.heap.size) w2 wz → ScrF w.heap.size s ac cc ah dh wz ∧ Below w.heap.size w wz := fun wz hc => by
    have f1 := FreshIn.blks HSC.out.row
    have f2 := HSC.out.win.blk
    refine ⟨(HSC.out.low (by omega)).ch hc (fun k hk e => ?_) (fun k hk e => ?_), ?_⟩
    · have := (f1 k hk).1; omega
    · have := (f2 k hk).1; omega
    · exact (HB0.out.trans (HB12.out.mono (by omega))).trans (hc.below (by omega) (fun k h => by omega))
  refine ⟨s, HOK.out, (hfin _ ?_).2, ac, cc, ah, dh, rfl, (hfin _ ?_).1⟩
  all_goals repeat (first | (with_reducible exact Ch.refl) | (with_reducible refine Ch.setB ?_ _ _))
end
section
open Go.RowKit
theorem be_one (n : Nat) : be n 1 = [UInt8.ofNat n] := by
  simp [be, beB]
theorem celL_snoc (l : List Cl) (k : Nat) (hk : k < l.length) : celL (l.take (k + 1)) = celL (l.take k) ++ cel4 l[k] := by
  unfold celL
  rw [List.take_succ_eq_append_getElem hk, List.flatMap_append]
  simp only [List.flatMap_cons, List.flatMap_nil, List.append_nil]
theorem cellsText_c (a : Option Addr) (ca : Nat) (cs : List Cl) (w : World) (ha : Sl celE 2 w a cs) (la : cs.length ≤ 1048576) (hcs : ∀ c ∈ cs, 0 ≤ c.1 ∧ c.1 < 16777216 ∧ 0 ≤ c.2 ∧ c.2 < 256) :
    Calls Try.prog 34 #[.slice a cs.length ca] w fun e w' => e = .returned (.string (strOf (celL cs))) ∧ Below w.heap.size w w' := by
  have HN := Lib.hid hcs
  clear hcs
  go_enter Try.func34, Try.ntmps34
  go_wp2_with fail
  go_loopw [8] (fun i wr => ∃ k : Nat, k ≤ cs.length ∧ i = .int .i64 k ∧ Bld w.heap.size w.heap.size (celL (cs.take k)) wr ∧ Below w.heap.size w wr) (fun i _ => cs.length - (intOf i).toNat)
  case atStart => exact ⟨0, Nat.zero_le _, rfl, bld_new w _ (Nat.le_refl _), (by repeat (first | exact Below.refl _ _ | (refine Below.alloc ?_ (by (try simp) <;> (try omega)) _) | (refine Below.setCell ?_ (by (try simp) <;> (try omega)) _) | (refine Below.drew ?_) | (refine Below.trans ?_ (Below.mono (by assumption) (by (try simp) <;> (try omega))))))⟩
  case round =>
    obtain ⟨k, hk, rfl, hB, hbel⟩ := hrel
    have hlen := celL_length (cs.take k)
    have hlen' : (celL (cs.take k)).length ≤ 4194304 := by rw [hlen, List.length_take]; omega
    have hz := hbel.size
    have HBW := Lib.hid hbel
    have HS := fun h => Lib.hid (celL_snoc cs k h)
    clear hlen
    by_cases hlt : k < cs.length
    · have HSN := HS hlt
      obtain ⟨b1, o1, rfl, hb1, hc1⟩ := (ha.keep hbel).at hlt
      have c1 := hc1 k hlt 0 (by omega)
      have c2 := hc1 k hlt 1 (by omega)
      have hin := HN.out cs[k] (List.getElem_mem _)
      obtain ⟨c, hc⟩ : ∃ c, cs[k] = c := ⟨_, rfl⟩
      rw [hc] at c1 c2 hin HSN
      obtain ⟨n1, n2⟩ := c
      obtain ⟨n, rfl⟩ : ∃ n : Nat, n1 = (n : Int) := ⟨n1.toNat, by simp only at hin; omega⟩
      obtain ⟨m, rfl⟩ : ∃ m : Nat, n2 = (m : Int) := ⟨n2.toNat, by simp only at hin; omega⟩
      simp only [celE, Nat.add_zero, List.getElem?_cons_zero, List.getElem?_cons_succ] at c1 c2
      have hn40 : n ≤ 1099511627776 := by simp only at hin; omega
      have hm40 : m ≤ 1099511627776 := by simp only at hin; omega
      have HC4 : Hid (cel4 ((n : Int), (m : Int)) = be n 3 ++ be m 1) := Lib.hid (by rw [cel4, be_one]; rfl)
      rw [HC4.out] at HSN
      obtain ⟨X, hX⟩ : ∃ X, strOf (be n 3) = X := ⟨_, rfl⟩
      obtain ⟨Y, hY⟩ : ∃ Y, strOf (be m 1) = Y := ⟨_, rfl⟩
      have hXs : X.size = 3 := by rw [← hX, strOf_size, be_length]
      have hYs : Y.size = 1 := by rw [← hY, strOf_size, be_length]
      have HXY : Hid ((X ++ Y).data.toList = be n 3 ++ be m 1) := Lib.hid (by rw [← hX, ← hY, strOf_append]; rfl)
      have HXZ : Hid ((X ++ Y).size = X.size + Y.size) := Lib.hid ByteArray.size_append
      have HC1 : Hid (∀ W, Calls Try.prog 58 #[.int .i64 n, .int .i64 3] W fun e w' => e = .returned (.string X) ∧ Below W.heap.size W w') := Lib.hid (fun W => by rw [← hX]; exact bigBytes_c n 3 W hn40 (by omega))
      have HC2 : Hid (∀ W, Calls Try.prog 58 #[.int .i64 m, .int .i64 1] W fun e w' => e = .returned (.string Y) ∧ Below W.heap.size W w') := Lib.hid (fun W => by rw [← hY]; exact bigBytes_c m 1 W hm40 (by omega))
      generalize celL (cs.take k) = L at *
      have HB := Lib.hid hB
      have hbig : ¬ 9223372036854775807 < X.size + Y.size := by omega
      clear hc1 hbel HS hin hc hX hY hB
      go_upto_region 5 with fail
      obtain ⟨x1, hx1⟩ : ∃ x, wr.alloc (.cells #[.int .i64 n, .int .i64 m] 60) = x := ⟨_, rfl⟩
      have HB1 : Hid (Below wr.heap.size wr x1) := Lib.hid (by rw [← hx1]; exact (Below.refl _ _).alloc (Nat.le_refl _) _)
      have k_0 : x1.cell? ⟨wr.heap.size, 0, none⟩ = some (.int .i64 n) := by rw [← hx1]; simp [go_sem]
      have k_1 : x1.cell? ⟨wr.heap.size, 1, none⟩ = some (.int .i64 m) := by rw [← hx1]; simp [go_sem]
      have k_l : wr.heap.size < x1.heap.size := by rw [← hx1]; simp
      rw [hx1]
      clear hx1
      refine wp_region_G (fun w' => True) (fun i => false) (by kernel_rfl) trivial ?_
      refine tW ?_ 0 rfl ?_ ?_; rotate_left
      · intro w' hSw; go_simp; try rfl
      try simp only [Act.put,j1,j2,j3,j4,j5,j6]
      refine tW ?_ 3 rfl ?_ ?_; rotate_left
      · intro w' hSw; go_simp; try rfl
      try simp only [Act.put,j1,j2,j3,j4,j5,j6]
      refine wpAnyG_br (rs := [1, 4]) (by kernel_rfl) (by simp) ?_
      intro j hj
      simp only [List.mem_cons, List.not_mem_nil, or_false] at hj
      rcases hj with rfl | rfl
      · skip
        refine ⟨_, rfl, fun K' hK => ?_⟩
        simp only [j1,j2,j3]
        go_simp
        refine hK.out _ _ (Or.inr trivial) ?_
        clear hK K'
        try simp only [Act.put,j1,j2,j3,j4,j5,j6]
        refine wpAnyG_br (rs := [2, 4]) (by kernel_rfl) (by simp) ?_
        intro j hj
        simp only [List.mem_cons, List.not_mem_nil, or_false] at hj
        rcases hj with rfl | rfl
        · skip
          refine ⟨_, rfl, fun K' hK => ?_⟩
          simp only [j1,j2,j3]
          go_simp
          go_at_call 58
          refine (HC1.out _).mono ?_
          rintro e x2 ⟨rfl, hbc⟩
          have HBx2 : Hid (Below x1.heap.size x1 x2) := Lib.hid (((Below.refl _ _).drew).trans (by simpa using hbc))
          have kn_1 := kC HBx2.out k_l k_1
          clear hbc
          refine hK.out _ _ (Or.inr trivial) ?_
          clear hK K'
          try simp only [Act.put,j1,j2,j3,j4,j5,j6]
          refine wpAnyG_one (i := 4) (by kernel_rfl) rfl trivial (fun K' hK => ?_)
          simp only [j1,j2,j3]
          go_simp
          refine hK.out _ _ (Or.inr trivial) ?_
          clear hK K'
          try simp only [Act.put,j1,j2,j3,j4,j5,j6]
          refine wpAnyG_one (i := 5) (by kernel_rfl) rfl trivial (fun K' hK => ?_)
          simp only [j1,j2,j3]
          go_simp
          go_at_call 58
          refine (HC2.out _).mono ?_
          rintro e x3 ⟨rfl, hbd⟩
          have HB3 : Hid (Below x2.heap.size x2 x3) := Lib.hid (by simpa using hbd)
          have HB4 : Hid (Below wr.heap.size wr x3) := Lib.hid (HB1.out.trans ((HBx2.out.trans (HB3.out.mono HBx2.out.size)).mono HB1.out.size))
          have HK4 := Lib.hid (HB.out.below HB4.out)
          have hz4 := HB4.out.size
          clear hbd
          refine hK.out _ _ (Or.inr trivial) ?_
          clear hK K'
          try simp only [Act.put,j1,j2,j3,j4,j5,j6]
          refine tW ?_ 6 rfl ?_ ?_; rotate_left
          · intro w' hSw; go_simp; try rfl
          try simp only [Act.put,j1,j2,j3,j4,j5,j6]
          refine wpAnyG_one (i := 7) (by kernel_rfl) rfl trivial (fun K' hK => ?_)
          simp only [j1,j2,j3]
          go_simp
          go_at_call 57
          refine (writeString_c w.heap.size w.heap.size L (X ++ Y) _ HK4.out (by omega) (by rw [HXZ.out]; omega) (by first | omega | (simp; omega))).mono ?_
          rintro e x5 ⟨rfl, hB5, hb5⟩
          have HB5 := Lib.hid hB5
          have HBB5 := Lib.hid hb5
          clear hB5 hb5
          refine hK.out _ _ (Or.inr trivial) ?_
          clear hK K'
          try simp only [Act.put,j1,j2,j3,j4,j5,j6]
          refine wpAnyG_done (by kernel_rfl) ?_ _
          go_wp2_with fail
          go_roundw
          case rel => exact ⟨k + 1, by omega, by go_num, by rw [HSN.out, ← HXY.out]; exact HB5.out, (HBW.out.trans (HB4.out.mono hz)).trans HBB5.out⟩
          case measure => simp [intOf]; omega
        · skip
          refine ⟨_, rfl, fun K' hK => ?_⟩
          simp only [j1,j2,j3]
          go_simp
          refine hK.out _ _ (Or.inr trivial) ?_
          clear hK K'
          try simp only [Act.put,j1,j2,j3,j4,j5,j6]
          refine wpAnyG_one (i := 2) (by kernel_rfl) rfl trivial (fun K' hK => ?_)
          simp only [j1,j2,j3]
          go_simp
          go_at_call 58
          refine (HC1.out _).mono ?_
          rintro e x2 ⟨rfl, hbc⟩
          have HBx2 : Hid (Below x1.heap.size x1 x2) := Lib.hid (((Below.refl _ _).drew).trans (by simpa using hbc))
          have kn_1 := kC HBx2.out k_l k_1
          clear hbc
          refine hK.out _ _ (Or.inr trivial) ?_
          clear hK K'
          try simp only [Act.put,j1,j2,j3,j4,j5,j6]
          refine wpAnyG_one (i := 5) (by kernel_rfl) rfl trivial (fun K' hK => ?_)
          simp only [j1,j2,j3]
          go_simp
          go_at_call 58
          refine (HC2.out _).mono ?_
          rintro e x3 ⟨rfl, hbd⟩
          have HB3 : Hid (Below x2.heap.size x2 x3) := Lib.hid (by simpa using hbd)
          have HB4 : Hid (Below wr.heap.size wr x3) := Lib.hid (HB1.out.trans ((HBx2.out.trans (HB3.out.mono HBx2.out.size)).mono HB1.out.size))
          have HK4 := Lib.hid (HB.out.below HB4.out)
          have hz4 := HB4.out.size
          clear hbd
          refine hK.out _ _ (Or.inr trivial) ?_
          clear hK K'
          try simp only [Act.put,j1,j2,j3,j4,j5,j6]
          refine tW ?_ 6 rfl ?_ ?_; rotate_left
          · intro w' hSw; go_simp; try rfl
          try simp only [Act.put,j1,j2,j3,j4,j5,j6]
          refine wpAnyG_one (i := 7) (by kernel_rfl) rfl trivial (fun K' hK => ?_)
          simp only [j1,j2,j3]
          go_simp
          go_at_call 57
          refine (writeString_c w.heap.size w.heap.size L (X ++ Y) _ HK4.out (by omega) (by rw [HXZ.out]; omega) (by first | omega | (simp; omega))).mono ?_
          rintro e x5 ⟨rfl, hB5, hb5⟩
          have HB5 := Lib.hid hB5
          have HBB5 := Lib.hid hb5
          clear hB5 hb5
          refine hK.out _ _ (Or.inr trivial) ?_
          clear hK K'
          try simp only [Act.put,j1,j2,j3,j4,j5,j6]
          refine wpAnyG_done (by kernel_rfl) ?_ _
          go_wp2_with fail
          go_roundw
          case rel => exact ⟨k + 1, by omega, by go_num, by rw [HSN.out, ← HXY.out]; exact HB5.out, (HBW.out.trans (HB4.out.mono hz)).trans HBB5.out⟩
          case measure => simp [intOf]; omega
      · skip
        refine ⟨_, rfl, fun K' hK => ?_⟩
        simp only [j1,j2,j3]
        go_simp
        refine hK.out _ _ (Or.inr trivial) ?_
        clear hK K'
        try simp only [Act.put,j1,j2,j3,j4,j5,j6]
        refine wpAnyG_one (i := 1) (by kernel_rfl) rfl trivial (fun K' hK => ?_)
        simp only [j1,j2,j3]
        go_simp
        refine hK.out _ _ (Or.inr trivial) ?_
        clear hK K'
        try simp only [Act.put,j1,j2,j3,j4,j5,j6]
        refine wpAnyG_one (i := 2) (by kernel_rfl) rfl trivial (fun K' hK => ?_)
        simp only [j1,j2,j3]
        go_simp
        go_at_call 58
        refine (HC1.out _).mono ?_
        rintro e x2 ⟨rfl, hbc⟩
        have HBx2 : Hid (Below x1.heap.size x1 x2) := Lib.hid (((Below.refl _ _).drew).trans (by simpa using hbc))
        have kn_1 := kC HBx2.out k_l k_1
        clear hbc
        refine hK.out _ _ (Or.inr trivial) ?_
        clear hK K'
        try simp only [Act.put,j1,j2,j3,j4,j5,j6]
        refine wpAnyG_one (i := 5) (by kernel_rfl) rfl trivial (fun K' hK => ?_)
        simp only [j1,j2,j3]
        go_simp
        go_at_call 58
        refine (HC2.out _).mono ?_
        rintro e x3 ⟨rfl, hbd⟩
        have HB3 : Hid (Below x2.heap.size x2 x3) := Lib.hid (by simpa using hbd)
        have HB4 : Hid (Below wr.heap.size wr x3) := Lib.hid (HB1.out.trans ((HBx2.out.trans (HB3.out.mono HBx2.out.size)).mono HB1.out.size))
        have HK4 := Lib.hid (HB.out.below HB4.out)
        have hz4 := HB4.out.size
        clear hbd
        refine hK.out _ _ (Or.inr trivial) ?_
        clear hK K'
        try simp only [Act.put,j1,j2,j3,j4,j5,j6]
        refine tW ?_ 6 rfl ?_ ?_; rotate_left
        · intro w' hSw; go_simp; try rfl
        try simp only [Act.put,j1,j2,j3,j4,j5,j6]
        refine wpAnyG_one (i := 7) (by kernel_rfl) rfl trivial (fun K' hK => ?_)
        simp only [j1,j2,j3]
        go_simp
        go_at_call 57
        refine (writeString_c w.heap.size w.heap.size L (X ++ Y) _ HK4.out (by omega) (by rw [HXZ.out]; omega) (by first | omega | (simp; omega))).mono ?_
        rintro e x5 ⟨rfl, hB5, hb5⟩
        have HB5 := Lib.hid hB5
        have HBB5 := Lib.hid hb5
        clear hB5 hb5
        refine hK.out _ _ (Or.inr trivial) ?_
        clear hK K'
        try simp only [Act.put,j1,j2,j3,j4,j5,j6]
        refine wpAnyG_done (by kernel_rfl) ?_ _
        go_wp2_with fail
        go_roundw
        case rel => exact ⟨k + 1, by omega, by go_num, by rw [HSN.out, ← HXY.out]; exact HB5.out, (HBW.out.trans (HB4.out.mono hz)).trans HBB5.out⟩
        case measure => simp [intOf]; omega
    · obtain rfl : k = cs.length := by omega
      rw [List.take_length] at hB
      have HB := Lib.hid hB
      clear hB hbel HS
      go_wp2_with fail
      refine (bldString_c w.heap.size w.heap.size (celL cs) _ HB.out hz).mono ?_
      rintro e w3 ⟨rfl, hb3⟩
      go_wp2_with fail
      go_ret
      exact ⟨rfl, HBW.out.trans hb3⟩
end
section
open Go.RowKit
theorem Try.infoB8 : (Try.prog.info? 5).map (fun i => (i.zero, i.size, i.bytes)) = some (some (.int .u8 0), 1, 1) := by kernel_rfl
theorem byteOneC : ∀ (x : UInt8), ∀ u ∈ byteE x, u.oneCell' = true := fun x u hu => by simp [byteE] at hu; subst hu; rfl
theorem celL_le (l : List Cl) (k m : Nat) (h : k ≤ m) : (celL (l.take k)).length ≤ 4 * m := by
  rw [celL_length, List.length_take]
  omega
theorem boxL' {α : Type} {enc : α → List Value} {sz : Nat} {w : World} (hs : ∀ x, (enc x).length = sz) (xs : List α) (cs : Array Value) (T : TypeId) (hc : cs.toList = xs.flatMap enc) (b : Nat) (hb : b = w.heap.size) : Sl enc sz (w.alloc (.cells cs T)) (some ⟨b, 0, none⟩) xs := by
  subst hb
  refine .inr ⟨w.heap.size, 0, rfl, by simp, fun i hi j hj => ?_⟩
  rw [Nat.zero_add, World.cell?_alloc_new, ← Array.getElem?_toList, hc, flat_get enc sz hs xs i hi j hj]
theorem l04Cells_c (s : Scr) (ac : Option Addr) (cc : Nat) (ah : Option Addr) (dh : Nat) (y : Nat) (w : World) (h : ScrS s ac ah w) (hw1 : 1 ≤ s.w) (hw2 : s.w ≤ 24) (hh2 : s.h ≤ 10) (hy : y < s.h) (hcn : s.cells.length = s.w * s.h) (hcs : ∀ c ∈ s.cells, celOK c) :
    Calls Try.prog 40 #[scrV s ac cc ah dh, .int .i64 y] w fun e w' => e = .returned (.string (strOf (celL (rowC s y)))) ∧ Below w.heap.size w w' := by
  obtain ⟨i0, hi, hz0, hz1, hz2⟩ := info_parts Try.infoB8
  have h0 : 0 < s.cells.length := by rw [hcn]; exact Nat.mul_pos (by omega) (by omega)
  obtain ⟨b1, o1, rfl, hb1w, _⟩ := h.cs.at h0
  have HR := Lib.hid h
  obtain ⟨nh, hnh⟩ : ∃ n, s.hist.length = n := ⟨_, rfl⟩
  obtain ⟨wd, hwd⟩ : ∃ n, s.w = n := ⟨_, rfl⟩
  obtain ⟨n, hn⟩ : ∃ n, s.cells.length = n := ⟨_, rfl⟩
  obtain ⟨row, hrow⟩ : ∃ r, rowC s y = r := ⟨_, rfl⟩
  have hyw : (y + 1) * wd ≤ n := by rw [← hn, hcn, hwd, Nat.mul_comm]; exact Nat.mul_le_mul_left _ hy
  have hn240 : n ≤ 240 := by rw [← hn, hcn]; exact Nat.mul_le_mul hw2 hh2
  have hrl : row.length = wd := by
    rw [← hrow]
    simp only [rowC, List.length_take, List.length_drop, hn, hwd]
    rw [Nat.succ_mul] at hyw
    omega
  have hrc : ∀ i (hi : i < row.length) (hj : y * wd + i < s.cells.length), s.cells[y * wd + i] = row[i] := fun i hi hj => by
    subst hrow
    simp only [rowC, List.getElem_take, List.getElem_drop, hwd]
  have hrr : ∀ c ∈ row, celOK c := fun c hc => hcs c (by
    rw [← hrow] at hc
    exact List.mem_of_mem_drop (List.mem_of_mem_take hc))
  have HRL := Lib.hid hrl
  have HRC := Lib.hid hrc
  have HRR := Lib.hid hrr
  have HN := Lib.hid hn
  unfold scrV
  rw [hwd] at hw2
  rw [hwd, hn, hnh, hrow]
  rw [Nat.succ_mul] at hyw
  obtain ⟨p, hp⟩ : ∃ p, y * wd = p := ⟨_, rfl⟩
  have hpi : (y : Int) * (wd : Int) = (p : Int) := by rw [← hp]; exact (Int.natCast_mul y wd).symm
  rw [hp] at hyw
  have HP := Lib.hid hp
  clear h0 hw1 h hnh hrow hrl hrc hrr hp hcn hcs hwd hn hh2 hy
  go_enter Try.func40, Try.ntmps40
  go_wp2_with fail
  go_loopw [5, 6] (fun so sx wr => ∃ (x : Nat) (av : Option Addr) (cv : Nat) (L : List UInt8), x ≤ wd ∧ sx = .int .i64 x ∧ so = .slice av L.length cv ∧ L.length ≤ 96 ∧ Hid (L = celL (row.take x) ∧ FreshIn byteE 5 1 (w.heap.size + 1) wr.heap.size (.slice av L.length cv) L wr ∧ Below w.heap.size w wr ∧ wr.cell? ⟨w.heap.size, 0, none⟩ = some (.int .i64 wd) ∧ wr.cell? ⟨w.heap.size, 10, none⟩ = some (.slice (some ⟨b1, o1, none⟩) n cc) ∧ w.heap.size < wr.heap.size)) (fun _ sx _ => wd - (intOf sx).toNat)
  case atStart =>
    refine ⟨0, some ⟨w.heap.size + 1, 0, none⟩, 0, [], Nat.zero_le _, rfl, by first | rfl | simp, by decide, Lib.hid ⟨rfl, ?_, ?_, by simp [go_sem], by simp [go_sem], by simp; omega⟩⟩
    · refine (Fresh.of_own ?_ rfl rfl).here
      have := World.ownsRow_made (base := w.heap.size + 1) (e := 5) (size := 1) (w.alloc (.cells #[.int .i64 (wd : Int), .int .i64 (s.h : Int), .int .i64 (s.x : Int), .int .i64 (s.y : Int), .int .i64 (s.look : Int), .int .i64 (s.top : Int), .int .i64 (s.bot : Int), .int .i64 (s.sx : Int), .int .i64 (s.sy : Int), .string s.title, .slice (some ⟨b1, o1, none⟩) n cc, .slice ah nh dh] 26)) #[] 0 (by simp) (by decide) rfl
      simpa using this
    · exact ((Below.refl _ _).alloc (Nat.le_refl _) _).alloc (by simp) _
  case round =>
    obtain ⟨x, av, cv, L, hx, rfl, rfl, hL96, HQ⟩ := hrel
    have k_0 := HQ.out.2.2.2.1
    have k_10 := HQ.out.2.2.2.2.1
    have kl := HQ.out.2.2.2.2.2
    by_cases hlt : x < wd
    · have hlt' : (x : Int) < (wd : Int) := by omega
      have hxr : x < row.length := by rw [HRL.out]; exact hlt
      obtain ⟨c, hc⟩ : ∃ c, row[x] = c := ⟨_, rfl⟩
      have hxn : p + x < s.cells.length := by rw [HN.out]; omega
      have HC : Hid (s.cells[p + x] = c) := Lib.hid (by rw [← hc, ← HRC.out x hxr (by rw [HP.out]; exact hxn)]; simp only [HP.out])
      have hcm := HRR.out c (by rw [← hc]; exact List.getElem_mem hxr)
      have HTK : Hid (celL (row.take (x + 1)) = celL (row.take x) ++ cel4 c) := Lib.hid (by rw [← hc]; exact celL_snoc row x hxr)
      obtain ⟨b', o', hae, hb1, hc1⟩ := ((HR.out.below HQ.out.2.2.1).cs).at hxn
      cases hae
      have c1 := hc1 (p + x) hxn 0 (by omega)
      have c2 := hc1 (p + x) hxn 1 (by omega)
      rw [HC.out] at c1 c2
      obtain ⟨n1, n2⟩ := c
      obtain ⟨r, rfl⟩ : ∃ r : Nat, n1 = (r : Int) := ⟨n1.toNat, by have := hcm.1.1; simp only at this; omega⟩
      obtain ⟨u, rfl⟩ : ∃ u : UInt8, n2 = (u.toNat : Int) := ⟨UInt8.ofNat n2.toNat, by have := hcm.2; simp only at this; rw [UInt8.toNat_ofNat']; omega⟩
      simp only [celE, Nat.add_zero, List.getElem?_cons_zero, List.getElem?_cons_succ] at c1 c2
      have hr40 : r ≤ 1099511627776 := by have := hcm.1.2.1; simp only at this; omega
      have hu8 := u.toNat_lt
      have HC4 : Hid (cel4 ((r : Int), (u.toNat : Int)) = be r 3 ++ [u]) := Lib.hid (by rw [cel4]; simp)
      rw [HC4.out] at HTK
      clear hc1 hc hxr hcm
      have hpx : (p : Int) + (x : Int) = ((p + x : Nat) : Int) := by omega
      have hpn : p + x < n := by omega
      obtain ⟨i, hi'⟩ : ∃ i, p + x = i := ⟨_, rfl⟩
      rw [hi'] at hpx c1 c2 hpn
      have hin : (i : Int) < (n : Int) := by omega
      have hw8 : IntKind.u8.wrap (u.toNat : Int) = (u.toNat : Int) := u8_in (by omega) (by omega)
      clear hi'
      go_upto_region 6 with fail
      obtain ⟨x1, hx1⟩ : ∃ x, wr.alloc (.cells #[.int .i64 r, .int .i64 (u.toNat : Int)] 60) = x := ⟨_, rfl⟩
      have HB1 : Hid (Below wr.heap.size wr x1) := Lib.hid (by rw [← hx1]; exact (Below.refl _ _).alloc (Nat.le_refl _) _)
      have d_0 : x1.cell? ⟨wr.heap.size, 0, none⟩ = some (.int .i64 r) := by rw [← hx1]; simp [go_sem]
      have d_1 : x1.cell? ⟨wr.heap.size, 1, none⟩ = some (.int .i64 (u.toNat : Int)) := by rw [← hx1]; simp [go_sem]
      have d_l : wr.heap.size < x1.heap.size := by rw [← hx1]; simp
      rw [hx1]
      clear hx1
      have HF1 : Hid (FreshIn byteE 5 1 (w.heap.size + 1) x1.heap.size (.slice av L.length cv) L x1) := Lib.hid ((HQ.out.2.1.below HB1.out).mono (Nat.le_refl _) HB1.out.size)
      have HNB : Hid (wr.heap.size ∉ blkOf av) := Lib.hid (fun hb => by have := (FreshIn.blks HQ.out.2.1 _ hb).2; omega)
      have HSB : Hid (∀ x, Ch (· ∈ blkOf av) x1 x → x.cell? ⟨wr.heap.size, 0, none⟩ = some (.int .i64 r) ∧ x.cell? ⟨wr.heap.size, 1, none⟩ = some (.int .i64 (u.toNat : Int))) := Lib.hid (fun x h => ⟨(h.cell (p := ⟨wr.heap.size, 0, none⟩) d_l HNB.out).trans d_0, (h.cell (p := ⟨wr.heap.size, 1, none⟩) d_l HNB.out).trans d_1⟩)
      have HC1 : Hid (Ch (· ∈ blkOf av) x1 x1) := Lib.hid Ch.refl
      have HO1 : Hid (∀ a b, Ch (· ∈ blkOf av) x1 a → Ch (· ∈ blkOf av) a b → Ch (· ∈ blkOf av) x1 b) := Lib.hid (fun a b h k => h.trans k (fun _ h => .inl h))
      have hS0 := HSB.out x1 HC1.out
      have hl1 : (be r 3).length ≤ 3 := by rw [be_length]; omega
      obtain ⟨E, hE⟩ : ∃ E, be r 3 = E := ⟨_, rfl⟩
      have HCALL : Hid (∀ W, Calls Try.prog 62 #[.int .i64 r, .int .i64 3] W (FreshR byteE 5 1 W E)) := Lib.hid (fun W => by rw [← hE]; exact l02Number_c r 3 W hr40 (by omega))
      rw [hE] at hl1 HTK
      clear hE
      refine wp_region_G (fun w' => w'.cell? ⟨wr.heap.size, 0, none⟩ = some (.int .i64 r) ∧ w'.cell? ⟨wr.heap.size, 1, none⟩ = some (.int .i64 (u.toNat : Int))) (fun i => false) (by kernel_rfl) hS0 ?_
      refine tW ?_ 0 rfl ?_ ?_; rotate_left
      · intro w' hSw; go_simp; try rfl
      try simp only [Act.put,j1,j2,j3,j4,j5,j6]
      refine tW ?_ 1 rfl ?_ ?_; rotate_left
      · intro w' hSw; go_simp; try rfl
      try simp only [Act.put,j1,j2,j3,j4,j5,j6]
      refine tL ?_ 2 rfl hS0 ?_ ?_; rotate_left
      · intro w' hSw; obtain ⟨s0, s1⟩ := hSw; go_simp; try rfl
      try simp only [Act.put,j1,j2,j3,j4,j5,j6]
      refine tW ?_ 5 rfl ?_ ?_; rotate_left
      · intro w' hSw; go_simp; try rfl
      try simp only [Act.put,j1,j2,j3,j4,j5,j6]
      refine tL ?_ 6 rfl hS0 ?_ ?_; rotate_left
      · intro w' hSw; obtain ⟨s0, s1⟩ := hSw; go_simp; try rfl
      try simp only [Act.put,j1,j2,j3,j4,j5,j6]
      refine tW ?_ 7 rfl ?_ ?_; rotate_left
      · intro w' hSw; go_simp; try rfl
      try simp only [Act.put,j1,j2,j3,j4,j5,j6]
      refine wpAnyG_br (rs := [3, 8]) (by kernel_rfl) (by simp) ?_
      intro j hj
      simp only [List.mem_cons, List.not_mem_nil, or_false] at hj
      rcases hj with rfl | rfl
      · skip
        refine ⟨_, rfl, fun K' hK => ?_⟩
        simp only [j1,j2,j3]
        go_simp
        go_at_call 62
        refine (HCALL.out _).mono ?_
        rintro e y2 ⟨v2, rfl, hf2, hb2⟩
        obtain ⟨a2, c2, rfl, hc2, ho2⟩ := id hf2
        have HT : Hid (Sl byteE 1 y2 a2 E) := Lib.hid (Sl.of_own (fun _ => rfl) ho2)
        have HBy2 : Hid (Below x1.heap.size x1 y2) := Lib.hid (by first | (simpa using hb2) | exact ((Below.refl _ _).drew).trans (by simpa using hb2))
        have HCy2 : Hid (Ch (· ∈ blkOf av) x1 y2) := Lib.hid (HO1.out _ _ HC1.out (Ch.of_below HBy2.out))
        have HFy2 : Hid (FreshIn byteE 5 1 (w.heap.size + 1) y2.heap.size (.slice av L.length cv) L y2) := Lib.hid ((HF1.out.below HBy2.out).mono (Nat.le_refl _) HBy2.out.size)
        have hzy2 := HBy2.out.size
        clear hf2 hc2 ho2 hb2
        refine hK.out _ _ (Or.inr (HSB.out _ HCy2.out)) ?_
        clear hK K'
        try simp only [Act.put,j1,j2,j3,j4,j5,j6]
        refine wpAnyG_br (rs := [4, 8]) (by kernel_rfl) (by simp) ?_
        intro j hj
        simp only [List.mem_cons, List.not_mem_nil, or_false] at hj
        rcases hj with rfl | rfl
        · skip
          refine ⟨_, rfl, fun K' hK => ?_⟩
          simp only [j1,j2,j3]
          rw [if_pos (by rfl)]
          refine step_append_ch (.tmp 25) (.tmp 28) 22 22 (w.heap.size + 1) 5 i0 (.int .u8 0) 1 1 Try.underlying22 hi hz0 hz1 hz2 rfl (by decide) av L.length cv L HFy2.out (.slice a2 E.length c2) E (Src.ofSl (enc := byteE) Try.underlying22 (fun _ => rfl) byteOneC HT.out _) (by first | omega | (simp; omega)) (by have := HCy2.out.size; have := HB1.out.size; have := HQ.out.2.2.1.size; first | omega | (simp; omega)) ?_ ?_ ?_ ?_
          · rfl
          · rfl
          · rfl
          intro ay3 cy3 y3 usy3 hus hf hch hk
          have hly3 : usy3.length = L.length + E.length := by rw [hus.out, List.length_append]
          have HLy3 := hus
          have HFy3 := Lib.hid hf
          have HBLy3 : Hid (∀ k ∈ blkOf ay3, k ∈ blkOf av ∨ x1.heap.size ≤ k) := Lib.hid (fun k h => by
            rcases hk k h with h | h
            · exact .inl h
            · exact .inr (by have := HCy2.out.size; (try simp at h); omega))
          have HCy3 : Hid (Ch (· ∈ blkOf av) x1 y3) := Lib.hid (HCy2.out.trans hch (fun i hi => .inl hi))
          have hlly3 : usy3.length ≤ 99 := by omega
          have HLEy3 := Lib.hid hly3
          clear hus hf hch hk hly3
          refine hK.out _ _ (Or.inr (HSB.out _ HCy3.out)) ?_
          clear hK K'
          try simp only [Act.put,j1,j2,j3,j4,j5,j6]
          refine wpAnyG_one (i := 8) (by kernel_rfl) rfl ((HSB.out _ HCy3.out)) (fun K' hK => ?_)
          simp only [j1,j2,j3]
          go_simp
          obtain ⟨y4, hx2⟩ : ∃ x, y3.alloc (.cells #[.int .u8 (u.toNat : Int)] 5) = x := ⟨_, rfl⟩
          have hb2 : Below y3.heap.size y3 y4 := by rw [← hx2]; exact (Below.refl _ _).alloc (Nat.le_refl _) _
          have HU : Hid (Sl byteE 1 y4 (some ⟨y3.heap.size, 0, none⟩) [u]) := Lib.hid (by rw [← hx2]; exact boxL' (enc := byteE) (w := y3) (fun _ => rfl) [u] _ _ (by simp [byteE]) _ (by simp))
          have HBy4 : Hid (Below y3.heap.size y3 y4) := Lib.hid (by first | (simpa using hb2) | exact ((Below.refl _ _).drew).trans (by simpa using hb2))
          have HCy4 : Hid (Ch (· ∈ blkOf av) x1 y4) := Lib.hid (HO1.out _ _ HCy3.out (Ch.of_below HBy4.out))
          have HFy4 : Hid (FreshIn byteE 5 1 (w.heap.size + 1) y4.heap.size (.slice ay3 usy3.length cy3) usy3 y4) := Lib.hid ((HFy3.out.below HBy4.out).mono (Nat.le_refl _) HBy4.out.size)
          have hzy4 := HBy4.out.size
          rw [hx2]
          clear hx2 hb2
          refine hK.out _ _ (Or.inr (HSB.out _ HCy4.out)) ?_
          clear hK K'
          try simp only [Act.put,j1,j2,j3,j4,j5,j6]
          refine wpAnyG_one (i := 9) (by kernel_rfl) rfl ((HSB.out _ HCy4.out)) (fun K' hK => ?_)
          simp only [j1,j2,j3]
          rw [if_pos (by rfl)]
          refine step_append_ch (.tmp 29) (.tmp 33) 22 22 (w.heap.size + 1) 5 i0 (.int .u8 0) 1 1 Try.underlying22 hi hz0 hz1 hz2 rfl (by decide) ay3 usy3.length cy3 usy3 HFy4.out (.slice (some ⟨y3.heap.size, 0, none⟩) 1 1) [u] (Src.ofSl (enc := byteE) Try.underlying22 (fun _ => rfl) byteOneC HU.out _) (by first | omega | (simp; omega)) (by have := HCy4.out.size; have := HB1.out.size; have := HQ.out.2.2.1.size; first | omega | (simp; omega)) ?_ ?_ ?_ ?_
          · rfl
          · rfl
          · rfl
          intro ay5 cy5 y5 usy5 hus hf hch hk
          have hly5 : usy5.length = usy3.length + 1 := by rw [hus.out, List.length_append]; rfl
          have HLy5 := hus
          have HFy5 := Lib.hid hf
          have HBLy5 : Hid (∀ k ∈ blkOf ay5, k ∈ blkOf av ∨ x1.heap.size ≤ k) := Lib.hid (fun k h => by
            rcases hk k h with h | h
            · exact HBLy3.out k h
            · exact .inr (by have := HCy4.out.size; (try simp at h); omega))
          have HCy5 : Hid (Ch (· ∈ blkOf av) x1 y5) := Lib.hid (HCy4.out.trans hch (fun i hi => HBLy3.out i hi))
          have hlly5 : usy5.length ≤ 100 := by omega
          have HLEy5 := Lib.hid hly5
          clear hus hf hch hk hly5
          refine hK.out _ _ (Or.inr (HSB.out _ HCy5.out)) ?_
          clear hK K'
          try simp only [Act.put,j1,j2,j3,j4,j5,j6]
          refine tW ?_ 10 rfl ?_ ?_; rotate_left
          · intro w' hSw; go_simp; try rfl
          try simp only [Act.put,j1,j2,j3,j4,j5,j6]
          refine wpAnyG_done (by kernel_rfl) ?_ _
          go_wp2_with fail
          go_roundw
          case rel =>
            have hfin : usy5 = celL (row.take (x + 1)) := by rw [HLy5.out, HLy3.out, HTK.out, HQ.out.1, List.append_assoc]
            have hbe : Below w.heap.size w y5 := HQ.out.2.2.1.trans ((HB1.out.mono HQ.out.2.2.1.size).trans (HCy5.out.below (by have := HB1.out.size; have := HQ.out.2.2.1.size; omega) (fun k hk => by have := (FreshIn.blks HQ.out.2.1 _ hk).1; omega)))
            have hcc := HB1.out.trans ((Below.refl wr.heap.size x1).mono (Nat.le_refl _))
            refine ⟨x + 1, ay5, cy5, usy5, by omega, by go_num, rfl, ?_, Lib.hid ⟨hfin, HFy5.out, hbe, ?_, ?_, by have := HCy5.out.size; have := HB1.out.size; omega⟩⟩
            · rw [hfin]
              have := celL_le row (x + 1) 24 (by omega)
              omega
            · exact ((HCy5.out.cell (p := ⟨w.heap.size, 0, none⟩) (by show w.heap.size < _; omega) (fun hk => by have h : w.heap.size + 1 ≤ w.heap.size := (FreshIn.blks HQ.out.2.1 _ hk).1; omega)).trans (HB1.out.cell (p := ⟨w.heap.size, 0, none⟩) kl)).trans k_0
            · exact ((HCy5.out.cell (p := ⟨w.heap.size, 10, none⟩) (by show w.heap.size < _; omega) (fun hk => by have h : w.heap.size + 1 ≤ w.heap.size := (FreshIn.blks HQ.out.2.1 _ hk).1; omega)).trans (HB1.out.cell (p := ⟨w.heap.size, 10, none⟩) kl)).trans k_10
          case measure => simp [intOf]; omega
        · skip
          refine ⟨_, rfl, fun K' hK => ?_⟩
          simp only [j1,j2,j3]
          go_simp
          obtain ⟨y6, hx2⟩ : ∃ x, y2.alloc (.cells #[.int .u8 (u.toNat : Int)] 5) = x := ⟨_, rfl⟩
          have hb2 : Below y2.heap.size y2 y6 := by rw [← hx2]; exact (Below.refl _ _).alloc (Nat.le_refl _) _
          have HU : Hid (Sl byteE 1 y6 (some ⟨y2.heap.size, 0, none⟩) [u]) := Lib.hid (by rw [← hx2]; exact boxL' (enc := byteE) (w := y2) (fun _ => rfl) [u] _ _ (by simp [byteE]) _ (by simp))
          have HBy6 : Hid (Below y2.heap.size y2 y6) := Lib.hid (by first | (simpa using hb2) | exact ((Below.refl _ _).drew).trans (by simpa using hb2))
          have HCy6 : Hid (Ch (· ∈ blkOf av) x1 y6) := Lib.hid (HO1.out _ _ HCy2.out (Ch.of_below HBy6.out))
          have HFy6 : Hid (FreshIn byteE 5 1 (w.heap.size + 1) y6.heap.size (.slice av L.length cv) L y6) := Lib.hid ((HFy2.out.below HBy6.out).mono (Nat.le_refl _) HBy6.out.size)
          have hzy6 := HBy6.out.size
          have HTy6 : Hid (Sl byteE 1 y6 a2 E) := Lib.hid (HT.out.keep HBy6.out)
          rw [hx2]
          clear hx2 hb2
          refine hK.out _ _ (Or.inr (HSB.out _ HCy6.out)) ?_
          clear hK K'
          try simp only [Act.put,j1,j2,j3,j4,j5,j6]
          refine wpAnyG_one (i := 4) (by kernel_rfl) rfl ((HSB.out _ HCy6.out)) (fun K' hK => ?_)
          simp only [j1,j2,j3]
          rw [if_pos (by rfl)]
          refine step_append_ch (.tmp 25) (.tmp 28) 22 22 (w.heap.size + 1) 5 i0 (.int .u8 0) 1 1 Try.underlying22 hi hz0 hz1 hz2 rfl (by decide) av L.length cv L HFy6.out (.slice a2 E.length c2) E (Src.ofSl (enc := byteE) Try.underlying22 (fun _ => rfl) byteOneC HTy6.out _) (by first | omega | (simp; omega)) (by have := HCy6.out.size; have := HB1.out.size; have := HQ.out.2.2.1.size; first | omega | (simp; omega)) ?_ ?_ ?_ ?_
          · rfl
          · rfl
          · rfl
          intro ay7 cy7 y7 usy7 hus hf hch hk
          have hly7 : usy7.length = L.length + E.length := by rw [hus.out, List.length_append]
          have HLy7 := hus
          have HFy7 := Lib.hid hf
          have HBLy7 : Hid (∀ k ∈ blkOf ay7, k ∈ blkOf av ∨ x1.heap.size ≤ k) := Lib.hid (fun k h => by
            rcases hk k h with h | h
            · exact .inl h
            · exact .inr (by have := HCy6.out.size; (try simp at h); omega))
          have HCy7 : Hid (Ch (· ∈ blkOf av) x1 y7) := Lib.hid (HCy6.out.trans hch (fun i hi => .inl hi))
          have HUy7 : Hid (Sl byteE 1 y7 (some ⟨y2.heap.size, 0, none⟩) [u]) := Lib.hid (Sl.ch HU.out hch (fun k hk hb => by
            simp only [blkOf, List.mem_singleton] at hk
            subst hk
            have h1 := (FreshIn.blks HQ.out.2.1 _ hb).2
            have h2 := HB1.out.size
            omega))
          have hlly7 : usy7.length ≤ 99 := by omega
          have HLEy7 := Lib.hid hly7
          clear hus hf hch hk hly7
          refine hK.out _ _ (Or.inr (HSB.out _ HCy7.out)) ?_
          clear hK K'
          try simp only [Act.put,j1,j2,j3,j4,j5,j6]
          refine wpAnyG_one (i := 9) (by kernel_rfl) rfl ((HSB.out _ HCy7.out)) (fun K' hK => ?_)
          simp only [j1,j2,j3]
          rw [if_pos (by rfl)]
          refine step_append_ch (.tmp 29) (.tmp 33) 22 22 (w.heap.size + 1) 5 i0 (.int .u8 0) 1 1 Try.underlying22 hi hz0 hz1 hz2 rfl (by decide) ay7 usy7.length cy7 usy7 HFy7.out (.slice (some ⟨y2.heap.size, 0, none⟩) 1 1) [u] (Src.ofSl (enc := byteE) Try.underlying22 (fun _ => rfl) byteOneC HUy7.out _) (by first | omega | (simp; omega)) (by have := HCy7.out.size; have := HB1.out.size; have := HQ.out.2.2.1.size; first | omega | (simp; omega)) ?_ ?_ ?_ ?_
          · rfl
          · rfl
          · rfl
          intro ay8 cy8 y8 usy8 hus hf hch hk
          have hly8 : usy8.length = usy7.length + 1 := by rw [hus.out, List.length_append]; rfl
          have HLy8 := hus
          have HFy8 := Lib.hid hf
          have HBLy8 : Hid (∀ k ∈ blkOf ay8, k ∈ blkOf av ∨ x1.heap.size ≤ k) := Lib.hid (fun k h => by
            rcases hk k h with h | h
            · exact HBLy7.out k h
            · exact .inr (by have := HCy7.out.size; (try simp at h); omega))
          have HCy8 : Hid (Ch (· ∈ blkOf av) x1 y8) := Lib.hid (HCy7.out.trans hch (fun i hi => HBLy7.out i hi))
          have hlly8 : usy8.length ≤ 100 := by omega
          have HLEy8 := Lib.hid hly8
          clear hus hf hch hk hly8
          refine hK.out _ _ (Or.inr (HSB.out _ HCy8.out)) ?_
          clear hK K'
          try simp only [Act.put,j1,j2,j3,j4,j5,j6]
          refine tW ?_ 10 rfl ?_ ?_; rotate_left
          · intro w' hSw; go_simp; try rfl
          try simp only [Act.put,j1,j2,j3,j4,j5,j6]
          refine wpAnyG_done (by kernel_rfl) ?_ _
          go_wp2_with fail
          go_roundw
          case rel =>
            have hfin : usy8 = celL (row.take (x + 1)) := by rw [HLy8.out, HLy7.out, HTK.out, HQ.out.1, List.append_assoc]
            have hbe : Below w.heap.size w y8 := HQ.out.2.2.1.trans ((HB1.out.mono HQ.out.2.2.1.size).trans (HCy8.out.below (by have := HB1.out.size; have := HQ.out.2.2.1.size; omega) (fun k hk => by have := (FreshIn.blks HQ.out.2.1 _ hk).1; omega)))
            have hcc := HB1.out.trans ((Below.refl wr.heap.size x1).mono (Nat.le_refl _))
            refine ⟨x + 1, ay8, cy8, usy8, by omega, by go_num, rfl, ?_, Lib.hid ⟨hfin, HFy8.out, hbe, ?_, ?_, by have := HCy8.out.size; have := HB1.out.size; omega⟩⟩
            · rw [hfin]
              have := celL_le row (x + 1) 24 (by omega)
              omega
            · exact ((HCy8.out.cell (p := ⟨w.heap.size, 0, none⟩) (by show w.heap.size < _; omega) (fun hk => by have h : w.heap.size + 1 ≤ w.heap.size := (FreshIn.blks HQ.out.2.1 _ hk).1; omega)).trans (HB1.out.cell (p := ⟨w.heap.size, 0, none⟩) kl)).trans k_0
            · exact ((HCy8.out.cell (p := ⟨w.heap.size, 10, none⟩) (by show w.heap.size < _; omega) (fun hk => by have h : w.heap.size + 1 ≤ w.heap.size := (FreshIn.blks HQ.out.2.1 _ hk).1; omega)).trans (HB1.out.cell (p := ⟨w.heap.size, 10, none⟩) kl)).trans k_10
          case measure => simp [intOf]; omega
      · skip
        refine ⟨_, rfl, fun K' hK => ?_⟩
        simp only [j1,j2,j3]
        go_simp
        obtain ⟨y9, hx2⟩ : ∃ x, (x1.alloc (.cells #[.int .u8 (u.toNat : Int)] 5)).drew = x := ⟨_, rfl⟩
        have hb2 : Below x1.heap.size x1 y9 := by rw [← hx2]; exact ((Below.refl _ _).alloc (Nat.le_refl _) _).drew
        have HU : Hid (Sl byteE 1 y9 (some ⟨x1.heap.size, 0, none⟩) [u]) := Lib.hid (by rw [← hx2]; exact boxL' (enc := byteE) (w := x1.drew) (fun _ => rfl) [u] _ _ (by simp [byteE]) _ (by simp))
        have HBy9 : Hid (Below x1.heap.size x1 y9) := Lib.hid (by first | (simpa using hb2) | exact ((Below.refl _ _).drew).trans (by simpa using hb2))
        have HCy9 : Hid (Ch (· ∈ blkOf av) x1 y9) := Lib.hid (HO1.out _ _ HC1.out (Ch.of_below HBy9.out))
        have HFy9 : Hid (FreshIn byteE 5 1 (w.heap.size + 1) y9.heap.size (.slice av L.length cv) L y9) := Lib.hid ((HF1.out.below HBy9.out).mono (Nat.le_refl _) HBy9.out.size)
        have hzy9 := HBy9.out.size
        rw [hx2]
        clear hx2 hb2
        refine hK.out _ _ (Or.inr (HSB.out _ HCy9.out)) ?_
        clear hK K'
        try simp only [Act.put,j1,j2,j3,j4,j5,j6]
        refine wpAnyG_one (i := 3) (by kernel_rfl) rfl ((HSB.out _ HCy9.out)) (fun K' hK => ?_)
        simp only [j1,j2,j3]
        go_simp
        go_at_call 62
        refine (HCALL.out _).mono ?_
        rintro e y10 ⟨v2, rfl, hf2, hb2⟩
        obtain ⟨a2, c2, rfl, hc2, ho2⟩ := id hf2
        have HT : Hid (Sl byteE 1 y10 a2 E) := Lib.hid (Sl.of_own (fun _ => rfl) ho2)
        have HBy10 : Hid (Below y9.heap.size y9 y10) := Lib.hid (by first | (simpa using hb2) | exact ((Below.refl _ _).drew).trans (by simpa using hb2))
        have HCy10 : Hid (Ch (· ∈ blkOf av) x1 y10) := Lib.hid (HO1.out _ _ HCy9.out (Ch.of_below HBy10.out))
        have HFy10 : Hid (FreshIn byteE 5 1 (w.heap.size + 1) y10.heap.size (.slice av L.length cv) L y10) := Lib.hid ((HFy9.out.below HBy10.out).mono (Nat.le_refl _) HBy10.out.size)
        have hzy10 := HBy10.out.size
        have HUy10 : Hid (Sl byteE 1 y10 (some ⟨x1.heap.size, 0, none⟩) [u]) := Lib.hid (HU.out.keep HBy10.out)
        clear hf2 hc2 ho2 hb2
        refine hK.out _ _ (Or.inr (HSB.out _ HCy10.out)) ?_
        clear hK K'
        try simp only [Act.put,j1,j2,j3,j4,j5,j6]
        refine wpAnyG_one (i := 4) (by kernel_rfl) rfl ((HSB.out _ HCy10.out)) (fun K' hK => ?_)
        simp only [j1,j2,j3]
        rw [if_pos (by rfl)]
        refine step_append_ch (.tmp 25) (.tmp 28) 22 22 (w.heap.size + 1) 5 i0 (.int .u8 0) 1 1 Try.underlying22 hi hz0 hz1 hz2 rfl (by decide) av L.length cv L HFy10.out (.slice a2 E.length c2) E (Src.ofSl (enc := byteE) Try.underlying22 (fun _ => rfl) byteOneC HT.out _) (by first | omega | (simp; omega)) (by have := HCy10.out.size; have := HB1.out.size; have := HQ.out.2.2.1.size; first | omega | (simp; omega)) ?_ ?_ ?_ ?_
        · rfl
        · rfl
        · rfl
        intro ay11 cy11 y11 usy11 hus hf hch hk
        have hly11 : usy11.length = L.length + E.length := by rw [hus.out, List.length_append]
        have HLy11 := hus
        have HFy11 := Lib.hid hf
        have HBLy11 : Hid (∀ k ∈ blkOf ay11, k ∈ blkOf av ∨ x1.heap.size ≤ k) := Lib.hid (fun k h => by
          rcases hk k h with h | h
          · exact .inl h
          · exact .inr (by have := HCy10.out.size; (try simp at h); omega))
        have HCy11 : Hid (Ch (· ∈ blkOf av) x1 y11) := Lib.hid (HCy10.out.trans hch (fun i hi => .inl hi))
        have HUy11 : Hid (Sl byteE 1 y11 (some ⟨x1.heap.size, 0, none⟩) [u]) := Lib.hid (Sl.ch HUy10.out hch (fun k hk hb => by
          simp only [blkOf, List.mem_singleton] at hk
          subst hk
          have h1 := (FreshIn.blks HQ.out.2.1 _ hb).2
          have h2 := HB1.out.size
          omega))
        have hlly11 : usy11.length ≤ 99 := by omega
        have HLEy11 := Lib.hid hly11
        clear hus hf hch hk hly11
        refine hK.out _ _ (Or.inr (HSB.out _ HCy11.out)) ?_
        clear hK K'
        try simp only [Act.put,j1,j2,j3,j4,j5,j6]
        refine wpAnyG_one (i := 9) (by kernel_rfl) rfl ((HSB.out _ HCy11.out)) (fun K' hK => ?_)
        simp only [j1,j2,j3]
        rw [if_pos (by rfl)]
        refine step_append_ch (.tmp 29) (.tmp 33) 22 22 (w.heap.size + 1) 5 i0 (.int .u8 0) 1 1 Try.underlying22 hi hz0 hz1 hz2 rfl (by decide) ay11 usy11.length cy11 usy11 HFy11.out (.slice (some ⟨x1.heap.size, 0, none⟩) 1 1) [u] (Src.ofSl (enc := byteE) Try.underlying22 (fun _ => rfl) byteOneC HUy11.out _) (by first | omega | (simp; omega)) (by have := HCy11.out.size; have := HB1.out.size; have := HQ.out.2.2.1.size; first | omega | (simp; omega)) ?_ ?_ ?_ ?_
        · rfl
        · rfl
        · rfl
        intro ay12 cy12 y12 usy12 hus hf hch hk
        have hly12 : usy12.length = usy11.length + 1 := by rw [hus.out, List.length_append]; rfl
        have HLy12 := hus
        have HFy12 := Lib.hid hf
        have HBLy12 : Hid (∀ k ∈ blkOf ay12, k ∈ blkOf av ∨ x1.heap.size ≤ k) := Lib.hid (fun k h => by
          rcases hk k h with h | h
          · exact HBLy11.out k h
          · exact .inr (by have := HCy11.out.size; (try simp at h); omega))
        have HCy12 : Hid (Ch (· ∈ blkOf av) x1 y12) := Lib.hid (HCy11.out.trans hch (fun i hi => HBLy11.out i hi))
        have hlly12 : usy12.length ≤ 100 := by omega
        have HLEy12 := Lib.hid hly12
        clear hus hf hch hk hly12
        refine hK.out _ _ (Or.inr (HSB.out _ HCy12.out)) ?_
        clear hK K'
        try simp only [Act.put,j1,j2,j3,j4,j5,j6]
        refine tW ?_ 10 rfl ?_ ?_; rotate_left
        · intro w' hSw; go_simp; try rfl
        try simp only [Act.put,j1,j2,j3,j4,j5,j6]
        refine wpAnyG_done (by kernel_rfl) ?_ _
        go_wp2_with fail
        go_roundw
        case rel =>
          have hfin : usy12 = celL (row.take (x + 1)) := by rw [HLy12.out, HLy11.out, HTK.out, HQ.out.1, List.append_assoc]
          have hbe : Below w.heap.size w y12 := HQ.out.2.2.1.trans ((HB1.out.mono HQ.out.2.2.1.size).trans (HCy12.out.below (by have := HB1.out.size; have := HQ.out.2.2.1.size; omega) (fun k hk => by have := (FreshIn.blks HQ.out.2.1 _ hk).1; omega)))
          have hcc := HB1.out.trans ((Below.refl wr.heap.size x1).mono (Nat.le_refl _))
          refine ⟨x + 1, ay12, cy12, usy12, by omega, by go_num, rfl, ?_, Lib.hid ⟨hfin, HFy12.out, hbe, ?_, ?_, by have := HCy12.out.size; have := HB1.out.size; omega⟩⟩
          · rw [hfin]
            have := celL_le row (x + 1) 24 (by omega)
            omega
          · exact ((HCy12.out.cell (p := ⟨w.heap.size, 0, none⟩) (by show w.heap.size < _; omega) (fun hk => by have h : w.heap.size + 1 ≤ w.heap.size := (FreshIn.blks HQ.out.2.1 _ hk).1; omega)).trans (HB1.out.cell (p := ⟨w.heap.size, 0, none⟩) kl)).trans k_0
          · exact ((HCy12.out.cell (p := ⟨w.heap.size, 10, none⟩) (by show w.heap.size < _; omega) (fun hk => by have h : w.heap.size + 1 ≤ w.heap.size := (FreshIn.blks HQ.out.2.1 _ hk).1; omega)).trans (HB1.out.cell (p := ⟨w.heap.size, 10, none⟩) kl)).trans k_10
        case measure => simp [intOf]; omega
    · obtain rfl : x = wd := by omega
      have htk : row.take x = row := List.take_of_length_le (by rw [HRL.out]; exact Nat.le_refl _)
      have HLL : Hid (L = celL row) := Lib.hid (by rw [HQ.out.1, htk])
      clear htk
      have HLF : Hid (Sl byteE 1 wr av L) := Lib.hid (HQ.out.2.1.sl (fun _ => rfl))
      have hcv : (convert 22 9 (.slice av L.length cv)).run Try.prog wr = .ok (.string (strOf L)) wr := convS HLF.out
      go_wp2_with fail
      go_ret
      exact ⟨by rw [HLL.out]; rfl, HQ.out.2.2.1⟩
end
section
open Go.RowKit
theorem isSize_c (a b : Int) (w : World) : Calls Try.prog 24 #[.int .i64 a, .int .i64 b] w fun e w' => e = .returned (.bool (inB a 2 24 && inB b 2 10)) ∧ w = w' := by
  obtain ⟨u, hu⟩ : ∃ u, inB a 2 24 = u := ⟨_, rfl⟩
  obtain ⟨v, hv⟩ : ∃ v, inB b 2 10 = v := ⟨_, rfl⟩
  have HU := Lib.hid hu
  have HV := Lib.hid hv
  rw [hu, hv]
  clear hu hv
  cases u <;> cases v
  all_goals
    go_enter Try.func24, Try.ntmps24
    go_wp2_with (go_at_call 25; refine (within_c _ _ _ _).mono ?_; (first | rw [HU.out] | rw [HV.out]); rintro e w' ⟨rfl, rfl⟩)
    all_goals
      go_ret
      exact ⟨rfl, rfl⟩
def rnB (n : Int) : Bool := inB n 32 1114111 && !(n == 127) && !inB n 55296 57343
theorem isRune_c (n : Int) (w : World) : Calls Try.prog 31 #[.int .i64 n] w fun e w' => e = .returned (.bool (rnB n)) ∧ w = w' := by
  obtain ⟨u, hu⟩ : ∃ u, inB n 32 1114111 = u := ⟨_, rfl⟩
  obtain ⟨v, hv⟩ : ∃ v, inB n 55296 57343 = v := ⟨_, rfl⟩
  have HU := Lib.hid hu
  have HV := Lib.hid hv
  have hB : rnB n = (u && !(n == 127) && !v) := by unfold rnB; rw [hu, hv]
  rw [hB]
  clear hB hu hv
  cases h127 : (n == 127) <;> cases u <;> cases v
  all_goals
    have q127 : (n != 127) = !(n == 127) := rfl
    rw [h127] at q127
    go_enter Try.func31, Try.ntmps31
    go_wp2_with (go_at_call 25; refine (within_c _ _ _ _).mono ?_; (first | rw [HU.out] | rw [HV.out]); rintro e w' ⟨rfl, rfl⟩)
    all_goals
      go_ret
      exact ⟨rfl, rfl⟩
theorem celB_rn (c : Cl) : celB c = (rnB c.1 && inB c.2 0 127) := by
  unfold celB rnB inB
  rw [Bool.eq_iff_iff]
  simp only [Bool.and_eq_true, decide_eq_true_eq, Bool.not_eq_true', Bool.and_eq_false_iff, decide_eq_false_iff_not, beq_eq_false_iff_ne, ne_eq]
  omega
theorem isScreen2_c (c : Cl) (w : World) : Calls Try.prog 30 #[.agg #[.int .i64 c.1, .int .i64 c.2]] w fun e w' => e = .returned (.bool (!celB c)) ∧ Below w.heap.size w w' := by
  obtain ⟨n, k⟩ := c
  obtain ⟨u, hu⟩ : ∃ u, rnB n = u := ⟨_, rfl⟩
  obtain ⟨v, hv⟩ : ∃ v, inB k 0 127 = v := ⟨_, rfl⟩
  have HU := Lib.hid hu
  have HV := Lib.hid hv
  rw [celB_rn]
  simp only
  rw [hu, hv]
  clear hu hv
  cases u <;> cases v
  all_goals
    go_enter Try.func30, Try.ntmps30
    go_wp2_with (first | (go_at_call 31; refine (isRune_c _ _).mono ?_; rw [HU.out]; rintro e w' ⟨rfl, rfl⟩) | (go_at_call 25; refine (within_c _ _ _ _).mono ?_; rw [HV.out]; rintro e w' ⟨rfl, rfl⟩))
    all_goals
      go_ret
      exact ⟨rfl, (Below.refl _ _).alloc (Nat.le_refl _) _⟩
end
section
open Go.RowKit
theorem screenOK_no1 (s : ScrI) (ac : Option Addr) (cc : Nat) (ah : Option Addr) (dh : Nat) (w : World) (hcl : s.cells.length ≤ 1048576) (hhl : s.hist.length ≤ 1048576)  (hk : (inB s.w 2 24 && inB s.h 2 10) = false) :
    Calls Try.prog 15 #[.agg #[.int .i64 s.w, .int .i64 s.h, .int .i64 s.x, .int .i64 s.y, .int .i64 s.look, .int .i64 s.top, .int .i64 s.bot, .int .i64 s.sx, .int .i64 s.sy, .string s.title, .slice ac s.cells.length cc, .slice ah s.hist.length dh]] w fun e w' => e = .returned (.bool false) ∧ Below w.heap.size w w' := by
  have H1 := Lib.hid hk
  clear hk 
  obtain ⟨nc, hnc⟩ : ∃ n, s.cells.length = n := ⟨_, rfl⟩
  obtain ⟨nh, hnh⟩ : ∃ n, s.hist.length = n := ⟨_, rfl⟩
  have HNC := Lib.hid hnc
  have HNH := Lib.hid hnh
  rw [hnc, hnh]
  rw [hnc] at hcl
  rw [hnh] at hhl
  clear hnc hnh
  go_enter Try.func15, Try.ntmps15
  simp only [List.append_eq, List.cons_append, List.nil_append]
  go_wp2_with (go_at_call 35; refine (l04Size_c _ _ _).mono ?_; rw [H1.out]; rintro e w' ⟨rfl, rfl⟩)
  go_ret
  exact ⟨rfl, (Below.refl _ _).alloc (Nat.le_refl _) _⟩
theorem screenOK_no2 (s : ScrI) (ac : Option Addr) (cc : Nat) (ah : Option Addr) (dh : Nat) (w : World) (hcl : s.cells.length ≤ 1048576) (hhl : s.hist.length ≤ 1048576) (h1 : (inB s.w 2 24 && inB s.h 2 10) = true) (hk : inB s.x 0 s.w = false) :
    Calls Try.prog 15 #[.agg #[.int .i64 s.w, .int .i64 s.h, .int .i64 s.x, .int .i64 s.y, .int .i64 s.look, .int .i64 s.top, .int .i64 s.bot, .int .i64 s.sx, .int .i64 s.sy, .string s.title, .slice ac s.cells.length cc, .slice ah s.hist.length dh]] w fun e w' => e = .returned (.bool false) ∧ Below w.heap.size w w' := by
  have H1 := Lib.hid h1
  have H2 := Lib.hid hk
  clear hk h1
  have hw2 : 2 ≤ s.w ∧ s.w ≤ 24 := by have := H1.out; simp only [inB, Bool.and_eq_true, decide_eq_true_eq] at this; omega
  have hh2 : 2 ≤ s.h ∧ s.h ≤ 10 := by have := H1.out; simp only [inB, Bool.and_eq_true, decide_eq_true_eq] at this; omega
  obtain ⟨hw2a, hw2b⟩ := hw2
  obtain ⟨hh2a, hh2b⟩ := hh2
  obtain ⟨nc, hnc⟩ : ∃ n, s.cells.length = n := ⟨_, rfl⟩
  obtain ⟨nh, hnh⟩ : ∃ n, s.hist.length = n := ⟨_, rfl⟩
  have HNC := Lib.hid hnc
  have HNH := Lib.hid hnh
  rw [hnc, hnh]
  rw [hnc] at hcl
  rw [hnh] at hhl
  clear hnc hnh
  go_enter Try.func15, Try.ntmps15
  simp only [List.append_eq, List.cons_append, List.nil_append]
  go_wp2_with (first | (go_at_call 35; refine (l04Size_c _ _ _).mono ?_; rw [H1.out]; rintro e w' ⟨rfl, rfl⟩) | (go_at_call 36; refine (l01In_c _ _ _ _).mono ?_; (first | rw [H2.out]); rintro e w' ⟨rfl, rfl⟩))
  go_ret
  exact ⟨rfl, (Below.refl _ _).alloc (Nat.le_refl _) _⟩
theorem screenOK_no3 (s : ScrI) (ac : Option Addr) (cc : Nat) (ah : Option Addr) (dh : Nat) (w : World) (hcl : s.cells.length ≤ 1048576) (hhl : s.hist.length ≤ 1048576) (h1 : (inB s.w 2 24 && inB s.h 2 10) = true) (h2 : inB s.x 0 s.w = true) (hk : inB s.y 0 (s.h - 1) = false) :
    Calls Try.prog 15 #[.agg #[.int .i64 s.w, .int .i64 s.h, .int .i64 s.x, .int .i64 s.y, .int .i64 s.look, .int .i64 s.top, .int .i64 s.bot, .int .i64 s.sx, .int .i64 s.sy, .string s.title, .slice ac s.cells.length cc, .slice ah s.hist.length dh]] w fun e w' => e = .returned (.bool false) ∧ Below w.heap.size w w' := by
  have H1 := Lib.hid h1
  have H2 := Lib.hid h2
  have H3 := Lib.hid hk
  clear hk h1 h2
  have hw2 : 2 ≤ s.w ∧ s.w ≤ 24 := by have := H1.out; simp only [inB, Bool.and_eq_true, decide_eq_true_eq] at this; omega
  have hh2 : 2 ≤ s.h ∧ s.h ≤ 10 := by have := H1.out; simp only [inB, Bool.and_eq_true, decide_eq_true_eq] at this; omega
  obtain ⟨hw2a, hw2b⟩ := hw2
  obtain ⟨hh2a, hh2b⟩ := hh2
  obtain ⟨nc, hnc⟩ : ∃ n, s.cells.length = n := ⟨_, rfl⟩
  obtain ⟨nh, hnh⟩ : ∃ n, s.hist.length = n := ⟨_, rfl⟩
  have HNC := Lib.hid hnc
  have HNH := Lib.hid hnh
  rw [hnc, hnh]
  rw [hnc] at hcl
  rw [hnh] at hhl
  clear hnc hnh
  go_enter Try.func15, Try.ntmps15
  simp only [List.append_eq, List.cons_append, List.nil_append]
  go_wp2_with (first | (go_at_call 35; refine (l04Size_c _ _ _).mono ?_; rw [H1.out]; rintro e w' ⟨rfl, rfl⟩) | (go_at_call 36; refine (l01In_c _ _ _ _).mono ?_; (first | rw [H2.out] | rw [H3.out]); rintro e w' ⟨rfl, rfl⟩))
  go_ret
  exact ⟨rfl, (Below.refl _ _).alloc (Nat.le_refl _) _⟩
theorem screenOK_no4 (s : ScrI) (ac : Option Addr) (cc : Nat) (ah : Option Addr) (dh : Nat) (w : World) (hcl : s.cells.length ≤ 1048576) (hhl : s.hist.length ≤ 1048576) (h1 : (inB s.w 2 24 && inB s.h 2 10) = true) (h2 : inB s.x 0 s.w = true) (h3 : inB s.y 0 (s.h - 1) = true) (hk : inB s.look 0 127 = false) :
    Calls Try.prog 15 #[.agg #[.int .i64 s.w, .int .i64 s.h, .int .i64 s.x, .int .i64 s.y, .int .i64 s.look, .int .i64 s.top, .int .i64 s.bot, .int .i64 s.sx, .int .i64 s.sy, .string s.title, .slice ac s.cells.length cc, .slice ah s.hist.length dh]] w fun e w' => e = .returned (.bool false) ∧ Below w.heap.size w w' := by
  have H1 := Lib.hid h1
  have H2 := Lib.hid h2
  have H3 := Lib.hid h3
  have H4 := Lib.hid hk
  clear hk h1 h2 h3
  have hw2 : 2 ≤ s.w ∧ s.w ≤ 24 := by have := H1.out; simp only [inB, Bool.and_eq_true, decide_eq_true_eq] at this; omega
  have hh2 : 2 ≤ s.h ∧ s.h ≤ 10 := by have := H1.out; simp only [inB, Bool.and_eq_true, decide_eq_true_eq] at this; omega
  obtain ⟨hw2a, hw2b⟩ := hw2
  obtain ⟨hh2a, hh2b⟩ := hh2
  obtain ⟨nc, hnc⟩ : ∃ n, s.cells.length = n := ⟨_, rfl⟩
  obtain ⟨nh, hnh⟩ : ∃ n, s.hist.length = n := ⟨_, rfl⟩
  have HNC := Lib.hid hnc
  have HNH := Lib.hid hnh
  rw [hnc, hnh]
  rw [hnc] at hcl
  rw [hnh] at hhl
  clear hnc hnh
  go_enter Try.func15, Try.ntmps15
  simp only [List.append_eq, List.cons_append, List.nil_append]
  go_wp2_with (first | (go_at_call 35; refine (l04Size_c _ _ _).mono ?_; rw [H1.out]; rintro e w' ⟨rfl, rfl⟩) | (go_at_call 36; refine (l01In_c _ _ _ _).mono ?_; (first | rw [H2.out] | rw [H3.out] | rw [H4.out]); rintro e w' ⟨rfl, rfl⟩))
  go_ret
  exact ⟨rfl, (Below.refl _ _).alloc (Nat.le_refl _) _⟩
theorem screenOK_no5 (s : ScrI) (ac : Option Addr) (cc : Nat) (ah : Option Addr) (dh : Nat) (w : World) (hcl : s.cells.length ≤ 1048576) (hhl : s.hist.length ≤ 1048576) (h1 : (inB s.w 2 24 && inB s.h 2 10) = true) (h2 : inB s.x 0 s.w = true) (h3 : inB s.y 0 (s.h - 1) = true) (h4 : inB s.look 0 127 = true) (hk : inB s.top 0 (s.h - 2) = false) :
    Calls Try.prog 15 #[.agg #[.int .i64 s.w, .int .i64 s.h, .int .i64 s.x, .int .i64 s.y, .int .i64 s.look, .int .i64 s.top, .int .i64 s.bot, .int .i64 s.sx, .int .i64 s.sy, .string s.title, .slice ac s.cells.length cc, .slice ah s.hist.length dh]] w fun e w' => e = .returned (.bool false) ∧ Below w.heap.size w w' := by
  have H1 := Lib.hid h1
  have H2 := Lib.hid h2
  have H3 := Lib.hid h3
  have H4 := Lib.hid h4
  have H5 := Lib.hid hk
  clear hk h1 h2 h3 h4
  have hw2 : 2 ≤ s.w ∧ s.w ≤ 24 := by have := H1.out; simp only [inB, Bool.and_eq_true, decide_eq_true_eq] at this; omega
  have hh2 : 2 ≤ s.h ∧ s.h ≤ 10 := by have := H1.out; simp only [inB, Bool.and_eq_true, decide_eq_true_eq] at this; omega
  obtain ⟨hw2a, hw2b⟩ := hw2
  obtain ⟨hh2a, hh2b⟩ := hh2
  obtain ⟨nc, hnc⟩ : ∃ n, s.cells.length = n := ⟨_, rfl⟩
  obtain ⟨nh, hnh⟩ : ∃ n, s.hist.length = n := ⟨_, rfl⟩
  have HNC := Lib.hid hnc
  have HNH := Lib.hid hnh
  rw [hnc, hnh]
  rw [hnc] at hcl
  rw [hnh] at hhl
  clear hnc hnh
  go_enter Try.func15, Try.ntmps15
  simp only [List.append_eq, List.cons_append, List.nil_append]
  go_wp2_with (first | (go_at_call 35; refine (l04Size_c _ _ _).mono ?_; rw [H1.out]; rintro e w' ⟨rfl, rfl⟩) | (go_at_call 36; refine (l01In_c _ _ _ _).mono ?_; (first | rw [H2.out] | rw [H3.out] | rw [H4.out] | rw [H5.out]); rintro e w' ⟨rfl, rfl⟩))
  go_ret
  exact ⟨rfl, (Below.refl _ _).alloc (Nat.le_refl _) _⟩
theorem screenOK_no6 (s : ScrI) (ac : Option Addr) (cc : Nat) (ah : Option Addr) (dh : Nat) (w : World) (hcl : s.cells.length ≤ 1048576) (hhl : s.hist.length ≤ 1048576) (h1 : (inB s.w 2 24 && inB s.h 2 10) = true) (h2 : inB s.x 0 s.w = true) (h3 : inB s.y 0 (s.h - 1) = true) (h4 : inB s.look 0 127 = true) (h5 : inB s.top 0 (s.h - 2) = true) (hk : inB s.bot (s.top + 1) (s.h - 1) = false) :
    Calls Try.prog 15 #[.agg #[.int .i64 s.w, .int .i64 s.h, .int .i64 s.x, .int .i64 s.y, .int .i64 s.look, .int .i64 s.top, .int .i64 s.bot, .int .i64 s.sx, .int .i64 s.sy, .string s.title, .slice ac s.cells.length cc, .slice ah s.hist.length dh]] w fun e w' => e = .returned (.bool false) ∧ Below w.heap.size w w' := by
  have H1 := Lib.hid h1
  have H2 := Lib.hid h2
  have H3 := Lib.hid h3
  have H4 := Lib.hid h4
  have H5 := Lib.hid h5
  have H6 := Lib.hid hk
  clear hk h1 h2 h3 h4 h5
  have hw2 : 2 ≤ s.w ∧ s.w ≤ 24 := by have := H1.out; simp only [inB, Bool.and_eq_true, decide_eq_true_eq] at this; omega
  have hh2 : 2 ≤ s.h ∧ s.h ≤ 10 := by have := H1.out; simp only [inB, Bool.and_eq_true, decide_eq_true_eq] at this; omega
  obtain ⟨hw2a, hw2b⟩ := hw2
  obtain ⟨hh2a, hh2b⟩ := hh2
  have ht2 : 0 ≤ s.top ∧ s.top ≤ s.h - 2 := by have := H5.out; simp only [inB, Bool.and_eq_true, decide_eq_true_eq] at this; omega
  obtain ⟨ht2a, ht2b⟩ := ht2
  obtain ⟨nc, hnc⟩ : ∃ n, s.cells.length = n := ⟨_, rfl⟩
  obtain ⟨nh, hnh⟩ : ∃ n, s.hist.length = n := ⟨_, rfl⟩
  have HNC := Lib.hid hnc
  have HNH := Lib.hid hnh
  rw [hnc, hnh]
  rw [hnc] at hcl
  rw [hnh] at hhl
  clear hnc hnh
  go_enter Try.func15, Try.ntmps15
  simp only [List.append_eq, List.cons_append, List.nil_append]
  go_wp2_with (first | (go_at_call 35; refine (l04Size_c _ _ _).mono ?_; rw [H1.out]; rintro e w' ⟨rfl, rfl⟩) | (go_at_call 36; refine (l01In_c _ _ _ _).mono ?_; (first | rw [H2.out] | rw [H3.out] | rw [H4.out] | rw [H5.out] | rw [H6.out]); rintro e w' ⟨rfl, rfl⟩))
  go_ret
  exact ⟨rfl, (Below.refl _ _).alloc (Nat.le_refl _) _⟩
theorem screenOK_no7 (s : ScrI) (ac : Option Addr) (cc : Nat) (ah : Option Addr) (dh : Nat) (w : World) (hcl : s.cells.length ≤ 1048576) (hhl : s.hist.length ≤ 1048576) (h1 : (inB s.w 2 24 && inB s.h 2 10) = true) (h2 : inB s.x 0 s.w = true) (h3 : inB s.y 0 (s.h - 1) = true) (h4 : inB s.look 0 127 = true) (h5 : inB s.top 0 (s.h - 2) = true) (h6 : inB s.bot (s.top + 1) (s.h - 1) = true) (hk : inB s.sx 0 s.w = false) :
    Calls Try.prog 15 #[.agg #[.int .i64 s.w, .int .i64 s.h, .int .i64 s.x, .int .i64 s.y, .int .i64 s.look, .int .i64 s.top, .int .i64 s.bot, .int .i64 s.sx, .int .i64 s.sy, .string s.title, .slice ac s.cells.length cc, .slice ah s.hist.length dh]] w fun e w' => e = .returned (.bool false) ∧ Below w.heap.size w w' := by
  have H1 := Lib.hid h1
  have H2 := Lib.hid h2
  have H3 := Lib.hid h3
  have H4 := Lib.hid h4
  have H5 := Lib.hid h5
  have H6 := Lib.hid h6
  have H7 := Lib.hid hk
  clear hk h1 h2 h3 h4 h5 h6
  have hw2 : 2 ≤ s.w ∧ s.w ≤ 24 := by have := H1.out; simp only [inB, Bool.and_eq_true, decide_eq_true_eq] at this; omega
  have hh2 : 2 ≤ s.h ∧ s.h ≤ 10 := by have := H1.out; simp only [inB, Bool.and_eq_true, decide_eq_true_eq] at this; omega
  obtain ⟨hw2a, hw2b⟩ := hw2
  obtain ⟨hh2a, hh2b⟩ := hh2
  have ht2 : 0 ≤ s.top ∧ s.top ≤ s.h - 2 := by have := H5.out; simp only [inB, Bool.and_eq_true, decide_eq_true_eq] at this; omega
  obtain ⟨ht2a, ht2b⟩ := ht2
  obtain ⟨nc, hnc⟩ : ∃ n, s.cells.length = n := ⟨_, rfl⟩
  obtain ⟨nh, hnh⟩ : ∃ n, s.hist.length = n := ⟨_, rfl⟩
  have HNC := Lib.hid hnc
  have HNH := Lib.hid hnh
  rw [hnc, hnh]
  rw [hnc] at hcl
  rw [hnh] at hhl
  clear hnc hnh
  go_enter Try.func15, Try.ntmps15
  simp only [List.append_eq, List.cons_append, List.nil_append]
  go_wp2_with (first | (go_at_call 35; refine (l04Size_c _ _ _).mono ?_; rw [H1.out]; rintro e w' ⟨rfl, rfl⟩) | (go_at_call 36; refine (l01In_c _ _ _ _).mono ?_; (first | rw [H2.out] | rw [H3.out] | rw [H4.out] | rw [H5.out] | rw [H6.out] | rw [H7.out]); rintro e w' ⟨rfl, rfl⟩))
  go_ret
  exact ⟨rfl, (Below.refl _ _).alloc (Nat.le_refl _) _⟩
theorem screenOK_no8 (s : ScrI) (ac : Option Addr) (cc : Nat) (ah : Option Addr) (dh : Nat) (w : World) (hcl : s.cells.length ≤ 1048576) (hhl : s.hist.length ≤ 1048576) (h1 : (inB s.w 2 24 && inB s.h 2 10) = true) (h2 : inB s.x 0 s.w = true) (h3 : inB s.y 0 (s.h - 1) = true) (h4 : inB s.look 0 127 = true) (h5 : inB s.top 0 (s.h - 2) = true) (h6 : inB s.bot (s.top + 1) (s.h - 1) = true) (h7 : inB s.sx 0 s.w = true) (hk : inB s.sy 0 (s.h - 1) = false) :
    Calls Try.prog 15 #[.agg #[.int .i64 s.w, .int .i64 s.h, .int .i64 s.x, .int .i64 s.y, .int .i64 s.look, .int .i64 s.top, .int .i64 s.bot, .int .i64 s.sx, .int .i64 s.sy, .string s.title, .slice ac s.cells.length cc, .slice ah s.hist.length dh]] w fun e w' => e = .returned (.bool false) ∧ Below w.heap.size w w' := by
  have H1 := Lib.hid h1
  have H2 := Lib.hid h2
  have H3 := Lib.hid h3
  have H4 := Lib.hid h4
  have H5 := Lib.hid h5
  have H6 := Lib.hid h6
  have H7 := Lib.hid h7
  have H8 := Lib.hid hk
  clear hk h1 h2 h3 h4 h5 h6 h7
  have hw2 : 2 ≤ s.w ∧ s.w ≤ 24 := by have := H1.out; simp only [inB, Bool.and_eq_true, decide_eq_true_eq] at this; omega
  have hh2 : 2 ≤ s.h ∧ s.h ≤ 10 := by have := H1.out; simp only [inB, Bool.and_eq_true, decide_eq_true_eq] at this; omega
  obtain ⟨hw2a, hw2b⟩ := hw2
  obtain ⟨hh2a, hh2b⟩ := hh2
  have ht2 : 0 ≤ s.top ∧ s.top ≤ s.h - 2 := by have := H5.out; simp only [inB, Bool.and_eq_true, decide_eq_true_eq] at this; omega
  obtain ⟨ht2a, ht2b⟩ := ht2
  obtain ⟨nc, hnc⟩ : ∃ n, s.cells.length = n := ⟨_, rfl⟩
  obtain ⟨nh, hnh⟩ : ∃ n, s.hist.length = n := ⟨_, rfl⟩
  have HNC := Lib.hid hnc
  have HNH := Lib.hid hnh
  rw [hnc, hnh]
  rw [hnc] at hcl
  rw [hnh] at hhl
  clear hnc hnh
  go_enter Try.func15, Try.ntmps15
  simp only [List.append_eq, List.cons_append, List.nil_append]
  go_wp2_with (first | (go_at_call 35; refine (l04Size_c _ _ _).mono ?_; rw [H1.out]; rintro e w' ⟨rfl, rfl⟩) | (go_at_call 36; refine (l01In_c _ _ _ _).mono ?_; (first | rw [H2.out] | rw [H3.out] | rw [H4.out] | rw [H5.out] | rw [H6.out] | rw [H7.out] | rw [H8.out]); rintro e w' ⟨rfl, rfl⟩))
  go_ret
  exact ⟨rfl, (Below.refl _ _).alloc (Nat.le_refl _) _⟩
theorem screenOK_no9 (s : ScrI) (ac : Option Addr) (cc : Nat) (ah : Option Addr) (dh : Nat) (w : World) (hcl : s.cells.length ≤ 1048576) (hhl : s.hist.length ≤ 1048576) (h1 : (inB s.w 2 24 && inB s.h 2 10) = true) (h2 : inB s.x 0 s.w = true) (h3 : inB s.y 0 (s.h - 1) = true) (h4 : inB s.look 0 127 = true) (h5 : inB s.top 0 (s.h - 2) = true) (h6 : inB s.bot (s.top + 1) (s.h - 1) = true) (h7 : inB s.sx 0 s.w = true) (h8 : inB s.sy 0 (s.h - 1) = true) (hk : decide (s.title.size ≤ 40) = false) :
    Calls Try.prog 15 #[.agg #[.int .i64 s.w, .int .i64 s.h, .int .i64 s.x, .int .i64 s.y, .int .i64 s.look, .int .i64 s.top, .int .i64 s.bot, .int .i64 s.sx, .int .i64 s.sy, .string s.title, .slice ac s.cells.length cc, .slice ah s.hist.length dh]] w fun e w' => e = .returned (.bool false) ∧ Below w.heap.size w w' := by
  have H1 := Lib.hid h1
  have H2 := Lib.hid h2
  have H3 := Lib.hid h3
  have H4 := Lib.hid h4
  have H5 := Lib.hid h5
  have H6 := Lib.hid h6
  have H7 := Lib.hid h7
  have H8 := Lib.hid h8
  have H9 := Lib.hid hk
  clear hk h1 h2 h3 h4 h5 h6 h7 h8
  have hw2 : 2 ≤ s.w ∧ s.w ≤ 24 := by have := H1.out; simp only [inB, Bool.and_eq_true, decide_eq_true_eq] at this; omega
  have hh2 : 2 ≤ s.h ∧ s.h ≤ 10 := by have := H1.out; simp only [inB, Bool.and_eq_true, decide_eq_true_eq] at this; omega
  obtain ⟨hw2a, hw2b⟩ := hw2
  obtain ⟨hh2a, hh2b⟩ := hh2
  have ht2 : 0 ≤ s.top ∧ s.top ≤ s.h - 2 := by have := H5.out; simp only [inB, Bool.and_eq_true, decide_eq_true_eq] at this; omega
  obtain ⟨ht2a, ht2b⟩ := ht2
  obtain ⟨nc, hnc⟩ : ∃ n, s.cells.length = n := ⟨_, rfl⟩
  obtain ⟨nh, hnh⟩ : ∃ n, s.hist.length = n := ⟨_, rfl⟩
  have HNC := Lib.hid hnc
  have HNH := Lib.hid hnh
  rw [hnc, hnh]
  rw [hnc] at hcl
  rw [hnh] at hhl
  clear hnc hnh
  have h40 : (40 : Int) < (s.title.size : Int) := by have := H9.out; simp only [decide_eq_false_iff_not] at this; omega
  go_enter Try.func15, Try.ntmps15
  simp only [List.append_eq, List.cons_append, List.nil_append]
  go_wp2_with (first | (go_at_call 35; refine (l04Size_c _ _ _).mono ?_; rw [H1.out]; rintro e w' ⟨rfl, rfl⟩) | (go_at_call 36; refine (l01In_c _ _ _ _).mono ?_; (first | rw [H2.out] | rw [H3.out] | rw [H4.out] | rw [H5.out] | rw [H6.out] | rw [H7.out] | rw [H8.out]); rintro e w' ⟨rfl, rfl⟩))
  go_ret
  exact ⟨rfl, (Below.refl _ _).alloc (Nat.le_refl _) _⟩
theorem screenOK_no10 (s : ScrI) (ac : Option Addr) (cc : Nat) (ah : Option Addr) (dh : Nat) (w : World) (hcl : s.cells.length ≤ 1048576) (hhl : s.hist.length ≤ 1048576) (h1 : (inB s.w 2 24 && inB s.h 2 10) = true) (h2 : inB s.x 0 s.w = true) (h3 : inB s.y 0 (s.h - 1) = true) (h4 : inB s.look 0 127 = true) (h5 : inB s.top 0 (s.h - 2) = true) (h6 : inB s.bot (s.top + 1) (s.h - 1) = true) (h7 : inB s.sx 0 s.w = true) (h8 : inB s.sy 0 (s.h - 1) = true) (h9 : decide (s.title.size ≤ 40) = true) (hk : decide ((s.cells.length : Int) = s.w * s.h) = false) :
    Calls Try.prog 15 #[.agg #[.int .i64 s.w, .int .i64 s.h, .int .i64 s.x, .int .i64 s.y, .int .i64 s.look, .int .i64 s.top, .int .i64 s.bot, .int .i64 s.sx, .int .i64 s.sy, .string s.title, .slice ac s.cells.length cc, .slice ah s.hist.length dh]] w fun e w' => e = .returned (.bool false) ∧ Below w.heap.size w w' := by
  have H1 := Lib.hid h1
  have H2 := Lib.hid h2
  have H3 := Lib.hid h3
  have H4 := Lib.hid h4
  have H5 := Lib.hid h5
  have H6 := Lib.hid h6
  have H7 := Lib.hid h7
  have H8 := Lib.hid h8
  have H9 := Lib.hid h9
  have H10 := Lib.hid hk
  clear hk h1 h2 h3 h4 h5 h6 h7 h8 h9
  have hw2 : 2 ≤ s.w ∧ s.w ≤ 24 := by have := H1.out; simp only [inB, Bool.and_eq_true, decide_eq_true_eq] at this; omega
  have hh2 : 2 ≤ s.h ∧ s.h ≤ 10 := by have := H1.out; simp only [inB, Bool.and_eq_true, decide_eq_true_eq] at this; omega
  obtain ⟨hw2a, hw2b⟩ := hw2
  obtain ⟨hh2a, hh2b⟩ := hh2
  have ht2 : 0 ≤ s.top ∧ s.top ≤ s.h - 2 := by have := H5.out; simp only [inB, Bool.and_eq_true, decide_eq_true_eq] at this; omega
  obtain ⟨ht2a, ht2b⟩ := ht2
  obtain ⟨pr, hpr⟩ : ∃ p, s.w * s.h = p := ⟨_, rfl⟩
  have hpr0 : 0 ≤ pr := by rw [← hpr]; exact Int.mul_nonneg (by omega) (by omega)
  have hpr1 : pr ≤ 240 := by rw [← hpr]; exact Int.le_trans (Int.mul_le_mul_of_nonneg_right hw2b (by omega)) (by omega)
  obtain ⟨nc, hnc⟩ : ∃ n, s.cells.length = n := ⟨_, rfl⟩
  obtain ⟨nh, hnh⟩ : ∃ n, s.hist.length = n := ⟨_, rfl⟩
  have HNC := Lib.hid hnc
  have HNH := Lib.hid hnh
  rw [hnc, hnh]
  rw [hnc] at hcl
  rw [hnh] at hhl
  clear hnc hnh
  have h40 : ¬ (s.title.size : Int) > 40 := by have := H9.out; simp only [decide_eq_true_eq] at this; omega
  have hq : ((nc : Int) != pr) = true := by have := H10.out; rw [HNC.out, hpr] at this; simp only [decide_eq_false_iff_not] at this; simp [this]
  go_enter Try.func15, Try.ntmps15
  simp only [List.append_eq, List.cons_append, List.nil_append]
  go_wp2_with (first | (go_at_call 35; refine (l04Size_c _ _ _).mono ?_; rw [H1.out]; rintro e w' ⟨rfl, rfl⟩) | (go_at_call 36; refine (l01In_c _ _ _ _).mono ?_; (first | rw [H2.out] | rw [H3.out] | rw [H4.out] | rw [H5.out] | rw [H6.out] | rw [H7.out] | rw [H8.out]); rintro e w' ⟨rfl, rfl⟩))
  go_ret
  exact ⟨rfl, (Below.refl _ _).alloc (Nat.le_refl _) _⟩
theorem screenOK_no11 (s : ScrI) (ac : Option Addr) (cc : Nat) (ah : Option Addr) (dh : Nat) (w : World) (hcl : s.cells.length ≤ 1048576) (hhl : s.hist.length ≤ 1048576) (h1 : (inB s.w 2 24 && inB s.h 2 10) = true) (h2 : inB s.x 0 s.w = true) (h3 : inB s.y 0 (s.h - 1) = true) (h4 : inB s.look 0 127 = true) (h5 : inB s.top 0 (s.h - 2) = true) (h6 : inB s.bot (s.top + 1) (s.h - 1) = true) (h7 : inB s.sx 0 s.w = true) (h8 : inB s.sy 0 (s.h - 1) = true) (h9 : decide (s.title.size ≤ 40) = true) (h10 : decide ((s.cells.length : Int) = s.w * s.h) = true) (hk : decide (s.hist.length ≤ 6) = false) :
    Calls Try.prog 15 #[.agg #[.int .i64 s.w, .int .i64 s.h, .int .i64 s.x, .int .i64 s.y, .int .i64 s.look, .int .i64 s.top, .int .i64 s.bot, .int .i64 s.sx, .int .i64 s.sy, .string s.title, .slice ac s.cells.length cc, .slice ah s.hist.length dh]] w fun e w' => e = .returned (.bool false) ∧ Below w.heap.size w w' := by
  have H1 := Lib.hid h1
  have H2 := Lib.hid h2
  have H3 := Lib.hid h3
  have H4 := Lib.hid h4
  have H5 := Lib.hid h5
  have H6 := Lib.hid h6
  have H7 := Lib.hid h7
  have H8 := Lib.hid h8
  have H9 := Lib.hid h9
  have H10 := Lib.hid h10
  have H11 := Lib.hid hk
  clear hk h1 h2 h3 h4 h5 h6 h7 h8 h9 h10
  have hw2 : 2 ≤ s.w ∧ s.w ≤ 24 := by have := H1.out; simp only [inB, Bool.and_eq_true, decide_eq_true_eq] at this; omega
  have hh2 : 2 ≤ s.h ∧ s.h ≤ 10 := by have := H1.out; simp only [inB, Bool.and_eq_true, decide_eq_true_eq] at this; omega
  obtain ⟨hw2a, hw2b⟩ := hw2
  obtain ⟨hh2a, hh2b⟩ := hh2
  have ht2 : 0 ≤ s.top ∧ s.top ≤ s.h - 2 := by have := H5.out; simp only [inB, Bool.and_eq_true, decide_eq_true_eq] at this; omega
  obtain ⟨ht2a, ht2b⟩ := ht2
  obtain ⟨pr, hpr⟩ : ∃ p, s.w * s.h = p := ⟨_, rfl⟩
  have hpr0 : 0 ≤ pr := by rw [← hpr]; exact Int.mul_nonneg (by omega) (by omega)
  have hpr1 : pr ≤ 240 := by rw [← hpr]; exact Int.le_trans (Int.mul_le_mul_of_nonneg_right hw2b (by omega)) (by omega)
  obtain ⟨nc, hnc⟩ : ∃ n, s.cells.length = n := ⟨_, rfl⟩
  obtain ⟨nh, hnh⟩ : ∃ n, s.hist.length = n := ⟨_, rfl⟩
  have HNC := Lib.hid hnc
  have HNH := Lib.hid hnh
  rw [hnc, hnh]
  rw [hnc] at hcl
  rw [hnh] at hhl
  clear hnc hnh
  have h40 : ¬ (s.title.size : Int) > 40 := by have := H9.out; simp only [decide_eq_true_eq] at this; omega
  have hq : ((nc : Int) != pr) = false := by have := H10.out; rw [HNC.out, hpr] at this; simp only [decide_eq_true_eq] at this; simp [this]
  have h6 : (6 : Int) < (nh : Int) := by have := H11.out; rw [HNH.out] at this; simp only [decide_eq_false_iff_not] at this; omega
  go_enter Try.func15, Try.ntmps15
  simp only [List.append_eq, List.cons_append, List.nil_append]
  go_wp2_with (first | (go_at_call 35; refine (l04Size_c _ _ _).mono ?_; rw [H1.out]; rintro e w' ⟨rfl, rfl⟩) | (go_at_call 36; refine (l01In_c _ _ _ _).mono ?_; (first | rw [H2.out] | rw [H3.out] | rw [H4.out] | rw [H5.out] | rw [H6.out] | rw [H7.out] | rw [H8.out]); rintro e w' ⟨rfl, rfl⟩))
  go_ret
  exact ⟨rfl, (Below.refl _ _).alloc (Nat.le_refl _) _⟩
end
section
open Go.RowKit
theorem all_take_next {α : Type} {p : α → Bool} {l : List α} {k : Nat} (hk : k < l.length) : (l.take (k + 1)).all p = ((l.take k).all p && p l[k]) := by
  rw [List.take_succ_eq_append_getElem hk, List.all_append]
  simp
theorem all_no {α : Type} {p : α → Bool} {l : List α} {k : Nat} (hk : k < l.length) (h : p l[k] = false) : l.all p = false := by
  rw [List.all_eq_false]
  exact ⟨l[k], List.getElem_mem hk, by simp [h]⟩
theorem screenOK_yes (s : ScrI) (ac : Option Addr) (cc : Nat) (ah : Option Addr) (dh : Nat) (w : World) (ha : Sl celE 2 w ac s.cells) (hb : Sl strE 1 w ah s.hist) (h1 : (inB s.w 2 24 && inB s.h 2 10) = true) (h2 : inB s.x 0 s.w = true) (h3 : inB s.y 0 (s.h - 1) = true) (h4 : inB s.look 0 127 = true) (h5 : inB s.top 0 (s.h - 2) = true) (h6 : inB s.bot (s.top + 1) (s.h - 1) = true) (h7 : inB s.sx 0 s.w = true) (h8 : inB s.sy 0 (s.h - 1) = true) (h9 : decide (s.title.size ≤ 40) = true) (h10 : decide ((s.cells.length : Int) = s.w * s.h) = true) (h11 : decide (s.hist.length ≤ 6) = true) :
    Calls Try.prog 15 #[.agg #[.int .i64 s.w, .int .i64 s.h, .int .i64 s.x, .int .i64 s.y, .int .i64 s.look, .int .i64 s.top, .int .i64 s.bot, .int .i64 s.sx, .int .i64 s.sy, .string s.title, .slice ac s.cells.length cc, .slice ah s.hist.length dh]] w fun e w' => e = .returned (.bool (tiB s.title.data.toList && s.cells.all celB && s.hist.all fun t => decide (t.size ≤ 96))) ∧ Below w.heap.size w w' := by
  have H1 := Lib.hid h1
  have H2 := Lib.hid h2
  have H3 := Lib.hid h3
  have H4 := Lib.hid h4
  have H5 := Lib.hid h5
  have H6 := Lib.hid h6
  have H7 := Lib.hid h7
  have H8 := Lib.hid h8
  have H9 := Lib.hid h9
  have H10 := Lib.hid h10
  have H11 := Lib.hid h11
  clear h1 h2 h3 h4 h5 h6 h7 h8 h9 h10 h11
  have HA := Lib.hid ha
  have HBB := Lib.hid hb
  have hw2 : 2 ≤ s.w ∧ s.w ≤ 24 := by have := H1.out; simp only [inB, Bool.and_eq_true, decide_eq_true_eq] at this; omega
  have hh2 : 2 ≤ s.h ∧ s.h ≤ 10 := by have := H1.out; simp only [inB, Bool.and_eq_true, decide_eq_true_eq] at this; omega
  obtain ⟨hw2a, hw2b⟩ := hw2
  obtain ⟨hh2a, hh2b⟩ := hh2
  have ht2 : 0 ≤ s.top ∧ s.top ≤ s.h - 2 := by have := H5.out; simp only [inB, Bool.and_eq_true, decide_eq_true_eq] at this; omega
  obtain ⟨ht2a, ht2b⟩ := ht2
  obtain ⟨pr, hpr⟩ : ∃ p, s.w * s.h = p := ⟨_, rfl⟩
  have hpr0 : 0 ≤ pr := by rw [← hpr]; exact Int.mul_nonneg (by omega) (by omega)
  have hpr1 : pr ≤ 240 := by rw [← hpr]; exact Int.le_trans (Int.mul_le_mul_of_nonneg_right hw2b (by omega)) (by omega)
  obtain ⟨nc, hnc⟩ : ∃ n, s.cells.length = n := ⟨_, rfl⟩
  obtain ⟨nh, hnh⟩ : ∃ n, s.hist.length = n := ⟨_, rfl⟩
  have HNC := Lib.hid hnc
  have HNH := Lib.hid hnh
  rw [hnc, hnh]
  clear hnc hnh ha hb
  have h40 : ¬ (s.title.size : Int) > 40 := by have := H9.out; simp only [decide_eq_true_eq] at this; omega
  have hq : ((nc : Int) != pr) = false := by have := H10.out; rw [HNC.out, hpr] at this; simp only [decide_eq_true_eq] at this; simp [this]
  have h6 : ¬ (nh : Int) > 6 := by have := H11.out; rw [HNH.out] at this; simp only [decide_eq_true_eq] at this; omega
  have hnc240 : (nc : Int) ≤ 240 := by have := H10.out; rw [HNC.out, hpr] at this; simp only [decide_eq_true_eq] at this; omega
  obtain ⟨T, hT⟩ : ∃ T, s.title = T := ⟨_, rfl⟩
  have HT := Lib.hid hT
  rw [hT] at h40 ⊢
  clear hT
  obtain ⟨W1, hW1⟩ : ∃ x, w.alloc (.cells #[.int .i64 s.w, .int .i64 s.h, .int .i64 s.x, .int .i64 s.y, .int .i64 s.look, .int .i64 s.top, .int .i64 s.bot, .int .i64 s.sx, .int .i64 s.sy, .string T, .slice ac nc cc, .slice ah nh dh] 26) = x := ⟨_, rfl⟩
  have HB1 : Hid (Below w.heap.size w W1) := Lib.hid (by rw [← hW1]; exact (Below.refl _ _).alloc (Nat.le_refl _) _)
  have k_0 : W1.cell? ⟨w.heap.size, 0, none⟩ = some (.int .i64 s.w) := by rw [← hW1]; simp [go_sem]
  have k_1 : W1.cell? ⟨w.heap.size, 1, none⟩ = some (.int .i64 s.h) := by rw [← hW1]; simp [go_sem]
  have k_2 : W1.cell? ⟨w.heap.size, 2, none⟩ = some (.int .i64 s.x) := by rw [← hW1]; simp [go_sem]
  have k_3 : W1.cell? ⟨w.heap.size, 3, none⟩ = some (.int .i64 s.y) := by rw [← hW1]; simp [go_sem]
  have k_4 : W1.cell? ⟨w.heap.size, 4, none⟩ = some (.int .i64 s.look) := by rw [← hW1]; simp [go_sem]
  have k_5 : W1.cell? ⟨w.heap.size, 5, none⟩ = some (.int .i64 s.top) := by rw [← hW1]; simp [go_sem]
  have k_6 : W1.cell? ⟨w.heap.size, 6, none⟩ = some (.int .i64 s.bot) := by rw [← hW1]; simp [go_sem]
  have k_7 : W1.cell? ⟨w.heap.size, 7, none⟩ = some (.int .i64 s.sx) := by rw [← hW1]; simp [go_sem]
  have k_8 : W1.cell? ⟨w.heap.size, 8, none⟩ = some (.int .i64 s.sy) := by rw [← hW1]; simp [go_sem]
  have k_9 : W1.cell? ⟨w.heap.size, 9, none⟩ = some (.string T) := by rw [← hW1]; simp [go_sem]
  have k_10 : W1.cell? ⟨w.heap.size, 10, none⟩ = some (.slice ac nc cc) := by rw [← hW1]; simp [go_sem]
  have k_11 : W1.cell? ⟨w.heap.size, 11, none⟩ = some (.slice ah nh dh) := by rw [← hW1]; simp [go_sem]
  have k_l : w.heap.size < W1.heap.size := by rw [← hW1]; simp
  obtain ⟨R, hR⟩ : ∃ R, (tiB T.data.toList && s.cells.all celB && s.hist.all fun t => decide (t.size ≤ 96)) = R := ⟨_, rfl⟩
  have HRR := Lib.hid hR
  rw [hR]
  clear hR
  go_enter Try.func15, Try.ntmps15
  simp only [List.append_eq, List.cons_append, List.nil_append]
  go_upto_region 3 with (first | (go_at_call 35; refine (l04Size_c _ _ _).mono ?_; rw [H1.out]; rintro e w' ⟨rfl, rfl⟩) | (go_at_call 36; refine (l01In_c _ _ _ _).mono ?_; (first | rw [H2.out] | rw [H3.out] | rw [H4.out] | rw [H5.out] | rw [H6.out] | rw [H7.out] | rw [H8.out]); rintro e w' ⟨rfl, rfl⟩))
  clear hW1 k_0 k_1 k_2 k_3 k_4 k_5 k_6 k_7 k_8
  go_wp2_with fail
  go_loopw [3] (fun iv wr => ∃ k : Nat, iv = .int .i64 k ∧ k ≤ T.size ∧ Hid (tiB (T.data.toList.take k) = true) ∧ W1 = wr) (fun iv _ => T.size - (intOf iv).toNat)
  case atStart => exact ⟨0, rfl, Nat.zero_le _, rfl, rfl⟩
  case round =>
    obtain ⟨k, rfl, hk, hall, rfl⟩ := hrel
    by_cases hlt : k < T.size
    · have hlt' : (k : Int) < (T.size : Int) := by omega
      have hi0 : (0 : Int) ≤ (k : Int) := by omega
      have hkl : k < T.data.toList.length := hlt
      obtain ⟨n, hn⟩ : ∃ n, n = (T[k]'hlt).toNat := ⟨_, rfl⟩
      have hb2 : (T[k]'hlt).toNat = n := hn.symm
      have HN : Hid ((T.data.toList[k]'hkl).toNat = n) := Lib.hid (by rw [← hb2]; rfl)
      obtain ⟨u, hu⟩ : ∃ u, inB (n : Int) 32 126 = u := ⟨_, rfl⟩
      have HU := Lib.hid hu
      have hp : (decide (32 ≤ (T.data.toList[k]'hkl).toNat) && decide ((T.data.toList[k]'hkl).toNat ≤ 126)) = u := by
        rw [HN.out, ← hu]
        unfold inB
        congr 1 <;> simp only [decide_eq_decide] <;> omega
      have HP := Lib.hid hp
      have hn256 : n < 256 := by rw [← hb2]; exact (T[k]'hlt).toNat_lt
      clear hn hu hp
      cases u with
      | true =>
        have HNX : Hid (tiB (T.data.toList.take (k + 1)) = true) := Lib.hid (by
          unfold tiB
          rw [all_take_next hkl, HP.out]
          exact (Bool.and_eq_true _ _).mpr ⟨hall.out, rfl⟩)
        go_wp2_with (go_at_call 36; refine (l01In_c _ _ _ _).mono ?_; rw [HU.out]; rintro e w' ⟨rfl, rfl⟩)
        go_roundw
        case rel => exact ⟨k + 1, by go_num, by omega, HNX, trivial⟩
        case measure => simp [intOf]; omega
      | false =>
        have HNO : Hid (R = false) := Lib.hid (by
          rw [← HRR.out]
          have : tiB T.data.toList = false := all_no hkl HP.out
          rw [this]
          rfl)
        go_wp2_with (go_at_call 36; refine (l01In_c _ _ _ _).mono ?_; rw [HU.out]; rintro e w' ⟨rfl, rfl⟩)
        go_ret
        exact ⟨by rw [HNO.out]; rfl, HB1.out⟩
    · obtain rfl : k = T.size := by omega
      have HTI : Hid (tiB T.data.toList = true) := Lib.hid (by
        have := hall.out
        have e : T.data.toList.take T.size = T.data.toList := List.take_of_length_le (Nat.le_refl T.data.toList.length)
        rwa [e] at this)
      go_wp2_with fail
      go_loopw [4] (fun iv wr => ∃ k : Nat, iv = .int .i64 k ∧ k ≤ nc ∧ Hid ((s.cells.take k).all celB = true ∧ Below W1.heap.size W1 wr)) (fun iv _ => nc - (intOf iv).toNat)
      case atStart => exact ⟨0, rfl, Nat.zero_le _, Lib.hid ⟨rfl, Below.refl _ _⟩⟩
      case round =>
        obtain ⟨k, rfl, hk2, HQ⟩ := hrel
        have q_10 : wr.cell? ⟨w.heap.size, 10, none⟩ = some (.slice ac nc cc) := (HQ.out.2.cell (p := ⟨w.heap.size, 10, none⟩) k_l).trans k_10
        have q_11 : wr.cell? ⟨w.heap.size, 11, none⟩ = some (.slice ah nh dh) := (HQ.out.2.cell (p := ⟨w.heap.size, 11, none⟩) k_l).trans k_11
        by_cases hlt2 : k < nc
        · have hlt' : (k : Int) < (nc : Int) := by omega
          have hkl : k < s.cells.length := by rw [HNC.out]; exact hlt2
          obtain ⟨b1, o1, rfl, hb1, hc1⟩ := ((HA.out.keep HB1.out).keep HQ.out.2).at hkl
          obtain ⟨c, hc⟩ : ∃ c, s.cells[k] = c := ⟨_, rfl⟩
          have c1 := hc1 k hkl 0 (by omega)
          have c2 := hc1 k hkl 1 (by omega)
          rw [hc] at c1 c2
          simp only [celE, Nat.add_zero, List.getElem?_cons_zero, List.getElem?_cons_succ] at c1 c2
          obtain ⟨u, hu⟩ : ∃ u, celB c = u := ⟨_, rfl⟩
          have HU := Lib.hid hu
          have HP : Hid (celB (s.cells[k]'hkl) = u) := Lib.hid (by rw [hc]; exact hu)
          clear hc1 hc hu
          go_wp2_with fail
          refine (l04Cell_c c _).mono ?_
          rw [HU.out]
          rintro e w2 ⟨rfl, hb2⟩
          have HB2 : Hid (Below W1.heap.size W1 w2) := Lib.hid (HQ.out.2.trans (hb2.mono HQ.out.2.size))
          clear hb2 HU
          cases u with
          | true =>
            go_wp2_with fail
            go_roundw
            case rel => exact ⟨k + 1, by go_num, by omega, Lib.hid ⟨by rw [all_take_next hkl, HP.out, HQ.out.1]; rfl, HB2.out⟩⟩
            case measure => simp [intOf]; omega
          | false =>
            have HNO : Hid (R = false) := Lib.hid (by
              rw [← HRR.out, all_no hkl HP.out]
              simp)
            go_wp2_with fail
            go_ret
            exact ⟨by rw [HNO.out]; rfl, HB1.out.trans (HB2.out.mono HB1.out.size)⟩
        · obtain rfl : k = nc := by omega
          have HCE : Hid (s.cells.all celB = true) := Lib.hid (by
            have := HQ.out.1
            rwa [List.take_of_length_le (by rw [HNC.out]; exact Nat.le_refl _)] at this)
          obtain ⟨W2, hW2⟩ : ∃ x, x = wr := ⟨_, rfl⟩
          subst hW2
          go_wp2_with fail
          go_loopw [5] (fun iv wr => ∃ k : Nat, iv = .int .i64 k ∧ k ≤ nh ∧ Hid ((s.hist.take k).all (fun t => decide (t.size ≤ 96)) = true) ∧ W2 = wr) (fun iv _ => nh - (intOf iv).toNat)
          case atStart => exact ⟨0, rfl, Nat.zero_le _, rfl, rfl⟩
          case round =>
            obtain ⟨j, rfl, hj2, HJ, rfl⟩ := hrel
            by_cases hlt3 : j < nh
            · have hlt' : (j : Int) < (nh : Int) := by omega
              have hkl : j < s.hist.length := by rw [HNH.out]; exact hlt3
              obtain ⟨b1, o1, rfl, hb1, hc1⟩ := ((HBB.out.keep HB1.out).keep HQ.out.2).at hkl
              obtain ⟨t, ht⟩ : ∃ t, s.hist[j] = t := ⟨_, rfl⟩
              have c1 := hc1 j hkl 0 (by omega)
              rw [ht] at c1
              simp only [strE, Nat.mul_one, Nat.add_zero, List.getElem?_cons_zero] at c1
              have HTT : Hid ((s.hist[j]'hkl).size = t.size) := Lib.hid (by rw [ht])
              clear hc1 ht
              by_cases h96 : t.size ≤ 96
              · have h96' : ¬ (t.size : Int) > 96 := by omega
                go_wp2_with fail
                go_roundw
                case rel => exact ⟨j + 1, by go_num, by omega, Lib.hid (by rw [all_take_next hkl, HTT.out, HJ.out]; simp [h96]), trivial⟩
                case measure => simp [intOf]; omega
              · have h96' : (96 : Int) < (t.size : Int) := by omega
                have HNO : Hid (R = false) := Lib.hid (by
                  rw [← HRR.out, all_no hkl (by rw [HTT.out]; simp [h96])]
                  simp)
                go_wp2_with fail
                go_ret
                exact ⟨by rw [HNO.out]; rfl, HB1.out.trans (HQ.out.2.mono HB1.out.size)⟩
            · obtain rfl : j = nh := by omega
              have HHI : Hid (s.hist.all (fun t => decide (t.size ≤ 96)) = true) := Lib.hid (by
                have := HJ.out
                rwa [List.take_of_length_le (by rw [HNH.out]; exact Nat.le_refl _)] at this)
              go_wp2_with fail
              go_ret
              exact ⟨by rw [← HRR.out, HTI.out, HCE.out, HHI.out]; rfl, HB1.out.trans (HQ.out.2.mono HB1.out.size)⟩
theorem specScreenOK_c (s : ScrI) (ac : Option Addr) (cc : Nat) (ah : Option Addr) (dh : Nat) (w : World) (ha : Sl celE 2 w ac s.cells) (hb : Sl strE 1 w ah s.hist) (hcl : s.cells.length ≤ 1048576) (hhl : s.hist.length ≤ 1048576) :
    Calls Try.prog 15 #[.agg #[.int .i64 s.w, .int .i64 s.h, .int .i64 s.x, .int .i64 s.y, .int .i64 s.look, .int .i64 s.top, .int .i64 s.bot, .int .i64 s.sx, .int .i64 s.sy, .string s.title, .slice ac s.cells.length cc, .slice ah s.hist.length dh]] w fun e w' => e = .returned (.bool (scrB s)) ∧ Below w.heap.size w w' := by
  cases h1 : (inB s.w 2 24 && inB s.h 2 10)
  · have e : scrB s = false := by unfold scrB scrH; rw [h1]; simp
    rw [e]
    exact screenOK_no1 s ac cc ah dh w hcl hhl h1
  cases h2 : inB s.x 0 s.w
  · have e : scrB s = false := by unfold scrB scrH; rw [h1, h2]; simp
    rw [e]
    exact screenOK_no2 s ac cc ah dh w hcl hhl h1 h2
  cases h3 : inB s.y 0 (s.h - 1)
  · have e : scrB s = false := by unfold scrB scrH; rw [h1, h2, h3]; simp
    rw [e]
    exact screenOK_no3 s ac cc ah dh w hcl hhl h1 h2 h3
  cases h4 : inB s.look 0 127
  · have e : scrB s = false := by unfold scrB scrH; rw [h1, h2, h3, h4]; simp
    rw [e]
    exact screenOK_no4 s ac cc ah dh w hcl hhl h1 h2 h3 h4
  cases h5 : inB s.top 0 (s.h - 2)
  · have e : scrB s = false := by unfold scrB scrH; rw [h1, h2, h3, h4, h5]; simp
    rw [e]
    exact screenOK_no5 s ac cc ah dh w hcl hhl h1 h2 h3 h4 h5
  cases h6 : inB s.bot (s.top + 1) (s.h - 1)
  · have e : scrB s = false := by unfold scrB scrH; rw [h1, h2, h3, h4, h5, h6]; simp
    rw [e]
    exact screenOK_no6 s ac cc ah dh w hcl hhl h1 h2 h3 h4 h5 h6
  cases h7 : inB s.sx 0 s.w
  · have e : scrB s = false := by unfold scrB scrH; rw [h1, h2, h3, h4, h5, h6, h7]; simp
    rw [e]
    exact screenOK_no7 s ac cc ah dh w hcl hhl h1 h2 h3 h4 h5 h6 h7
  cases h8 : inB s.sy 0 (s.h - 1)
  · have e : scrB s = false := by unfold scrB scrH; rw [h1, h2, h3, h4, h5, h6, h7, h8]; simp
    rw [e]
    exact screenOK_no8 s ac cc ah dh w hcl hhl h1 h2 h3 h4 h5 h6 h7 h8
  cases h9 : decide (s.title.size ≤ 40)
  · have e : scrB s = false := by unfold scrB scrH; rw [h1, h2, h3, h4, h5, h6, h7, h8, h9]; simp
    rw [e]
    exact screenOK_no9 s ac cc ah dh w hcl hhl h1 h2 h3 h4 h5 h6 h7 h8 h9
  cases h10 : decide ((s.cells.length : Int) = s.w * s.h)
  · have e : scrB s = false := by unfold scrB scrH; rw [h1, h2, h3, h4, h5, h6, h7, h8, h9, h10]; simp
    rw [e]
    exact screenOK_no10 s ac cc ah dh w hcl hhl h1 h2 h3 h4 h5 h6 h7 h8 h9 h10
  cases h11 : decide (s.hist.length ≤ 6)
  · have e : scrB s = false := by unfold scrB scrH; rw [h1, h2, h3, h4, h5, h6, h7, h8, h9, h10, h11]; simp
    rw [e]
    exact screenOK_no11 s ac cc ah dh w hcl hhl h1 h2 h3 h4 h5 h6 h7 h8 h9 h10 h11
  have e : scrB s = (tiB s.title.data.toList && s.cells.all celB && s.hist.all fun t => decide (t.size ≤ 96)) := by unfold scrB scrH; rw [h1, h2, h3, h4, h5, h6, h7, h8, h9, h10, h11]; simp
  rw [e]
  exact screenOK_yes s ac cc ah dh w ha hb h1 h2 h3 h4 h5 h6 h7 h8 h9 h10 h11
end
section
open Go.RowKit
def ncB (c : Cl) : Bool := !celB c
def bigH (t : ByteArray) : Bool := decide (96 < t.size)
theorem index_cel (a : Option Addr) (ca : Nat) (xs : List Cl) (w : World) (ha : Sl celE 2 w a xs) (la : xs.length ≤ 1048576) :
    Calls Try.prog 56 #[.slice a xs.length ca, .func (.func 30) #[] #[]] w fun e w' => (∃ i : Int, e = .returned (.int .i64 i) ∧ Hid (decide (0 ≤ i) = xs.any ncB)) ∧ Below w.heap.size w w' := by
  have HA := Lib.hid ha
  obtain ⟨nc, hnc⟩ : ∃ n, xs.length = n := ⟨_, rfl⟩
  have HNC := Lib.hid hnc
  rw [hnc] at la ⊢
  clear hnc ha
  go_enter Try.func56, Try.ntmps56
  go_wp2_with fail
  go_loopw [5, 8] (fun _ i wr => ∃ k : Nat, k ≤ nc ∧ i = .int .i64 k ∧ Hid ((xs.take k).any ncB = false ∧ Below w.heap.size w wr)) (fun _ i _ => nc - (intOf i).toNat)
  case atStart => exact ⟨0, Nat.zero_le _, rfl, Lib.hid ⟨rfl, Below.refl _ _⟩⟩
  case round =>
    obtain ⟨k, hk, rfl, HQ⟩ := hrel
    by_cases hlt : k < nc
    · have hlt' : (k : Int) < (nc : Int) := by omega
      have hkl : k < xs.length := by rw [HNC.out]; exact hlt
      obtain ⟨b1, o1, rfl, hb1, hc1⟩ := (HA.out.keep HQ.out.2).at hkl
      obtain ⟨c, hc⟩ : ∃ c, xs[k] = c := ⟨_, rfl⟩
      have c1 := hc1 k hkl 0 (by omega)
      have c2 := hc1 k hkl 1 (by omega)
      rw [hc] at c1 c2
      simp only [celE, Nat.add_zero, List.getElem?_cons_zero, List.getElem?_cons_succ] at c1 c2
      obtain ⟨u, hu⟩ : ∃ u, celB c = u := ⟨_, rfl⟩
      have HCALL : ∀ W, Calls Try.prog 30 #[.agg #[.int .i64 c.1, .int .i64 c.2]] W fun e w' => e = .returned (.bool (!u)) ∧ Below W.heap.size W w' := fun W => by rw [← hu]; exact isScreen2_c c W
      have HP : Hid (ncB (xs[k]'hkl) = !u) := Lib.hid (by unfold ncB; rw [hc, hu])
      clear hc1 hc hu
      go_wp2_with fail
      refine (HCALL _).mono ?_
      rintro e w2 ⟨rfl, hb2⟩
      have HB2 : Hid (Below w.heap.size w w2) := Lib.hid (HQ.out.2.trans (hb2.mono HQ.out.2.size))
      clear hb2
      cases u with
      | true =>
        go_wp2_with fail
        go_roundw
        case rel => exact ⟨k + 1, by omega, by go_num, Lib.hid ⟨by rw [List.take_succ_eq_append_getElem hkl, List.any_append, HQ.out.1, List.any_cons, HP.out]; rfl, HB2.out⟩⟩
        case measure => simp [intOf]; omega
      | false =>
        go_wp2_with fail
        go_ret
        exact ⟨⟨_, rfl, Lib.hid (by rw [any_at hkl HP.out]; show decide _ = _; simp)⟩, HB2.out⟩
    · obtain rfl : k = nc := by omega
      go_wp2_with fail
      go_ret
      refine ⟨⟨_, rfl, Lib.hid ?_⟩, HQ.out.2⟩
      have := HQ.out.1
      rw [List.take_of_length_le (by rw [HNC.out]; exact Nat.le_refl _)] at this
      rw [this]
      rfl
theorem contains_cel (a : Option Addr) (ca : Nat) (xs : List Cl) (w : World) (ha : Sl celE 2 w a xs) (la : xs.length ≤ 1048576) :
    Calls Try.prog 29 #[.slice a xs.length ca, .func (.func 30) #[] #[]] w fun e w' => e = .returned (.bool (xs.any ncB)) ∧ Below w.heap.size w w' := by
  have HA := Lib.hid ha
  clear ha
  go_enter Try.func29, Try.ntmps29
  go_wp2_with fail
  refine (index_cel a ca xs _ HA.out la).mono ?_
  rintro e w' ⟨⟨i, rfl, hi⟩, hb⟩
  have HB := Lib.hid hb
  clear hb
  go_wp2_with fail
  go_ret
  exact ⟨by rw [← hi.out]; rfl, HB.out⟩
def sz_impl_isScreen_1 (_ : ByteArray) : Prop := True
theorem f_impl_isScreen_1 (r : ByteArray) (w : World) (_ : sz_impl_isScreen_1 r) : Calls Try.prog 28 #[.string r] w fun e w' => e = .returned (.bool (bigH r)) ∧ w = w' := by
  by_cases h : 96 < r.size
  all_goals
    go_enter Try.func28, Try.ntmps28
    go_wp2_with fail
    go_ret
    exact ⟨by simp [bigH]; try omega, rfl⟩
theorem index_impl_isScreen_1 (a : Option Addr) (ca : Nat) (xs : List ByteArray) (w : World) (ha : Sl strE 1 w a xs) (la : xs.length ≤ 1099511627776) (hq : ∀ x ∈ xs, sz_impl_isScreen_1 x) :
    Calls Try.prog 55 #[.slice a xs.length ca, .func (.func 28) #[] #[]] w fun e w' => (∃ i : Int, e = .returned (.int .i64 i) ∧ Hid (decide (0 ≤ i) = xs.any bigH)) ∧ w = w' := by
  have HQ := Lib.hid hq
  clear hq
  go_enter Try.func55, Try.ntmps55
  go_wp2_with fail
  go_loop [5, 8] (fun _ i => ∃ k : Nat, k ≤ xs.length ∧ i = .int .i64 k ∧ ∀ j (hj : j < xs.length), j < k → bigH xs[j] = false) (fun _ i => xs.length - (intOf i).toNat)
  case atStart => exact ⟨0, Nat.zero_le _, rfl, fun j _ h => absurd h (Nat.not_lt_zero _)⟩
  case round =>
    obtain ⟨k, hk, rfl, hp⟩ := hrel
    have HP := Lib.hid hp
    clear hp
    by_cases hlt : k < xs.length
    · obtain ⟨b1, o1, rfl, hb1, hc1⟩ := ha.at hlt
      have c1 := hc1 k hlt 0 (by omega)
      simp only [strE, Nat.mul_one, Nat.add_zero, List.getElem?_cons_zero] at c1
      have hx := HQ.out xs[k] (List.getElem_mem _)
      clear hc1
      cases hpk : bigH xs[k]
      · have HPK := Lib.hid hpk
        clear hpk
        go_wp2_with (go_at_call 28; refine (f_impl_isScreen_1 xs[k] _ hx).mono ?_; rw [HPK.out]; rintro e w' ⟨rfl, rfl⟩)
        go_round
        case rel => exact ⟨k + 1, by omega, by go_num, fun j hj h => by
          rcases Nat.lt_succ_iff_lt_or_eq.1 h with h | rfl
          · exact HP.out j hj h
          · exact HPK.out⟩
        case measure => simp [intOf]; omega
      · have HPK := Lib.hid hpk
        clear hpk
        go_wp2_with (go_at_call 28; refine (f_impl_isScreen_1 xs[k] _ hx).mono ?_; rw [HPK.out]; rintro e w' ⟨rfl, rfl⟩)
        go_ret
        exact ⟨⟨_, rfl, by rw [any_at hlt HPK.out]; show decide _ = _; simp⟩, rfl⟩
    · obtain rfl : k = xs.length := by omega
      go_wp2_with fail
      go_ret
      exact ⟨⟨_, rfl, by rw [take_none HP.out (Nat.le_refl _)]; rfl⟩, rfl⟩
theorem contains_impl_isScreen_1 (a : Option Addr) (ca : Nat) (xs : List ByteArray) (w : World) (ha : Sl strE 1 w a xs) (la : xs.length ≤ 1099511627776) (hq : ∀ x ∈ xs, sz_impl_isScreen_1 x) :
    Calls Try.prog 27 #[.slice a xs.length ca, .func (.func 28) #[] #[]] w fun e w' => e = .returned (.bool (xs.any bigH)) ∧ w = w' := by
  have HQ := Lib.hid hq
  clear hq
  go_enter Try.func27, Try.ntmps27
  go_wp2_with fail
  refine (index_impl_isScreen_1 a ca xs _ ha la HQ.out).mono ?_
  rintro e w' ⟨⟨i, rfl, hi⟩, rfl⟩
  go_wp2_with fail
  go_ret
  exact ⟨by rw [← hi.out]; rfl, rfl⟩
end
section
open Go.RowKit
theorem isScreen_no1 (s : ScrI) (ac : Option Addr) (cc : Nat) (ah : Option Addr) (dh : Nat) (w : World) (ha : Sl celE 2 w ac s.cells) (hb : Sl strE 1 w ah s.hist) (hcl : s.cells.length ≤ 1048576) (hhl : s.hist.length ≤ 1048576) (htl : s.title.size ≤ 1099511627776)  (hk : (inB s.w 2 24 && inB s.h 2 10) = false) :
    Calls Try.prog 13 #[.agg #[.int .i64 s.w, .int .i64 s.h, .int .i64 s.x, .int .i64 s.y, .int .i64 s.look, .int .i64 s.top, .int .i64 s.bot, .int .i64 s.sx, .int .i64 s.sy, .string s.title, .slice ac s.cells.length cc, .slice ah s.hist.length dh]] w fun e w' => e = .returned (.bool false) ∧ Below w.heap.size w w' := by
  have H1 := Lib.hid hk
  have HA := Lib.hid ha
  have HBB := Lib.hid hb
  clear ha hb hk 
  obtain ⟨nc, hnc⟩ : ∃ n, s.cells.length = n := ⟨_, rfl⟩
  obtain ⟨nh, hnh⟩ : ∃ n, s.hist.length = n := ⟨_, rfl⟩
  have HNC := Lib.hid hnc
  have HNH := Lib.hid hnh
  rw [hnc, hnh]
  rw [hnc] at hcl
  rw [hnh] at hhl
  clear hnc hnh
  obtain ⟨T, hT⟩ : ∃ T, s.title = T := ⟨_, rfl⟩
  rw [hT] at htl ⊢
  clear hT
  have HB1 : ∀ x, Hid (Below w.heap.size w (w.alloc x)) := fun x => Lib.hid ((Below.refl _ _).alloc (Nat.le_refl _) _)
  go_enter Try.func13, Try.ntmps13
  try simp only [List.append_eq, List.cons_append, List.nil_append]
  go_wp2_with (first | (go_at_call 24; refine (isSize_c _ _ _).mono ?_; rw [H1.out]; rintro e w' ⟨rfl, rfl⟩))
  go_ret
  exact ⟨rfl, (Below.refl _ _).alloc (Nat.le_refl _) _⟩
theorem isScreen_no2 (s : ScrI) (ac : Option Addr) (cc : Nat) (ah : Option Addr) (dh : Nat) (w : World) (ha : Sl celE 2 w ac s.cells) (hb : Sl strE 1 w ah s.hist) (hcl : s.cells.length ≤ 1048576) (hhl : s.hist.length ≤ 1048576) (htl : s.title.size ≤ 1099511627776) (h1 : (inB s.w 2 24 && inB s.h 2 10) = true) (hk : inB s.x 0 s.w = false) :
    Calls Try.prog 13 #[.agg #[.int .i64 s.w, .int .i64 s.h, .int .i64 s.x, .int .i64 s.y, .int .i64 s.look, .int .i64 s.top, .int .i64 s.bot, .int .i64 s.sx, .int .i64 s.sy, .string s.title, .slice ac s.cells.length cc, .slice ah s.hist.length dh]] w fun e w' => e = .returned (.bool false) ∧ Below w.heap.size w w' := by
  have H1 := Lib.hid h1
  have H2 := Lib.hid hk
  have HA := Lib.hid ha
  have HBB := Lib.hid hb
  clear ha hb hk h1
  have hw2 : 2 ≤ s.w ∧ s.w ≤ 24 := by have := H1.out; simp only [inB, Bool.and_eq_true, decide_eq_true_eq] at this; omega
  have hh2 : 2 ≤ s.h ∧ s.h ≤ 10 := by have := H1.out; simp only [inB, Bool.and_eq_true, decide_eq_true_eq] at this; omega
  obtain ⟨hw2a, hw2b⟩ := hw2
  obtain ⟨hh2a, hh2b⟩ := hh2
  obtain ⟨nc, hnc⟩ : ∃ n, s.cells.length = n := ⟨_, rfl⟩
  obtain ⟨nh, hnh⟩ : ∃ n, s.hist.length = n := ⟨_, rfl⟩
  have HNC := Lib.hid hnc
  have HNH := Lib.hid hnh
  rw [hnc, hnh]
  rw [hnc] at hcl
  rw [hnh] at hhl
  clear hnc hnh
  obtain ⟨T, hT⟩ : ∃ T, s.title = T := ⟨_, rfl⟩
  rw [hT] at htl ⊢
  clear hT
  have HB1 : ∀ x, Hid (Below w.heap.size w (w.alloc x)) := fun x => Lib.hid ((Below.refl _ _).alloc (Nat.le_refl _) _)
  go_enter Try.func13, Try.ntmps13
  try simp only [List.append_eq, List.cons_append, List.nil_append]
  go_wp2_with (first | (go_at_call 24; refine (isSize_c _ _ _).mono ?_; rw [H1.out]; rintro e w' ⟨rfl, rfl⟩) | (go_at_call 25; refine (within_c _ _ _ _).mono ?_; (first | rw [H2.out]); rintro e w' ⟨rfl, rfl⟩))
  go_ret
  exact ⟨rfl, (Below.refl _ _).alloc (Nat.le_refl _) _⟩
theorem isScreen_no3 (s : ScrI) (ac : Option Addr) (cc : Nat) (ah : Option Addr) (dh : Nat) (w : World) (ha : Sl celE 2 w ac s.cells) (hb : Sl strE 1 w ah s.hist) (hcl : s.cells.length ≤ 1048576) (hhl : s.hist.length ≤ 1048576) (htl : s.title.size ≤ 1099511627776) (h1 : (inB s.w 2 24 && inB s.h 2 10) = true) (h2 : inB s.x 0 s.w = true) (hk : inB s.y 0 (s.h - 1) = false) :
    Calls Try.prog 13 #[.agg #[.int .i64 s.w, .int .i64 s.h, .int .i64 s.x, .int .i64 s.y, .int .i64 s.look, .int .i64 s.top, .int .i64 s.bot, .int .i64 s.sx, .int .i64 s.sy, .string s.title, .slice ac s.cells.length cc, .slice ah s.hist.length dh]] w fun e w' => e = .returned (.bool false) ∧ Below w.heap.size w w' := by
  have H1 := Lib.hid h1
  have H2 := Lib.hid h2
  have H3 := Lib.hid hk
  have HA := Lib.hid ha
  have HBB := Lib.hid hb
  clear ha hb hk h1 h2
  have hw2 : 2 ≤ s.w ∧ s.w ≤ 24 := by have := H1.out; simp only [inB, Bool.and_eq_true, decide_eq_true_eq] at this; omega
  have hh2 : 2 ≤ s.h ∧ s.h ≤ 10 := by have := H1.out; simp only [inB, Bool.and_eq_true, decide_eq_true_eq] at this; omega
  obtain ⟨hw2a, hw2b⟩ := hw2
  obtain ⟨hh2a, hh2b⟩ := hh2
  obtain ⟨nc, hnc⟩ : ∃ n, s.cells.length = n := ⟨_, rfl⟩
  obtain ⟨nh, hnh⟩ : ∃ n, s.hist.length = n := ⟨_, rfl⟩
  have HNC := Lib.hid hnc
  have HNH := Lib.hid hnh
  rw [hnc, hnh]
  rw [hnc] at hcl
  rw [hnh] at hhl
  clear hnc hnh
  obtain ⟨T, hT⟩ : ∃ T, s.title = T := ⟨_, rfl⟩
  rw [hT] at htl ⊢
  clear hT
  have HB1 : ∀ x, Hid (Below w.heap.size w (w.alloc x)) := fun x => Lib.hid ((Below.refl _ _).alloc (Nat.le_refl _) _)
  go_enter Try.func13, Try.ntmps13
  try simp only [List.append_eq, List.cons_append, List.nil_append]
  go_wp2_with (first | (go_at_call 24; refine (isSize_c _ _ _).mono ?_; rw [H1.out]; rintro e w' ⟨rfl, rfl⟩) | (go_at_call 25; refine (within_c _ _ _ _).mono ?_; (first | rw [H2.out] | rw [H3.out]); rintro e w' ⟨rfl, rfl⟩))
  go_ret
  exact ⟨rfl, (Below.refl _ _).alloc (Nat.le_refl _) _⟩
theorem isScreen_no4 (s : ScrI) (ac : Option Addr) (cc : Nat) (ah : Option Addr) (dh : Nat) (w : World) (ha : Sl celE 2 w ac s.cells) (hb : Sl strE 1 w ah s.hist) (hcl : s.cells.length ≤ 1048576) (hhl : s.hist.length ≤ 1048576) (htl : s.title.size ≤ 1099511627776) (h1 : (inB s.w 2 24 && inB s.h 2 10) = true) (h2 : inB s.x 0 s.w = true) (h3 : inB s.y 0 (s.h - 1) = true) (hk : inB s.look 0 127 = false) :
    Calls Try.prog 13 #[.agg #[.int .i64 s.w, .int .i64 s.h, .int .i64 s.x, .int .i64 s.y, .int .i64 s.look, .int .i64 s.top, .int .i64 s.bot, .int .i64 s.sx, .int .i64 s.sy, .string s.title, .slice ac s.cells.length cc, .slice ah s.hist.length dh]] w fun e w' => e = .returned (.bool false) ∧ Below w.heap.size w w' := by
  have H1 := Lib.hid h1
  have H2 := Lib.hid h2
  have H3 := Lib.hid h3
  have H4 := Lib.hid hk
  have HA := Lib.hid ha
  have HBB := Lib.hid hb
  clear ha hb hk h1 h2 h3
  have hw2 : 2 ≤ s.w ∧ s.w ≤ 24 := by have := H1.out; simp only [inB, Bool.and_eq_true, decide_eq_true_eq] at this; omega
  have hh2 : 2 ≤ s.h ∧ s.h ≤ 10 := by have := H1.out; simp only [inB, Bool.and_eq_true, decide_eq_true_eq] at this; omega
  obtain ⟨hw2a, hw2b⟩ := hw2
  obtain ⟨hh2a, hh2b⟩ := hh2
  obtain ⟨nc, hnc⟩ : ∃ n, s.cells.length = n := ⟨_, rfl⟩
  obtain ⟨nh, hnh⟩ : ∃ n, s.hist.length = n := ⟨_, rfl⟩
  have HNC := Lib.hid hnc
  have HNH := Lib.hid hnh
  rw [hnc, hnh]
  rw [hnc] at hcl
  rw [hnh] at hhl
  clear hnc hnh
  obtain ⟨T, hT⟩ : ∃ T, s.title = T := ⟨_, rfl⟩
  rw [hT] at htl ⊢
  clear hT
  have HB1 : ∀ x, Hid (Below w.heap.size w (w.alloc x)) := fun x => Lib.hid ((Below.refl _ _).alloc (Nat.le_refl _) _)
  go_enter Try.func13, Try.ntmps13
  try simp only [List.append_eq, List.cons_append, List.nil_append]
  go_wp2_with (first | (go_at_call 24; refine (isSize_c _ _ _).mono ?_; rw [H1.out]; rintro e w' ⟨rfl, rfl⟩) | (go_at_call 25; refine (within_c _ _ _ _).mono ?_; (first | rw [H2.out] | rw [H3.out] | rw [H4.out]); rintro e w' ⟨rfl, rfl⟩))
  go_ret
  exact ⟨rfl, (Below.refl _ _).alloc (Nat.le_refl _) _⟩
theorem isScreen_no5 (s : ScrI) (ac : Option Addr) (cc : Nat) (ah : Option Addr) (dh : Nat) (w : World) (ha : Sl celE 2 w ac s.cells) (hb : Sl strE 1 w ah s.hist) (hcl : s.cells.length ≤ 1048576) (hhl : s.hist.length ≤ 1048576) (htl : s.title.size ≤ 1099511627776) (h1 : (inB s.w 2 24 && inB s.h 2 10) = true) (h2 : inB s.x 0 s.w = true) (h3 : inB s.y 0 (s.h - 1) = true) (h4 : inB s.look 0 127 = true) (hk : inB s.top 0 (s.h - 2) = false) :
    Calls Try.prog 13 #[.agg #[.int .i64 s.w, .int .i64 s.h, .int .i64 s.x, .int .i64 s.y, .int .i64 s.look, .int .i64 s.top, .int .i64 s.bot, .int .i64 s.sx, .int .i64 s.sy, .string s.title, .slice ac s.cells.length cc, .slice ah s.hist.length dh]] w fun e w' => e = .returned (.bool false) ∧ Below w.heap.size w w' := by
  have H1 := Lib.hid h1
  have H2 := Lib.hid h2
  have H3 := Lib.hid h3
  have H4 := Lib.hid h4
  have H5 := Lib.hid hk
  have HA := Lib.hid ha
  have HBB := Lib.hid hb
  clear ha hb hk h1 h2 h3 h4
  have hw2 : 2 ≤ s.w ∧ s.w ≤ 24 := by have := H1.out; simp only [inB, Bool.and_eq_true, decide_eq_true_eq] at this; omega
  have hh2 : 2 ≤ s.h ∧ s.h ≤ 10 := by have := H1.out; simp only [inB, Bool.and_eq_true, decide_eq_true_eq] at this; omega
  obtain ⟨hw2a, hw2b⟩ := hw2
  obtain ⟨hh2a, hh2b⟩ := hh2
  obtain ⟨nc, hnc⟩ : ∃ n, s.cells.length = n := ⟨_, rfl⟩
  obtain ⟨nh, hnh⟩ : ∃ n, s.hist.length = n := ⟨_, rfl⟩
  have HNC := Lib.hid hnc
  have HNH := Lib.hid hnh
  rw [hnc, hnh]
  rw [hnc] at hcl
  rw [hnh] at hhl
  clear hnc hnh
  obtain ⟨T, hT⟩ : ∃ T, s.title = T := ⟨_, rfl⟩
  rw [hT] at htl ⊢
  clear hT
  have HB1 : ∀ x, Hid (Below w.heap.size w (w.alloc x)) := fun x => Lib.hid ((Below.refl _ _).alloc (Nat.le_refl _) _)
  go_enter Try.func13, Try.ntmps13
  try simp only [List.append_eq, List.cons_append, List.nil_append]
  go_wp2_with (first | (go_at_call 24; refine (isSize_c _ _ _).mono ?_; rw [H1.out]; rintro e w' ⟨rfl, rfl⟩) | (go_at_call 25; refine (within_c _ _ _ _).mono ?_; (first | rw [H2.out] | rw [H3.out] | rw [H4.out] | rw [H5.out]); rintro e w' ⟨rfl, rfl⟩))
  go_ret
  exact ⟨rfl, (Below.refl _ _).alloc (Nat.le_refl _) _⟩
theorem isScreen_no6 (s : ScrI) (ac : Option Addr) (cc : Nat) (ah : Option Addr) (dh : Nat) (w : World) (ha : Sl celE 2 w ac s.cells) (hb : Sl strE 1 w ah s.hist) (hcl : s.cells.length ≤ 1048576) (hhl : s.hist.length ≤ 1048576) (htl : s.title.size ≤ 1099511627776) (h1 : (inB s.w 2 24 && inB s.h 2 10) = true) (h2 : inB s.x 0 s.w = true) (h3 : inB s.y 0 (s.h - 1) = true) (h4 : inB s.look 0 127 = true) (h5 : inB s.top 0 (s.h - 2) = true) (hk : inB s.bot (s.top + 1) (s.h - 1) = false) :
    Calls Try.prog 13 #[.agg #[.int .i64 s.w, .int .i64 s.h, .int .i64 s.x, .int .i64 s.y, .int .i64 s.look, .int .i64 s.top, .int .i64 s.bot, .int .i64 s.sx, .int .i64 s.sy, .string s.title, .slice ac s.cells.length cc, .slice ah s.hist.length dh]] w fun e w' => e = .returned (.bool false) ∧ Below w.heap.size w w' := by
  have H1 := Lib.hid h1
  have H2 := Lib.hid h2
  have H3 := Lib.hid h3
  have H4 := Lib.hid h4
  have H5 := Lib.hid h5
  have H6 := Lib.hid hk
  have HA := Lib.hid ha
  have HBB := Lib.hid hb
  clear ha hb hk h1 h2 h3 h4 h5
  have hw2 : 2 ≤ s.w ∧ s.w ≤ 24 := by have := H1.out; simp only [inB, Bool.and_eq_true, decide_eq_true_eq] at this; omega
  have hh2 : 2 ≤ s.h ∧ s.h ≤ 10 := by have := H1.out; simp only [inB, Bool.and_eq_true, decide_eq_true_eq] at this; omega
  obtain ⟨hw2a, hw2b⟩ := hw2
  obtain ⟨hh2a, hh2b⟩ := hh2
  have ht2 : 0 ≤ s.top ∧ s.top ≤ s.h - 2 := by have := H5.out; simp only [inB, Bool.and_eq_true, decide_eq_true_eq] at this; omega
  obtain ⟨ht2a, ht2b⟩ := ht2
  obtain ⟨nc, hnc⟩ : ∃ n, s.cells.length = n := ⟨_, rfl⟩
  obtain ⟨nh, hnh⟩ : ∃ n, s.hist.length = n := ⟨_, rfl⟩
  have HNC := Lib.hid hnc
  have HNH := Lib.hid hnh
  rw [hnc, hnh]
  rw [hnc] at hcl
  rw [hnh] at hhl
  clear hnc hnh
  obtain ⟨T, hT⟩ : ∃ T, s.title = T := ⟨_, rfl⟩
  rw [hT] at htl ⊢
  clear hT
  have HB1 : ∀ x, Hid (Below w.heap.size w (w.alloc x)) := fun x => Lib.hid ((Below.refl _ _).alloc (Nat.le_refl _) _)
  go_enter Try.func13, Try.ntmps13
  try simp only [List.append_eq, List.cons_append, List.nil_append]
  go_wp2_with (first | (go_at_call 24; refine (isSize_c _ _ _).mono ?_; rw [H1.out]; rintro e w' ⟨rfl, rfl⟩) | (go_at_call 25; refine (within_c _ _ _ _).mono ?_; (first | rw [H2.out] | rw [H3.out] | rw [H4.out] | rw [H5.out] | rw [H6.out]); rintro e w' ⟨rfl, rfl⟩))
  go_ret
  exact ⟨rfl, (Below.refl _ _).alloc (Nat.le_refl _) _⟩
theorem isScreen_no7 (s : ScrI) (ac : Option Addr) (cc : Nat) (ah : Option Addr) (dh : Nat) (w : World) (ha : Sl celE 2 w ac s.cells) (hb : Sl strE 1 w ah s.hist) (hcl : s.cells.length ≤ 1048576) (hhl : s.hist.length ≤ 1048576) (htl : s.title.size ≤ 1099511627776) (h1 : (inB s.w 2 24 && inB s.h 2 10) = true) (h2 : inB s.x 0 s.w = true) (h3 : inB s.y 0 (s.h - 1) = true) (h4 : inB s.look 0 127 = true) (h5 : inB s.top 0 (s.h - 2) = true) (h6 : inB s.bot (s.top + 1) (s.h - 1) = true) (hk : inB s.sx 0 s.w = false) :
    Calls Try.prog 13 #[.agg #[.int .i64 s.w, .int .i64 s.h, .int .i64 s.x, .int .i64 s.y, .int .i64 s.look, .int .i64 s.top, .int .i64 s.bot, .int .i64 s.sx, .int .i64 s.sy, .string s.title, .slice ac s.cells.length cc, .slice ah s.hist.length dh]] w fun e w' => e = .returned (.bool false) ∧ Below w.heap.size w w' := by
  have H1 := Lib.hid h1
  have H2 := Lib.hid h2
  have H3 := Lib.hid h3
  have H4 := Lib.hid h4
  have H5 := Lib.hid h5
  have H6 := Lib.hid h6
  have H7 := Lib.hid hk
  have HA := Lib.hid ha
  have HBB := Lib.hid hb
  clear ha hb hk h1 h2 h3 h4 h5 h6
  have hw2 : 2 ≤ s.w ∧ s.w ≤ 24 := by have := H1.out; simp only [inB, Bool.and_eq_true, decide_eq_true_eq] at this; omega
  have hh2 : 2 ≤ s.h ∧ s.h ≤ 10 := by have := H1.out; simp only [inB, Bool.and_eq_true, decide_eq_true_eq] at this; omega
  obtain ⟨hw2a, hw2b⟩ := hw2
  obtain ⟨hh2a, hh2b⟩ := hh2
  have ht2 : 0 ≤ s.top ∧ s.top ≤ s.h - 2 := by have := H5.out; simp only [inB, Bool.and_eq_true, decide_eq_true_eq] at this; omega
  obtain ⟨ht2a, ht2b⟩ := ht2
  obtain ⟨nc, hnc⟩ : ∃ n, s.cells.length = n := ⟨_, rfl⟩
  obtain ⟨nh, hnh⟩ : ∃ n, s.hist.length = n := ⟨_, rfl⟩
  have HNC := Lib.hid hnc
  have HNH := Lib.hid hnh
  rw [hnc, hnh]
  rw [hnc] at hcl
  rw [hnh] at hhl
  clear hnc hnh
  obtain ⟨T, hT⟩ : ∃ T, s.title = T := ⟨_, rfl⟩
  rw [hT] at htl ⊢
  clear hT
  have HB1 : ∀ x, Hid (Below w.heap.size w (w.alloc x)) := fun x => Lib.hid ((Below.refl _ _).alloc (Nat.le_refl _) _)
  go_enter Try.func13, Try.ntmps13
  try simp only [List.append_eq, List.cons_append, List.nil_append]
  go_wp2_with (first | (go_at_call 24; refine (isSize_c _ _ _).mono ?_; rw [H1.out]; rintro e w' ⟨rfl, rfl⟩) | (go_at_call 25; refine (within_c _ _ _ _).mono ?_; (first | rw [H2.out] | rw [H3.out] | rw [H4.out] | rw [H5.out] | rw [H6.out] | rw [H7.out]); rintro e w' ⟨rfl, rfl⟩))
  go_ret
  exact ⟨rfl, (Below.refl _ _).alloc (Nat.le_refl _) _⟩
theorem isScreen_no8 (s : ScrI) (ac : Option Addr) (cc : Nat) (ah : Option Addr) (dh : Nat) (w : World) (ha : Sl celE 2 w ac s.cells) (hb : Sl strE 1 w ah s.hist) (hcl : s.cells.length ≤ 1048576) (hhl : s.hist.length ≤ 1048576) (htl : s.title.size ≤ 1099511627776) (h1 : (inB s.w 2 24 && inB s.h 2 10) = true) (h2 : inB s.x 0 s.w = true) (h3 : inB s.y 0 (s.h - 1) = true) (h4 : inB s.look 0 127 = true) (h5 : inB s.top 0 (s.h - 2) = true) (h6 : inB s.bot (s.top + 1) (s.h - 1) = true) (h7 : inB s.sx 0 s.w = true) (hk : inB s.sy 0 (s.h - 1) = false) :
    Calls Try.prog 13 #[.agg #[.int .i64 s.w, .int .i64 s.h, .int .i64 s.x, .int .i64 s.y, .int .i64 s.look, .int .i64 s.top, .int .i64 s.bot, .int .i64 s.sx, .int .i64 s.sy, .string s.title, .slice ac s.cells.length cc, .slice ah s.hist.length dh]] w fun e w' => e = .returned (.bool false) ∧ Below w.heap.size w w' := by
  have H1 := Lib.hid h1
  have H2 := Lib.hid h2
  have H3 := Lib.hid h3
  have H4 := Lib.hid h4
  have H5 := Lib.hid h5
  have H6 := Lib.hid h6
  have H7 := Lib.hid h7
  have H8 := Lib.hid hk
  have HA := Lib.hid ha
  have HBB := Lib.hid hb
  clear ha hb hk h1 h2 h3 h4 h5 h6 h7
  have hw2 : 2 ≤ s.w ∧ s.w ≤ 24 := by have := H1.out; simp only [inB, Bool.and_eq_true, decide_eq_true_eq] at this; omega
  have hh2 : 2 ≤ s.h ∧ s.h ≤ 10 := by have := H1.out; simp only [inB, Bool.and_eq_true, decide_eq_true_eq] at this; omega
  obtain ⟨hw2a, hw2b⟩ := hw2
  obtain ⟨hh2a, hh2b⟩ := hh2
  have ht2 : 0 ≤ s.top ∧ s.top ≤ s.h - 2 := by have := H5.out; simp only [inB, Bool.and_eq_true, decide_eq_true_eq] at this; omega
  obtain ⟨ht2a, ht2b⟩ := ht2
  obtain ⟨nc, hnc⟩ : ∃ n, s.cells.length = n := ⟨_, rfl⟩
  obtain ⟨nh, hnh⟩ : ∃ n, s.hist.length = n := ⟨_, rfl⟩
  have HNC := Lib.hid hnc
  have HNH := Lib.hid hnh
  rw [hnc, hnh]
  rw [hnc] at hcl
  rw [hnh] at hhl
  clear hnc hnh
  obtain ⟨T, hT⟩ : ∃ T, s.title = T := ⟨_, rfl⟩
  rw [hT] at htl ⊢
  clear hT
  have HB1 : ∀ x, Hid (Below w.heap.size w (w.alloc x)) := fun x => Lib.hid ((Below.refl _ _).alloc (Nat.le_refl _) _)
  go_enter Try.func13, Try.ntmps13
  try simp only [List.append_eq, List.cons_append, List.nil_append]
  go_wp2_with (first | (go_at_call 24; refine (isSize_c _ _ _).mono ?_; rw [H1.out]; rintro e w' ⟨rfl, rfl⟩) | (go_at_call 25; refine (within_c _ _ _ _).mono ?_; (first | rw [H2.out] | rw [H3.out] | rw [H4.out] | rw [H5.out] | rw [H6.out] | rw [H7.out] | rw [H8.out]); rintro e w' ⟨rfl, rfl⟩))
  go_ret
  exact ⟨rfl, (Below.refl _ _).alloc (Nat.le_refl _) _⟩
theorem isScreen_no9 (s : ScrI) (ac : Option Addr) (cc : Nat) (ah : Option Addr) (dh : Nat) (w : World) (ha : Sl celE 2 w ac s.cells) (hb : Sl strE 1 w ah s.hist) (hcl : s.cells.length ≤ 1048576) (hhl : s.hist.length ≤ 1048576) (htl : s.title.size ≤ 1099511627776) (h1 : (inB s.w 2 24 && inB s.h 2 10) = true) (h2 : inB s.x 0 s.w = true) (h3 : inB s.y 0 (s.h - 1) = true) (h4 : inB s.look 0 127 = true) (h5 : inB s.top 0 (s.h - 2) = true) (h6 : inB s.bot (s.top + 1) (s.h - 1) = true) (h7 : inB s.sx 0 s.w = true) (h8 : inB s.sy 0 (s.h - 1) = true) (hk : titB s.title = false) :
    Calls Try.prog 13 #[.agg #[.int .i64 s.w, .int .i64 s.h, .int .i64 s.x, .int .i64 s.y, .int .i64 s.look, .int .i64 s.top, .int .i64 s.bot, .int .i64 s.sx, .int .i64 s.sy, .string s.title, .slice ac s.cells.length cc, .slice ah s.hist.length dh]] w fun e w' => e = .returned (.bool false) ∧ Below w.heap.size w w' := by
  have H1 := Lib.hid h1
  have H2 := Lib.hid h2
  have H3 := Lib.hid h3
  have H4 := Lib.hid h4
  have H5 := Lib.hid h5
  have H6 := Lib.hid h6
  have H7 := Lib.hid h7
  have H8 := Lib.hid h8
  have H9 := Lib.hid hk
  have HA := Lib.hid ha
  have HBB := Lib.hid hb
  clear ha hb hk h1 h2 h3 h4 h5 h6 h7 h8
  have hw2 : 2 ≤ s.w ∧ s.w ≤ 24 := by have := H1.out; simp only [inB, Bool.and_eq_true, decide_eq_true_eq] at this; omega
  have hh2 : 2 ≤ s.h ∧ s.h ≤ 10 := by have := H1.out; simp only [inB, Bool.and_eq_true, decide_eq_true_eq] at this; omega
  obtain ⟨hw2a, hw2b⟩ := hw2
  obtain ⟨hh2a, hh2b⟩ := hh2
  have ht2 : 0 ≤ s.top ∧ s.top ≤ s.h - 2 := by have := H5.out; simp only [inB, Bool.and_eq_true, decide_eq_true_eq] at this; omega
  obtain ⟨ht2a, ht2b⟩ := ht2
  obtain ⟨nc, hnc⟩ : ∃ n, s.cells.length = n := ⟨_, rfl⟩
  obtain ⟨nh, hnh⟩ : ∃ n, s.hist.length = n := ⟨_, rfl⟩
  have HNC := Lib.hid hnc
  have HNH := Lib.hid hnh
  rw [hnc, hnh]
  rw [hnc] at hcl
  rw [hnh] at hhl
  clear hnc hnh
  obtain ⟨T, hT⟩ : ∃ T, s.title = T := ⟨_, rfl⟩
  rw [hT] at htl ⊢
  rw [hT] at H9
  clear hT
  have HB1 : ∀ x, Hid (Below w.heap.size w (w.alloc x)) := fun x => Lib.hid ((Below.refl _ _).alloc (Nat.le_refl _) _)
  go_enter Try.func13, Try.ntmps13
  try simp only [List.append_eq, List.cons_append, List.nil_append]
  go_wp2_with (first | (go_at_call 24; refine (isSize_c _ _ _).mono ?_; rw [H1.out]; rintro e w' ⟨rfl, rfl⟩) | (go_at_call 25; refine (within_c _ _ _ _).mono ?_; (first | rw [H2.out] | rw [H3.out] | rw [H4.out] | rw [H5.out] | rw [H6.out] | rw [H7.out] | rw [H8.out]); rintro e w' ⟨rfl, rfl⟩) | (go_at_call 26; refine (isTitle_c T _ htl).mono ?_; rw [H9.out]; rintro e w' ⟨rfl, rfl⟩))
  go_ret
  exact ⟨rfl, (Below.refl _ _).alloc (Nat.le_refl _) _⟩
theorem isScreen_no10 (s : ScrI) (ac : Option Addr) (cc : Nat) (ah : Option Addr) (dh : Nat) (w : World) (ha : Sl celE 2 w ac s.cells) (hb : Sl strE 1 w ah s.hist) (hcl : s.cells.length ≤ 1048576) (hhl : s.hist.length ≤ 1048576) (htl : s.title.size ≤ 1099511627776) (h1 : (inB s.w 2 24 && inB s.h 2 10) = true) (h2 : inB s.x 0 s.w = true) (h3 : inB s.y 0 (s.h - 1) = true) (h4 : inB s.look 0 127 = true) (h5 : inB s.top 0 (s.h - 2) = true) (h6 : inB s.bot (s.top + 1) (s.h - 1) = true) (h7 : inB s.sx 0 s.w = true) (h8 : inB s.sy 0 (s.h - 1) = true) (h9 : titB s.title = true) (hk : decide (s.hist.length ≤ 6) = false) :
    Calls Try.prog 13 #[.agg #[.int .i64 s.w, .int .i64 s.h, .int .i64 s.x, .int .i64 s.y, .int .i64 s.look, .int .i64 s.top, .int .i64 s.bot, .int .i64 s.sx, .int .i64 s.sy, .string s.title, .slice ac s.cells.length cc, .slice ah s.hist.length dh]] w fun e w' => e = .returned (.bool false) ∧ Below w.heap.size w w' := by
  have H1 := Lib.hid h1
  have H2 := Lib.hid h2
  have H3 := Lib.hid h3
  have H4 := Lib.hid h4
  have H5 := Lib.hid h5
  have H6 := Lib.hid h6
  have H7 := Lib.hid h7
  have H8 := Lib.hid h8
  have H9 := Lib.hid h9
  have H10 := Lib.hid hk
  have HA := Lib.hid ha
  have HBB := Lib.hid hb
  clear ha hb hk h1 h2 h3 h4 h5 h6 h7 h8 h9
  have hw2 : 2 ≤ s.w ∧ s.w ≤ 24 := by have := H1.out; simp only [inB, Bool.and_eq_true, decide_eq_true_eq] at this; omega
  have hh2 : 2 ≤ s.h ∧ s.h ≤ 10 := by have := H1.out; simp only [inB, Bool.and_eq_true, decide_eq_true_eq] at this; omega
  obtain ⟨hw2a, hw2b⟩ := hw2
  obtain ⟨hh2a, hh2b⟩ := hh2
  have ht2 : 0 ≤ s.top ∧ s.top ≤ s.h - 2 := by have := H5.out; simp only [inB, Bool.and_eq_true, decide_eq_true_eq] at this; omega
  obtain ⟨ht2a, ht2b⟩ := ht2
  obtain ⟨nc, hnc⟩ : ∃ n, s.cells.length = n := ⟨_, rfl⟩
  obtain ⟨nh, hnh⟩ : ∃ n, s.hist.length = n := ⟨_, rfl⟩
  have HNC := Lib.hid hnc
  have HNH := Lib.hid hnh
  rw [hnc, hnh]
  rw [hnc] at hcl
  rw [hnh] at hhl
  clear hnc hnh
  obtain ⟨T, hT⟩ : ∃ T, s.title = T := ⟨_, rfl⟩
  rw [hT] at htl ⊢
  rw [hT] at H9
  clear hT
  have h6 : ¬ (nh : Int) ≤ 6 := by have := H10.out; rw [HNH.out] at this; simp only [decide_eq_false_iff_not] at this; omega
  have HB1 : ∀ x, Hid (Below w.heap.size w (w.alloc x)) := fun x => Lib.hid ((Below.refl _ _).alloc (Nat.le_refl _) _)
  go_enter Try.func13, Try.ntmps13
  try simp only [List.append_eq, List.cons_append, List.nil_append]
  go_wp2_with (first | (go_at_call 24; refine (isSize_c _ _ _).mono ?_; rw [H1.out]; rintro e w' ⟨rfl, rfl⟩) | (go_at_call 25; refine (within_c _ _ _ _).mono ?_; (first | rw [H2.out] | rw [H3.out] | rw [H4.out] | rw [H5.out] | rw [H6.out] | rw [H7.out] | rw [H8.out]); rintro e w' ⟨rfl, rfl⟩) | (go_at_call 26; refine (isTitle_c T _ htl).mono ?_; rw [H9.out]; rintro e w' ⟨rfl, rfl⟩))
  go_ret
  exact ⟨rfl, (Below.refl _ _).alloc (Nat.le_refl _) _⟩
theorem isScreen_no11 (s : ScrI) (ac : Option Addr) (cc : Nat) (ah : Option Addr) (dh : Nat) (w : World) (ha : Sl celE 2 w ac s.cells) (hb : Sl strE 1 w ah s.hist) (hcl : s.cells.length ≤ 1048576) (hhl : s.hist.length ≤ 1048576) (htl : s.title.size ≤ 1099511627776) (h1 : (inB s.w 2 24 && inB s.h 2 10) = true) (h2 : inB s.x 0 s.w = true) (h3 : inB s.y 0 (s.h - 1) = true) (h4 : inB s.look 0 127 = true) (h5 : inB s.top 0 (s.h - 2) = true) (h6 : inB s.bot (s.top + 1) (s.h - 1) = true) (h7 : inB s.sx 0 s.w = true) (h8 : inB s.sy 0 (s.h - 1) = true) (h9 : titB s.title = true) (h10 : decide (s.hist.length ≤ 6) = true) (hk : decide ((s.cells.length : Int) = s.w * s.h) = false) :
    Calls Try.prog 13 #[.agg #[.int .i64 s.w, .int .i64 s.h, .int .i64 s.x, .int .i64 s.y, .int .i64 s.look, .int .i64 s.top, .int .i64 s.bot, .int .i64 s.sx, .int .i64 s.sy, .string s.title, .slice ac s.cells.length cc, .slice ah s.hist.length dh]] w fun e w' => e = .returned (.bool false) ∧ Below w.heap.size w w' := by
  have H1 := Lib.hid h1
  have H2 := Lib.hid h2
  have H3 := Lib.hid h3
  have H4 := Lib.hid h4
  have H5 := Lib.hid h5
  have H6 := Lib.hid h6
  have H7 := Lib.hid h7
  have H8 := Lib.hid h8
  have H9 := Lib.hid h9
  have H10 := Lib.hid h10
  have H11 := Lib.hid hk
  have HA := Lib.hid ha
  have HBB := Lib.hid hb
  clear ha hb hk h1 h2 h3 h4 h5 h6 h7 h8 h9 h10
  have hw2 : 2 ≤ s.w ∧ s.w ≤ 24 := by have := H1.out; simp only [inB, Bool.and_eq_true, decide_eq_true_eq] at this; omega
  have hh2 : 2 ≤ s.h ∧ s.h ≤ 10 := by have := H1.out; simp only [inB, Bool.and_eq_true, decide_eq_true_eq] at this; omega
  obtain ⟨hw2a, hw2b⟩ := hw2
  obtain ⟨hh2a, hh2b⟩ := hh2
  have ht2 : 0 ≤ s.top ∧ s.top ≤ s.h - 2 := by have := H5.out; simp only [inB, Bool.and_eq_true, decide_eq_true_eq] at this; omega
  obtain ⟨ht2a, ht2b⟩ := ht2
  obtain ⟨pr, hpr⟩ : ∃ p, s.w * s.h = p := ⟨_, rfl⟩
  have hpr0 : 0 ≤ pr := by rw [← hpr]; exact Int.mul_nonneg (by omega) (by omega)
  have hpr1 : pr ≤ 240 := by rw [← hpr]; exact Int.le_trans (Int.mul_le_mul_of_nonneg_right hw2b (by omega)) (by omega)
  obtain ⟨nc, hnc⟩ : ∃ n, s.cells.length = n := ⟨_, rfl⟩
  obtain ⟨nh, hnh⟩ : ∃ n, s.hist.length = n := ⟨_, rfl⟩
  have HNC := Lib.hid hnc
  have HNH := Lib.hid hnh
  rw [hnc, hnh]
  rw [hnc] at hcl
  rw [hnh] at hhl
  clear hnc hnh
  obtain ⟨T, hT⟩ : ∃ T, s.title = T := ⟨_, rfl⟩
  rw [hT] at htl ⊢
  rw [hT] at H9
  clear hT
  have h6 : (nh : Int) ≤ 6 := by have := H10.out; rw [HNH.out] at this; simp only [decide_eq_true_eq] at this; omega
  have hq : ((nc : Int) == pr) = false := by have := H11.out; rw [HNC.out, hpr] at this; simp only [decide_eq_false_iff_not] at this; simp [this]
  have HB1 : ∀ x, Hid (Below w.heap.size w (w.alloc x)) := fun x => Lib.hid ((Below.refl _ _).alloc (Nat.le_refl _) _)
  go_enter Try.func13, Try.ntmps13
  try simp only [List.append_eq, List.cons_append, List.nil_append]
  go_wp2_with (first | (go_at_call 24; refine (isSize_c _ _ _).mono ?_; rw [H1.out]; rintro e w' ⟨rfl, rfl⟩) | (go_at_call 25; refine (within_c _ _ _ _).mono ?_; (first | rw [H2.out] | rw [H3.out] | rw [H4.out] | rw [H5.out] | rw [H6.out] | rw [H7.out] | rw [H8.out]); rintro e w' ⟨rfl, rfl⟩) | (go_at_call 26; refine (isTitle_c T _ htl).mono ?_; rw [H9.out]; rintro e w' ⟨rfl, rfl⟩))
  go_ret
  exact ⟨rfl, (Below.refl _ _).alloc (Nat.le_refl _) _⟩
theorem isScreen_no12 (s : ScrI) (ac : Option Addr) (cc : Nat) (ah : Option Addr) (dh : Nat) (w : World) (ha : Sl celE 2 w ac s.cells) (hb : Sl strE 1 w ah s.hist) (hcl : s.cells.length ≤ 1048576) (hhl : s.hist.length ≤ 1048576) (htl : s.title.size ≤ 1099511627776) (h1 : (inB s.w 2 24 && inB s.h 2 10) = true) (h2 : inB s.x 0 s.w = true) (h3 : inB s.y 0 (s.h - 1) = true) (h4 : inB s.look 0 127 = true) (h5 : inB s.top 0 (s.h - 2) = true) (h6 : inB s.bot (s.top + 1) (s.h - 1) = true) (h7 : inB s.sx 0 s.w = true) (h8 : inB s.sy 0 (s.h - 1) = true) (h9 : titB s.title = true) (h10 : decide (s.hist.length ≤ 6) = true) (h11 : decide ((s.cells.length : Int) = s.w * s.h) = true) (hk : (!s.hist.any bigH) = false) :
    Calls Try.prog 13 #[.agg #[.int .i64 s.w, .int .i64 s.h, .int .i64 s.x, .int .i64 s.y, .int .i64 s.look, .int .i64 s.top, .int .i64 s.bot, .int .i64 s.sx, .int .i64 s.sy, .string s.title, .slice ac s.cells.length cc, .slice ah s.hist.length dh]] w fun e w' => e = .returned (.bool false) ∧ Below w.heap.size w w' := by
  have H1 := Lib.hid h1
  have H2 := Lib.hid h2
  have H3 := Lib.hid h3
  have H4 := Lib.hid h4
  have H5 := Lib.hid h5
  have H6 := Lib.hid h6
  have H7 := Lib.hid h7
  have H8 := Lib.hid h8
  have H9 := Lib.hid h9
  have H10 := Lib.hid h10
  have H11 := Lib.hid h11
  have H12 := Lib.hid hk
  have HA := Lib.hid ha
  have HBB := Lib.hid hb
  clear ha hb hk h1 h2 h3 h4 h5 h6 h7 h8 h9 h10 h11
  have hw2 : 2 ≤ s.w ∧ s.w ≤ 24 := by have := H1.out; simp only [inB, Bool.and_eq_true, decide_eq_true_eq] at this; omega
  have hh2 : 2 ≤ s.h ∧ s.h ≤ 10 := by have := H1.out; simp only [inB, Bool.and_eq_true, decide_eq_true_eq] at this; omega
  obtain ⟨hw2a, hw2b⟩ := hw2
  obtain ⟨hh2a, hh2b⟩ := hh2
  have ht2 : 0 ≤ s.top ∧ s.top ≤ s.h - 2 := by have := H5.out; simp only [inB, Bool.and_eq_true, decide_eq_true_eq] at this; omega
  obtain ⟨ht2a, ht2b⟩ := ht2
  obtain ⟨pr, hpr⟩ : ∃ p, s.w * s.h = p := ⟨_, rfl⟩
  have hpr0 : 0 ≤ pr := by rw [← hpr]; exact Int.mul_nonneg (by omega) (by omega)
  have hpr1 : pr ≤ 240 := by rw [← hpr]; exact Int.le_trans (Int.mul_le_mul_of_nonneg_right hw2b (by omega)) (by omega)
  have HCH : Hid (∀ W, Below w.heap.size w W → Calls Try.prog 27 #[.slice ah s.hist.length dh, .func (.func 28) #[] #[]] W fun e w' => e = .returned (.bool true) ∧ W = w') := Lib.hid (fun W hB => by
    have := H12.out
    simp only [Bool.not_eq_true', Bool.not_eq_false'] at this
    rw [← this]
    exact contains_impl_isScreen_1 ah dh s.hist W (HBB.out.keep hB) (by omega) (fun _ _ => trivial))
  obtain ⟨nc, hnc⟩ : ∃ n, s.cells.length = n := ⟨_, rfl⟩
  obtain ⟨nh, hnh⟩ : ∃ n, s.hist.length = n := ⟨_, rfl⟩
  have HNC := Lib.hid hnc
  have HNH := Lib.hid hnh
  rw [hnh] at HCH
  rw [hnc, hnh]
  rw [hnc] at hcl
  rw [hnh] at hhl
  clear hnc hnh
  obtain ⟨T, hT⟩ : ∃ T, s.title = T := ⟨_, rfl⟩
  rw [hT] at htl ⊢
  rw [hT] at H9
  clear hT
  have h6 : (nh : Int) ≤ 6 := by have := H10.out; rw [HNH.out] at this; simp only [decide_eq_true_eq] at this; omega
  have hq : ((nc : Int) == pr) = true := by have := H11.out; rw [HNC.out, hpr] at this; simp only [decide_eq_true_eq] at this; simp [this]
  have HB1 : ∀ x, Hid (Below w.heap.size w (w.alloc x)) := fun x => Lib.hid ((Below.refl _ _).alloc (Nat.le_refl _) _)
  go_enter Try.func13, Try.ntmps13
  try simp only [List.append_eq, List.cons_append, List.nil_append]
  go_wp2_with (first | (go_at_call 24; refine (isSize_c _ _ _).mono ?_; rw [H1.out]; rintro e w' ⟨rfl, rfl⟩) | (go_at_call 25; refine (within_c _ _ _ _).mono ?_; (first | rw [H2.out] | rw [H3.out] | rw [H4.out] | rw [H5.out] | rw [H6.out] | rw [H7.out] | rw [H8.out]); rintro e w' ⟨rfl, rfl⟩) | (go_at_call 26; refine (isTitle_c T _ htl).mono ?_; rw [H9.out]; rintro e w' ⟨rfl, rfl⟩) | (go_at_call 27; refine (HCH.out _ (HB1 _).out).mono ?_; rintro e w' ⟨rfl, rfl⟩))
  go_ret
  exact ⟨rfl, (Below.refl _ _).alloc (Nat.le_refl _) _⟩
theorem isScreen_no13 (s : ScrI) (ac : Option Addr) (cc : Nat) (ah : Option Addr) (dh : Nat) (w : World) (ha : Sl celE 2 w ac s.cells) (hb : Sl strE 1 w ah s.hist) (hcl : s.cells.length ≤ 1048576) (hhl : s.hist.length ≤ 1048576) (htl : s.title.size ≤ 1099511627776) (h1 : (inB s.w 2 24 && inB s.h 2 10) = true) (h2 : inB s.x 0 s.w = true) (h3 : inB s.y 0 (s.h - 1) = true) (h4 : inB s.look 0 127 = true) (h5 : inB s.top 0 (s.h - 2) = true) (h6 : inB s.bot (s.top + 1) (s.h - 1) = true) (h7 : inB s.sx 0 s.w = true) (h8 : inB s.sy 0 (s.h - 1) = true) (h9 : titB s.title = true) (h10 : decide (s.hist.length ≤ 6) = true) (h11 : decide ((s.cells.length : Int) = s.w * s.h) = true) (h12 : (!s.hist.any bigH) = true) (hk : (!s.cells.any ncB) = false) :
    Calls Try.prog 13 #[.agg #[.int .i64 s.w, .int .i64 s.h, .int .i64 s.x, .int .i64 s.y, .int .i64 s.look, .int .i64 s.top, .int .i64 s.bot, .int .i64 s.sx, .int .i64 s.sy, .string s.title, .slice ac s.cells.length cc, .slice ah s.hist.length dh]] w fun e w' => e = .returned (.bool false) ∧ Below w.heap.size w w' := by
  have H1 := Lib.hid h1
  have H2 := Lib.hid h2
  have H3 := Lib.hid h3
  have H4 := Lib.hid h4
  have H5 := Lib.hid h5
  have H6 := Lib.hid h6
  have H7 := Lib.hid h7
  have H8 := Lib.hid h8
  have H9 := Lib.hid h9
  have H10 := Lib.hid h10
  have H11 := Lib.hid h11
  have H12 := Lib.hid h12
  have H13 := Lib.hid hk
  have HA := Lib.hid ha
  have HBB := Lib.hid hb
  clear ha hb hk h1 h2 h3 h4 h5 h6 h7 h8 h9 h10 h11 h12
  have hw2 : 2 ≤ s.w ∧ s.w ≤ 24 := by have := H1.out; simp only [inB, Bool.and_eq_true, decide_eq_true_eq] at this; omega
  have hh2 : 2 ≤ s.h ∧ s.h ≤ 10 := by have := H1.out; simp only [inB, Bool.and_eq_true, decide_eq_true_eq] at this; omega
  obtain ⟨hw2a, hw2b⟩ := hw2
  obtain ⟨hh2a, hh2b⟩ := hh2
  have ht2 : 0 ≤ s.top ∧ s.top ≤ s.h - 2 := by have := H5.out; simp only [inB, Bool.and_eq_true, decide_eq_true_eq] at this; omega
  obtain ⟨ht2a, ht2b⟩ := ht2
  obtain ⟨pr, hpr⟩ : ∃ p, s.w * s.h = p := ⟨_, rfl⟩
  have hpr0 : 0 ≤ pr := by rw [← hpr]; exact Int.mul_nonneg (by omega) (by omega)
  have hpr1 : pr ≤ 240 := by rw [← hpr]; exact Int.le_trans (Int.mul_le_mul_of_nonneg_right hw2b (by omega)) (by omega)
  have HCH : Hid (∀ W, Below w.heap.size w W → Calls Try.prog 27 #[.slice ah s.hist.length dh, .func (.func 28) #[] #[]] W fun e w' => e = .returned (.bool false) ∧ W = w') := Lib.hid (fun W hB => by
    have := H12.out
    simp only [Bool.not_eq_true', Bool.not_eq_false'] at this
    rw [← this]
    exact contains_impl_isScreen_1 ah dh s.hist W (HBB.out.keep hB) (by omega) (fun _ _ => trivial))
  have HCC : Hid (∀ W, Below w.heap.size w W → Calls Try.prog 29 #[.slice ac s.cells.length cc, .func (.func 30) #[] #[]] W fun e w' => e = .returned (.bool true) ∧ Below W.heap.size W w') := Lib.hid (fun W hB => by
    have := H13.out
    simp only [Bool.not_eq_true', Bool.not_eq_false'] at this
    rw [← this]
    exact contains_cel ac cc s.cells W (HA.out.keep hB) (by omega))
  obtain ⟨nc, hnc⟩ : ∃ n, s.cells.length = n := ⟨_, rfl⟩
  obtain ⟨nh, hnh⟩ : ∃ n, s.hist.length = n := ⟨_, rfl⟩
  have HNC := Lib.hid hnc
  have HNH := Lib.hid hnh
  rw [hnh] at HCH
  rw [hnc] at HCC
  rw [hnc, hnh]
  rw [hnc] at hcl
  rw [hnh] at hhl
  clear hnc hnh
  obtain ⟨T, hT⟩ : ∃ T, s.title = T := ⟨_, rfl⟩
  rw [hT] at htl ⊢
  rw [hT] at H9
  clear hT
  have h6 : (nh : Int) ≤ 6 := by have := H10.out; rw [HNH.out] at this; simp only [decide_eq_true_eq] at this; omega
  have hq : ((nc : Int) == pr) = true := by have := H11.out; rw [HNC.out, hpr] at this; simp only [decide_eq_true_eq] at this; simp [this]
  have HB1 : ∀ x, Hid (Below w.heap.size w (w.alloc x)) := fun x => Lib.hid ((Below.refl _ _).alloc (Nat.le_refl _) _)
  go_enter Try.func13, Try.ntmps13
  try simp only [List.append_eq, List.cons_append, List.nil_append]
  go_wp2_with (first | (go_at_call 24; refine (isSize_c _ _ _).mono ?_; rw [H1.out]; rintro e w' ⟨rfl, rfl⟩) | (go_at_call 25; refine (within_c _ _ _ _).mono ?_; (first | rw [H2.out] | rw [H3.out] | rw [H4.out] | rw [H5.out] | rw [H6.out] | rw [H7.out] | rw [H8.out]); rintro e w' ⟨rfl, rfl⟩) | (go_at_call 26; refine (isTitle_c T _ htl).mono ?_; rw [H9.out]; rintro e w' ⟨rfl, rfl⟩) | (go_at_call 27; refine (HCH.out _ (HB1 _).out).mono ?_; rintro e w' ⟨rfl, rfl⟩) | (go_at_call 29; refine (HCC.out _ (HB1 _).out).mono ?_; rintro e wz ⟨rfl, hbz⟩; have HBZ := Lib.hid ((HB1 _).out.trans (hbz.mono (HB1 _).out.size)); clear hbz))
  go_ret
  exact ⟨rfl, HBZ.out⟩
theorem isScreen_yes (s : ScrI) (ac : Option Addr) (cc : Nat) (ah : Option Addr) (dh : Nat) (w : World) (ha : Sl celE 2 w ac s.cells) (hb : Sl strE 1 w ah s.hist) (hcl : s.cells.length ≤ 1048576) (hhl : s.hist.length ≤ 1048576) (htl : s.title.size ≤ 1099511627776) (h1 : (inB s.w 2 24 && inB s.h 2 10) = true) (h2 : inB s.x 0 s.w = true) (h3 : inB s.y 0 (s.h - 1) = true) (h4 : inB s.look 0 127 = true) (h5 : inB s.top 0 (s.h - 2) = true) (h6 : inB s.bot (s.top + 1) (s.h - 1) = true) (h7 : inB s.sx 0 s.w = true) (h8 : inB s.sy 0 (s.h - 1) = true) (h9 : titB s.title = true) (h10 : decide (s.hist.length ≤ 6) = true) (h11 : decide ((s.cells.length : Int) = s.w * s.h) = true) (h12 : (!s.hist.any bigH) = true) (h13 : (!s.cells.any ncB) = true) :
    Calls Try.prog 13 #[.agg #[.int .i64 s.w, .int .i64 s.h, .int .i64 s.x, .int .i64 s.y, .int .i64 s.look, .int .i64 s.top, .int .i64 s.bot, .int .i64 s.sx, .int .i64 s.sy, .string s.title, .slice ac s.cells.length cc, .slice ah s.hist.length dh]] w fun e w' => e = .returned (.bool true) ∧ Below w.heap.size w w' := by
  have H1 := Lib.hid h1
  have H2 := Lib.hid h2
  have H3 := Lib.hid h3
  have H4 := Lib.hid h4
  have H5 := Lib.hid h5
  have H6 := Lib.hid h6
  have H7 := Lib.hid h7
  have H8 := Lib.hid h8
  have H9 := Lib.hid h9
  have H10 := Lib.hid h10
  have H11 := Lib.hid h11
  have H12 := Lib.hid h12
  have H13 := Lib.hid h13
  have HA := Lib.hid ha
  have HBB := Lib.hid hb
  clear ha hb h1 h2 h3 h4 h5 h6 h7 h8 h9 h10 h11 h12 h13
  have hw2 : 2 ≤ s.w ∧ s.w ≤ 24 := by have := H1.out; simp only [inB, Bool.and_eq_true, decide_eq_true_eq] at this; omega
  have hh2 : 2 ≤ s.h ∧ s.h ≤ 10 := by have := H1.out; simp only [inB, Bool.and_eq_true, decide_eq_true_eq] at this; omega
  obtain ⟨hw2a, hw2b⟩ := hw2
  obtain ⟨hh2a, hh2b⟩ := hh2
  have ht2 : 0 ≤ s.top ∧ s.top ≤ s.h - 2 := by have := H5.out; simp only [inB, Bool.and_eq_true, decide_eq_true_eq] at this; omega
  obtain ⟨ht2a, ht2b⟩ := ht2
  obtain ⟨pr, hpr⟩ : ∃ p, s.w * s.h = p := ⟨_, rfl⟩
  have hpr0 : 0 ≤ pr := by rw [← hpr]; exact Int.mul_nonneg (by omega) (by omega)
  have hpr1 : pr ≤ 240 := by rw [← hpr]; exact Int.le_trans (Int.mul_le_mul_of_nonneg_right hw2b (by omega)) (by omega)
  have HCH : Hid (∀ W, Below w.heap.size w W → Calls Try.prog 27 #[.slice ah s.hist.length dh, .func (.func 28) #[] #[]] W fun e w' => e = .returned (.bool false) ∧ W = w') := Lib.hid (fun W hB => by
    have := H12.out
    simp only [Bool.not_eq_true', Bool.not_eq_false'] at this
    rw [← this]
    exact contains_impl_isScreen_1 ah dh s.hist W (HBB.out.keep hB) (by omega) (fun _ _ => trivial))
  have HCC : Hid (∀ W, Below w.heap.size w W → Calls Try.prog 29 #[.slice ac s.cells.length cc, .func (.func 30) #[] #[]] W fun e w' => e = .returned (.bool false) ∧ Below W.heap.size W w') := Lib.hid (fun W hB => by
    have := H13.out
    simp only [Bool.not_eq_true', Bool.not_eq_false'] at this
    rw [← this]
    exact contains_cel ac cc s.cells W (HA.out.keep hB) (by omega))
  obtain ⟨nc, hnc⟩ : ∃ n, s.cells.length = n := ⟨_, rfl⟩
  obtain ⟨nh, hnh⟩ : ∃ n, s.hist.length = n := ⟨_, rfl⟩
  have HNC := Lib.hid hnc
  have HNH := Lib.hid hnh
  rw [hnh] at HCH
  rw [hnc] at HCC
  rw [hnc, hnh]
  rw [hnc] at hcl
  rw [hnh] at hhl
  clear hnc hnh
  obtain ⟨T, hT⟩ : ∃ T, s.title = T := ⟨_, rfl⟩
  rw [hT] at htl ⊢
  rw [hT] at H9
  clear hT
  have h6 : (nh : Int) ≤ 6 := by have := H10.out; rw [HNH.out] at this; simp only [decide_eq_true_eq] at this; omega
  have hq : ((nc : Int) == pr) = true := by have := H11.out; rw [HNC.out, hpr] at this; simp only [decide_eq_true_eq] at this; simp [this]
  have HB1 : ∀ x, Hid (Below w.heap.size w (w.alloc x)) := fun x => Lib.hid ((Below.refl _ _).alloc (Nat.le_refl _) _)
  go_enter Try.func13, Try.ntmps13
  try simp only [List.append_eq, List.cons_append, List.nil_append]
  go_wp2_with (first | (go_at_call 24; refine (isSize_c _ _ _).mono ?_; rw [H1.out]; rintro e w' ⟨rfl, rfl⟩) | (go_at_call 25; refine (within_c _ _ _ _).mono ?_; (first | rw [H2.out] | rw [H3.out] | rw [H4.out] | rw [H5.out] | rw [H6.out] | rw [H7.out] | rw [H8.out]); rintro e w' ⟨rfl, rfl⟩) | (go_at_call 26; refine (isTitle_c T _ htl).mono ?_; rw [H9.out]; rintro e w' ⟨rfl, rfl⟩) | (go_at_call 27; refine (HCH.out _ (HB1 _).out).mono ?_; rintro e w' ⟨rfl, rfl⟩) | (go_at_call 29; refine (HCC.out _ (HB1 _).out).mono ?_; rintro e wz ⟨rfl, hbz⟩; have HBZ := Lib.hid ((HB1 _).out.trans (hbz.mono (HB1 _).out.size)); clear hbz))
  go_ret
  exact ⟨rfl, HBZ.out⟩
end
section
open Go.RowKit
theorem scrB_impl (s : ScrI) : scrB s = ((inB s.w 2 24 && inB s.h 2 10) && inB s.x 0 s.w && inB s.y 0 (s.h - 1) && inB s.look 0 127 && inB s.top 0 (s.h - 2) && inB s.bot (s.top + 1) (s.h - 1) && inB s.sx 0 s.w && inB s.sy 0 (s.h - 1) && titB s.title && decide (s.hist.length ≤ 6) && decide ((s.cells.length : Int) = s.w * s.h) && (!s.hist.any bigH) && (!s.cells.any ncB)) := by
  have e1 : (!s.hist.any bigH) = s.hist.all fun t => decide (t.size ≤ 96) := by
    rw [List.not_any_eq_all_not]
    congr 1
    funext t
    unfold bigH
    rw [← decide_not]
    simp
  have e2 : (!s.cells.any ncB) = s.cells.all celB := by
    rw [List.not_any_eq_all_not]
    congr 1
    funext c
    unfold ncB
    simp
  rw [e1, e2]
  unfold scrB scrH titB tiB
  rw [Bool.eq_iff_iff]
  simp only [Bool.and_eq_true]
  constructor
  · rintro ⟨⟨⟨⟨⟨⟨⟨⟨⟨⟨⟨⟨⟨a1, b⟩, c⟩, d⟩, e⟩, f⟩, g⟩, h⟩, j⟩, k⟩, l⟩, m⟩, n⟩, o⟩
    exact ⟨⟨⟨⟨⟨⟨⟨⟨⟨⟨⟨⟨a1, b⟩, c⟩, d⟩, e⟩, f⟩, g⟩, h⟩, j, m⟩, l⟩, k⟩, o⟩, n⟩
  · rintro ⟨⟨⟨⟨⟨⟨⟨⟨⟨⟨⟨⟨a1, b⟩, c⟩, d⟩, e⟩, f⟩, g⟩, h⟩, j, m⟩, l⟩, k⟩, o⟩, n⟩
    exact ⟨⟨⟨⟨⟨⟨⟨⟨⟨⟨⟨⟨⟨a1, b⟩, c⟩, d⟩, e⟩, f⟩, g⟩, h⟩, j⟩, k⟩, l⟩, m⟩, n⟩, o⟩
theorem isScreen_c (s : ScrI) (ac : Option Addr) (cc : Nat) (ah : Option Addr) (dh : Nat) (w : World) (ha : Sl celE 2 w ac s.cells) (hb : Sl strE 1 w ah s.hist) (hcl : s.cells.length ≤ 1048576) (hhl : s.hist.length ≤ 1048576) (htl : s.title.size ≤ 1099511627776) :
    Calls Try.prog 13 #[.agg #[.int .i64 s.w, .int .i64 s.h, .int .i64 s.x, .int .i64 s.y, .int .i64 s.look, .int .i64 s.top, .int .i64 s.bot, .int .i64 s.sx, .int .i64 s.sy, .string s.title, .slice ac s.cells.length cc, .slice ah s.hist.length dh]] w fun e w' => e = .returned (.bool (scrB s)) ∧ Below w.heap.size w w' := by
  have E := scrB_impl s
  cases h1 : (inB s.w 2 24 && inB s.h 2 10)
  · have e : scrB s = false := by rw [E, h1]; simp
    rw [e]
    exact isScreen_no1 s ac cc ah dh w ha hb hcl hhl htl h1
  cases h2 : inB s.x 0 s.w
  · have e : scrB s = false := by rw [E, h1, h2]; simp
    rw [e]
    exact isScreen_no2 s ac cc ah dh w ha hb hcl hhl htl h1 h2
  cases h3 : inB s.y 0 (s.h - 1)
  · have e : scrB s = false := by rw [E, h1, h2, h3]; simp
    rw [e]
    exact isScreen_no3 s ac cc ah dh w ha hb hcl hhl htl h1 h2 h3
  cases h4 : inB s.look 0 127
  · have e : scrB s = false := by rw [E, h1, h2, h3, h4]; simp
    rw [e]
    exact isScreen_no4 s ac cc ah dh w ha hb hcl hhl htl h1 h2 h3 h4
  cases h5 : inB s.top 0 (s.h - 2)
  · have e : scrB s = false := by rw [E, h1, h2, h3, h4, h5]; simp
    rw [e]
    exact isScreen_no5 s ac cc ah dh w ha hb hcl hhl htl h1 h2 h3 h4 h5
  cases h6 : inB s.bot (s.top + 1) (s.h - 1)
  · have e : scrB s = false := by rw [E, h1, h2, h3, h4, h5, h6]; simp
    rw [e]
    exact isScreen_no6 s ac cc ah dh w ha hb hcl hhl htl h1 h2 h3 h4 h5 h6
  cases h7 : inB s.sx 0 s.w
  · have e : scrB s = false := by rw [E, h1, h2, h3, h4, h5, h6, h7]; simp
    rw [e]
    exact isScreen_no7 s ac cc ah dh w ha hb hcl hhl htl h1 h2 h3 h4 h5 h6 h7
  cases h8 : inB s.sy 0 (s.h - 1)
  · have e : scrB s = false := by rw [E, h1, h2, h3, h4, h5, h6, h7, h8]; simp
    rw [e]
    exact isScreen_no8 s ac cc ah dh w ha hb hcl hhl htl h1 h2 h3 h4 h5 h6 h7 h8
  cases h9 : titB s.title
  · have e : scrB s = false := by rw [E, h1, h2, h3, h4, h5, h6, h7, h8, h9]; simp
    rw [e]
    exact isScreen_no9 s ac cc ah dh w ha hb hcl hhl htl h1 h2 h3 h4 h5 h6 h7 h8 h9
  cases h10 : decide (s.hist.length ≤ 6)
  · have e : scrB s = false := by rw [E, h1, h2, h3, h4, h5, h6, h7, h8, h9, h10]; simp
    rw [e]
    exact isScreen_no10 s ac cc ah dh w ha hb hcl hhl htl h1 h2 h3 h4 h5 h6 h7 h8 h9 h10
  cases h11 : decide ((s.cells.length : Int) = s.w * s.h)
  · have e : scrB s = false := by rw [E, h1, h2, h3, h4, h5, h6, h7, h8, h9, h10, h11]; simp
    rw [e]
    exact isScreen_no11 s ac cc ah dh w ha hb hcl hhl htl h1 h2 h3 h4 h5 h6 h7 h8 h9 h10 h11
  cases h12 : (!s.hist.any bigH)
  · have e : scrB s = false := by rw [E, h1, h2, h3, h4, h5, h6, h7, h8, h9, h10, h11, h12]; simp
    rw [e]
    exact isScreen_no12 s ac cc ah dh w ha hb hcl hhl htl h1 h2 h3 h4 h5 h6 h7 h8 h9 h10 h11 h12
  cases h13 : (!s.cells.any ncB)
  · have e : scrB s = false := by rw [E, h1, h2, h3, h4, h5, h6, h7, h8, h9, h10, h11, h12, h13]; simp
    rw [e]
    exact isScreen_no13 s ac cc ah dh w ha hb hcl hhl htl h1 h2 h3 h4 h5 h6 h7 h8 h9 h10 h11 h12 h13
  have e : scrB s = true := by rw [E, h1, h2, h3, h4, h5, h6, h7, h8, h9, h10, h11, h12, h13]; simp
  rw [e]
  exact isScreen_yes s ac cc ah dh w ha hb hcl hhl htl h1 h2 h3 h4 h5 h6 h7 h8 h9 h10 h11 h12 h13
end
section
open Go.RowKit
theorem screenText_c (s : Scr) (HO : ScrOK s) (ac : Option Addr) (cc : Nat) (ah : Option Addr) (dh : Nat) (w : World) (ha : Sl celE 2 w ac s.cells) (hb : Sl strE 1 w ah s.hist) (hcc : s.cells.length ≤ cc) :
    Calls Try.prog 14 #[.agg #[.int .i64 (s.w : Int), .int .i64 (s.h : Int), .int .i64 (s.x : Int), .int .i64 (s.y : Int), .int .i64 (s.look : Int), .int .i64 (s.top : Int), .int .i64 (s.bot : Int), .int .i64 (s.sx : Int), .int .i64 (s.sy : Int), .string s.title, .slice ac s.cells.length cc, .slice ah s.hist.length dh]] w fun e w' => e = .returned (.string (strOf (scrText s.i))) ∧ Below w.heap.size w w' := by
  have HA := Lib.hid ha
  have HBB := Lib.hid hb
  have HOK := Lib.hid HO
  have HBS := Lib.hid ((scrB_iff _).1 HO.b)
  have HFH : Hid (fldV s.hist = (fldL s.hist, 0)) := Lib.hid (fldV_ok (by have := HO.hn; omega) (fun r hr => by have := HO.hs r hr; omega) (by have := HBS.out.histLen; simp only [Scr.i] at this; omega))
  have HN9 : Hid (∀ x ∈ nineL s.i, -1 ≤ x ∧ x ≤ 1099511627775) := Lib.hid (fun x hx => by have := HBS.out.nine x hx; omega)
  obtain ⟨N9, hN9⟩ : ∃ t, strOf (numL (nineL s.i)) = t := ⟨_, rfl⟩
  obtain ⟨HH, hHH⟩ : ∃ t, strOf (fldL s.hist) = t := ⟨_, rfl⟩
  have HNU : Hid (∀ W a, Sl intE 1 W a (nineL s.i) → Calls Try.prog 32 #[.slice a 9 9] W fun e w' => e = .returned (.string N9) ∧ Below W.heap.size W w') := Lib.hid (fun W a h => by rw [← hN9]; exact numbersOf_c a 9 (nineL s.i) W h (by simp [nineL]) HN9.out)
  have HFI : Hid (∀ W, Below w.heap.size w W → Calls Try.prog 33 #[.slice ah s.hist.length dh] W fun e w' => e = .returned (.string HH) ∧ Below W.heap.size W w') := Lib.hid (fun W h => by
    have := fields_c ah dh s.hist W (HBB.out.keep h) (by have := HOK.out.hn; omega)
    rw [HFH.out] at this
    rw [← hHH]
    exact this)
  have HFS : Hid (fldV (N9 :: s.title :: HH :: rowsL s.i s.h) = (fldL (N9 :: s.title :: HH :: rowsL s.i s.h), 0)) := Lib.hid (by
    rw [← hN9, ← hHH]
    show fldV (scrFs s.i) = (fldL (scrFs s.i), 0)
    refine fldV_ok ?_ (fun r hr => by have := HBS.out.fs r hr; omega) (by have := HBS.out.text; unfold scrText at this; omega)
    rw [scrFs_length]
    have := HOK.out.h2
    simp only [Scr.i]
    omega)
  have HRX : Hid (∀ r ∈ rowsL s.i s.h, r.size ≤ 600) := Lib.hid (fun r hr => HBS.out.fs r (by simp only [scrFs, List.mem_cons]; exact .inr (.inr (.inr hr))))
  have HX : Hid (scrText s.i = fldL (N9 :: s.title :: HH :: rowsL s.i s.h)) := Lib.hid (by rw [← hN9, ← hHH]; rfl)
  rw [HX.out]
  clear ha hb HO hN9 hHH
  obtain ⟨i0, hi, hz0, hz1, hz2⟩ := info_parts Try.infoString
  go_enter Try.func14, Try.ntmps14
  go_upto_region 1 with fail
  obtain ⟨x0, hx0⟩ : ∃ x, w.alloc (.cells #[.int .i64 (s.w : Int), .int .i64 (s.h : Int), .int .i64 (s.x : Int), .int .i64 (s.y : Int), .int .i64 (s.look : Int), .int .i64 (s.top : Int), .int .i64 (s.bot : Int), .int .i64 (s.sx : Int), .int .i64 (s.sy : Int), .string s.title, .slice ac s.cells.length cc, .slice ah s.hist.length dh] 26) = x := ⟨_, rfl⟩
  have HB0 : Hid (Below w.heap.size w x0) := Lib.hid (by rw [← hx0]; exact (Below.refl _ _).alloc (Nat.le_refl _) _)
  have k_0 : x0.cell? ⟨w.heap.size, 0, none⟩ = some (.int .i64 (s.w : Int)) := by rw [← hx0]; simp [go_sem]
  have k_1 : x0.cell? ⟨w.heap.size, 1, none⟩ = some (.int .i64 (s.h : Int)) := by rw [← hx0]; simp [go_sem]
  have k_2 : x0.cell? ⟨w.heap.size, 2, none⟩ = some (.int .i64 (s.x : Int)) := by rw [← hx0]; simp [go_sem]
  have k_3 : x0.cell? ⟨w.heap.size, 3, none⟩ = some (.int .i64 (s.y : Int)) := by rw [← hx0]; simp [go_sem]
  have k_4 : x0.cell? ⟨w.heap.size, 4, none⟩ = some (.int .i64 (s.look : Int)) := by rw [← hx0]; simp [go_sem]
  have k_5 : x0.cell? ⟨w.heap.size, 5, none⟩ = some (.int .i64 (s.top : Int)) := by rw [← hx0]; simp [go_sem]
  have k_6 : x0.cell? ⟨w.heap.size, 6, none⟩ = some (.int .i64 (s.bot : Int)) := by rw [← hx0]; simp [go_sem]
  have k_7 : x0.cell? ⟨w.heap.size, 7, none⟩ = some (.int .i64 (s.sx : Int)) := by rw [← hx0]; simp [go_sem]
  have k_8 : x0.cell? ⟨w.heap.size, 8, none⟩ = some (.int .i64 (s.sy : Int)) := by rw [← hx0]; simp [go_sem]
  have k_9 : x0.cell? ⟨w.heap.size, 9, none⟩ = some (.string s.title) := by rw [← hx0]; simp [go_sem]
  have k_10 : x0.cell? ⟨w.heap.size, 10, none⟩ = some (.slice ac s.cells.length cc) := by rw [← hx0]; simp [go_sem]
  have k_11 : x0.cell? ⟨w.heap.size, 11, none⟩ = some (.slice ah s.hist.length dh) := by rw [← hx0]; simp [go_sem]
  have k_l : w.heap.size < x0.heap.size := by rw [← hx0]; simp
  have HXS : Hid (x0.heap.size = w.heap.size + 1) := Lib.hid (by rw [← hx0]; simp)
  rw [hx0]
  clear hx0
  have HSB : Hid (∀ x, Below x0.heap.size x0 x → x.cell? ⟨w.heap.size, 0, none⟩ = some (.int .i64 (s.w : Int)) ∧ x.cell? ⟨w.heap.size, 1, none⟩ = some (.int .i64 (s.h : Int)) ∧ x.cell? ⟨w.heap.size, 2, none⟩ = some (.int .i64 (s.x : Int)) ∧ x.cell? ⟨w.heap.size, 3, none⟩ = some (.int .i64 (s.y : Int)) ∧ x.cell? ⟨w.heap.size, 4, none⟩ = some (.int .i64 (s.look : Int)) ∧ x.cell? ⟨w.heap.size, 5, none⟩ = some (.int .i64 (s.top : Int)) ∧ x.cell? ⟨w.heap.size, 6, none⟩ = some (.int .i64 (s.bot : Int)) ∧ x.cell? ⟨w.heap.size, 7, none⟩ = some (.int .i64 (s.sx : Int)) ∧ x.cell? ⟨w.heap.size, 8, none⟩ = some (.int .i64 (s.sy : Int)) ∧ x.cell? ⟨w.heap.size, 9, none⟩ = some (.string s.title) ∧ x.cell? ⟨w.heap.size, 11, none⟩ = some (.slice ah s.hist.length dh)) := Lib.hid (fun x h => ⟨(h.cell (p := ⟨w.heap.size, 0, none⟩) k_l).trans k_0, (h.cell (p := ⟨w.heap.size, 1, none⟩) k_l).trans k_1, (h.cell (p := ⟨w.heap.size, 2, none⟩) k_l).trans k_2, (h.cell (p := ⟨w.heap.size, 3, none⟩) k_l).trans k_3, (h.cell (p := ⟨w.heap.size, 4, none⟩) k_l).trans k_4, (h.cell (p := ⟨w.heap.size, 5, none⟩) k_l).trans k_5, (h.cell (p := ⟨w.heap.size, 6, none⟩) k_l).trans k_6, (h.cell (p := ⟨w.heap.size, 7, none⟩) k_l).trans k_7, (h.cell (p := ⟨w.heap.size, 8, none⟩) k_l).trans k_8, (h.cell (p := ⟨w.heap.size, 9, none⟩) k_l).trans k_9, (h.cell (p := ⟨w.heap.size, 11, none⟩) k_l).trans k_11⟩)
  have hS0 := HSB.out x0 (Below.refl _ _)
  refine wp_region_G (fun w' => w'.cell? ⟨w.heap.size, 0, none⟩ = some (.int .i64 (s.w : Int)) ∧ w'.cell? ⟨w.heap.size, 1, none⟩ = some (.int .i64 (s.h : Int)) ∧ w'.cell? ⟨w.heap.size, 2, none⟩ = some (.int .i64 (s.x : Int)) ∧ w'.cell? ⟨w.heap.size, 3, none⟩ = some (.int .i64 (s.y : Int)) ∧ w'.cell? ⟨w.heap.size, 4, none⟩ = some (.int .i64 (s.look : Int)) ∧ w'.cell? ⟨w.heap.size, 5, none⟩ = some (.int .i64 (s.top : Int)) ∧ w'.cell? ⟨w.heap.size, 6, none⟩ = some (.int .i64 (s.bot : Int)) ∧ w'.cell? ⟨w.heap.size, 7, none⟩ = some (.int .i64 (s.sx : Int)) ∧ w'.cell? ⟨w.heap.size, 8, none⟩ = some (.int .i64 (s.sy : Int)) ∧ w'.cell? ⟨w.heap.size, 9, none⟩ = some (.string s.title) ∧ w'.cell? ⟨w.heap.size, 11, none⟩ = some (.slice ah s.hist.length dh)) (fun i => false) (by kernel_rfl) hS0 ?_
  refine tW ?_ 0 rfl ?_ ?_; rotate_left
  · intro w' hSw; go_simp; try rfl
  try simp only [Act.put,j1,j2,j3,j4,j5,j6]
  refine tL ?_ 1 rfl hS0 ?_ ?_; rotate_left
  · intro w' hSw; obtain ⟨s0, s1, s2, s3, s4, s5, s6, s7, s8, s9, s11⟩ := hSw; go_simp; try rfl
  try simp only [Act.put,j1,j2,j3,j4,j5,j6]
  refine tW ?_ 2 rfl ?_ ?_; rotate_left
  · intro w' hSw; go_simp; try rfl
  try simp only [Act.put,j1,j2,j3,j4,j5,j6]
  refine tL ?_ 3 rfl hS0 ?_ ?_; rotate_left
  · intro w' hSw; obtain ⟨s0, s1, s2, s3, s4, s5, s6, s7, s8, s9, s11⟩ := hSw; go_simp; try rfl
  try simp only [Act.put,j1,j2,j3,j4,j5,j6]
  refine tW ?_ 4 rfl ?_ ?_; rotate_left
  · intro w' hSw; go_simp; try rfl
  try simp only [Act.put,j1,j2,j3,j4,j5,j6]
  refine tL ?_ 5 rfl hS0 ?_ ?_; rotate_left
  · intro w' hSw; obtain ⟨s0, s1, s2, s3, s4, s5, s6, s7, s8, s9, s11⟩ := hSw; go_simp; try rfl
  try simp only [Act.put,j1,j2,j3,j4,j5,j6]
  refine tW ?_ 6 rfl ?_ ?_; rotate_left
  · intro w' hSw; go_simp; try rfl
  try simp only [Act.put,j1,j2,j3,j4,j5,j6]
  refine tL ?_ 7 rfl hS0 ?_ ?_; rotate_left
  · intro w' hSw; obtain ⟨s0, s1, s2, s3, s4, s5, s6, s7, s8, s9, s11⟩ := hSw; go_simp; try rfl
  try simp only [Act.put,j1,j2,j3,j4,j5,j6]
  refine tW ?_ 8 rfl ?_ ?_; rotate_left
  · intro w' hSw; go_simp; try rfl
  try simp only [Act.put,j1,j2,j3,j4,j5,j6]
  refine tL ?_ 9 rfl hS0 ?_ ?_; rotate_left
  · intro w' hSw; obtain ⟨s0, s1, s2, s3, s4, s5, s6, s7, s8, s9, s11⟩ := hSw; go_simp; try rfl
  try simp only [Act.put,j1,j2,j3,j4,j5,j6]
  refine tW ?_ 10 rfl ?_ ?_; rotate_left
  · intro w' hSw; go_simp; try rfl
  try simp only [Act.put,j1,j2,j3,j4,j5,j6]
  refine tL ?_ 11 rfl hS0 ?_ ?_; rotate_left
  · intro w' hSw; obtain ⟨s0, s1, s2, s3, s4, s5, s6, s7, s8, s9, s11⟩ := hSw; go_simp; try rfl
  try simp only [Act.put,j1,j2,j3,j4,j5,j6]
  refine tW ?_ 12 rfl ?_ ?_; rotate_left
  · intro w' hSw; go_simp; try rfl
  try simp only [Act.put,j1,j2,j3,j4,j5,j6]
  refine tL ?_ 13 rfl hS0 ?_ ?_; rotate_left
  · intro w' hSw; obtain ⟨s0, s1, s2, s3, s4, s5, s6, s7, s8, s9, s11⟩ := hSw; go_simp; try rfl
  try simp only [Act.put,j1,j2,j3,j4,j5,j6]
  refine tW ?_ 14 rfl ?_ ?_; rotate_left
  · intro w' hSw; go_simp; try rfl
  try simp only [Act.put,j1,j2,j3,j4,j5,j6]
  refine tL ?_ 15 rfl hS0 ?_ ?_; rotate_left
  · intro w' hSw; obtain ⟨s0, s1, s2, s3, s4, s5, s6, s7, s8, s9, s11⟩ := hSw; go_simp; try rfl
  try simp only [Act.put,j1,j2,j3,j4,j5,j6]
  refine tW ?_ 16 rfl ?_ ?_; rotate_left
  · intro w' hSw; go_simp; try rfl
  try simp only [Act.put,j1,j2,j3,j4,j5,j6]
  refine tL ?_ 17 rfl hS0 ?_ ?_; rotate_left
  · intro w' hSw; obtain ⟨s0, s1, s2, s3, s4, s5, s6, s7, s8, s9, s11⟩ := hSw; go_simp; try rfl
  try simp only [Act.put,j1,j2,j3,j4,j5,j6]
  refine tW ?_ 20 rfl ?_ ?_; rotate_left
  · intro w' hSw; go_simp; try rfl
  try simp only [Act.put,j1,j2,j3,j4,j5,j6]
  refine tL ?_ 21 rfl hS0 ?_ ?_; rotate_left
  · intro w' hSw; obtain ⟨s0, s1, s2, s3, s4, s5, s6, s7, s8, s9, s11⟩ := hSw; go_simp; try rfl
  try simp only [Act.put,j1,j2,j3,j4,j5,j6]
  refine tW ?_ 22 rfl ?_ ?_; rotate_left
  · intro w' hSw; go_simp; try rfl
  try simp only [Act.put,j1,j2,j3,j4,j5,j6]
  refine tL ?_ 23 rfl hS0 ?_ ?_; rotate_left
  · intro w' hSw; obtain ⟨s0, s1, s2, s3, s4, s5, s6, s7, s8, s9, s11⟩ := hSw; go_simp; try rfl
  try simp only [Act.put,j1,j2,j3,j4,j5,j6]
  refine wpAnyG_one (i := 18) (by kernel_rfl) rfl hS0 (fun K' hK => ?_)
  simp only [j1,j2,j3]
  go_simp
  obtain ⟨x1, hx1⟩ : ∃ x, (x0.alloc (.cells #[.int .i64 (s.w : Int), .int .i64 (s.h : Int), .int .i64 (s.x : Int), .int .i64 (s.y : Int), .int .i64 (s.look : Int), .int .i64 (s.top : Int), .int .i64 (s.bot : Int), .int .i64 (s.sx : Int), .int .i64 (s.sy : Int)] 3)).drew = x := ⟨_, rfl⟩
  have HB1 : Hid (Below x0.heap.size x0 x1) := Lib.hid (by rw [← hx1]; exact ((Below.refl _ _).alloc (Nat.le_refl _) _).drew)
  have HS1 : Hid (Sl intE 1 x1 (some ⟨x0.heap.size, 0, none⟩) (nineL s.i)) := Lib.hid (by rw [← hx1]; exact boxL' (enc := intE) (w := x0.drew) (fun _ => rfl) (nineL s.i) _ _ (by simp [nineL, intE, Scr.i]) _ (by simp))
  rw [hx1]
  clear hx1
  refine hK.out _ _ (Or.inr (HSB.out x1 HB1.out)) ?_
  clear hK K'
  try simp only [Act.put,j1,j2,j3,j4,j5,j6]
  refine wpAnyG_one (i := 19) (by kernel_rfl) rfl ((HSB.out x1 HB1.out)) (fun K' hK => ?_)
  simp only [j1,j2,j3]
  go_simp
  go_at_call 32
  refine (HNU.out _ _ HS1.out).mono ?_
  rintro e x2 ⟨rfl, hbc⟩
  have HB2 : Hid (Below x0.heap.size x0 x2) := Lib.hid (HB1.out.trans (hbc.mono HB1.out.size))
  clear hbc
  refine hK.out _ _ (Or.inr (HSB.out x2 HB2.out)) ?_
  clear hK K'
  try simp only [Act.put,j1,j2,j3,j4,j5,j6]
  refine wpAnyG_one (i := 24) (by kernel_rfl) rfl ((HSB.out x2 HB2.out)) (fun K' hK => ?_)
  simp only [j1,j2,j3]
  go_simp
  go_at_call 33
  refine (HFI.out _ (HB0.out.trans (HB2.out.mono HB0.out.size))).mono ?_
  rintro e x3 ⟨rfl, hbc⟩
  have HB3 : Hid (Below x0.heap.size x0 x3) := Lib.hid (HB2.out.trans (hbc.mono HB2.out.size))
  clear hbc
  refine hK.out _ _ (Or.inr (HSB.out x3 HB3.out)) ?_
  clear hK K'
  try simp only [Act.put,j1,j2,j3,j4,j5,j6]
  refine wpAnyG_one (i := 25) (by kernel_rfl) rfl ((HSB.out x3 HB3.out)) (fun K' hK => ?_)
  simp only [j1,j2,j3]
  go_simp
  obtain ⟨x4, hx4⟩ : ∃ x, x3.alloc (.cells #[.string N9, .string s.title, .string HH] 9) = x := ⟨_, rfl⟩
  have HB4 : Hid (Below x0.heap.size x0 x4) := Lib.hid (by rw [← hx4]; exact HB3.out.alloc HB3.out.size _)
  have HF4 : Hid (FreshIn strE 9 1 (w.heap.size + 1) x4.heap.size (.slice (some ⟨x3.heap.size, 0, none⟩) 3 3) [N9, s.title, HH] x4) := Lib.hid (by rw [← hx4]; exact FreshIn.of_owns (cs := [.string N9, .string s.title, .string HH]) ⟨rfl, .inr ⟨x3.heap.size, 3, _, rfl, by have := HB3.out.size; omega, heap_alloc_new x3 _, Nat.le_refl _, by unfold maxLen; omega, rfl, by simp⟩⟩ rfl (by simp [strE]) (by simp))
  rw [hx4]
  clear hx4
  refine hK.out _ _ (Or.inr (HSB.out x4 HB4.out)) ?_
  clear hK K'
  try simp only [Act.put,j1,j2,j3,j4,j5,j6]
  refine tW ?_ 26 rfl ?_ ?_; rotate_left
  · intro w' hSw; go_simp; try rfl
  try simp only [Act.put,j1,j2,j3,j4,j5,j6]
  refine wpAnyG_done (by kernel_rfl) ?_ _
  have e_1 := kC HB4.out k_l k_1
  have HSX : Hid (∀ x, Below x0.heap.size x0 x → x.cell? ⟨w.heap.size, 0, none⟩ = some (.int .i64 (s.w : Int)) ∧ x.cell? ⟨w.heap.size, 10, none⟩ = some (.slice ac s.cells.length cc) ∧ Sl celE 2 x ac s.cells ∧ w.heap.size < x.heap.size) := Lib.hid (fun x h => ⟨(h.cell (p := ⟨w.heap.size, 0, none⟩) k_l).trans k_0, (h.cell (p := ⟨w.heap.size, 10, none⟩) k_l).trans k_10, HA.out.keep (HB0.out.trans (h.mono HB0.out.size)), Nat.lt_of_lt_of_le k_l h.size⟩)
  have k_lx : w.heap.size < x0.heap.size := k_l
  clear hS0 HSB k_0 k_1 k_2 k_3 k_4 k_5 k_6 k_7 k_8 k_9 k_10 k_11
  obtain ⟨ht, hht⟩ : ∃ n, s.h = n := ⟨_, rfl⟩
  obtain ⟨wd, hwd⟩ : ∃ n, s.w = n := ⟨_, rfl⟩
  obtain ⟨n, hn⟩ : ∃ n, s.cells.length = n := ⟨_, rfl⟩
  have hh2 : ht ≤ 10 := by rw [← hht]; exact HOK.out.h2
  have hw2 : wd ≤ 24 := by rw [← hwd]; exact HOK.out.w2
  have hw1 : 2 ≤ wd := by rw [← hwd]; exact HOK.out.w1
  have HNW : Hid (n = ht * wd) := Lib.hid (by rw [← hn, ← hht, ← hwd, HOK.out.cn, Nat.mul_comm])
  have HHT := Lib.hid hht
  have HWD := Lib.hid hwd
  have HNN := Lib.hid hn
  rw [hwd, hn] at HSX
  rw [hht] at e_1
  rw [hht]
  rw [hn] at hcc
  clear hht hwd hn
  go_wp2_with fail
  go_loopw [3, 33] (fun v i wr => ∃ (k : Nat) (av : Option Addr) (cv : Nat) (L : List ByteArray), k ≤ ht ∧ i = .int .i64 k ∧ v = .slice av L.length cv ∧ L.length ≤ 13 ∧ Hid (L = [N9, s.title, HH] ++ rowsL s.i k ∧ FreshIn strE 9 1 (w.heap.size + 1) wr.heap.size (.slice av L.length cv) L wr ∧ Below x0.heap.size x0 wr)) (fun _ i _ => ht - (intOf i).toNat)
  case atStart => exact ⟨0, _, _, [N9, s.title, HH], Nat.zero_le _, rfl, rfl, by simp, Lib.hid ⟨by simp [rowsL], HF4.out, HB4.out⟩⟩
  case round =>
    obtain ⟨k, av, cv, L, hk, rfl, rfl, hL13, HQ⟩ := hrel
    by_cases hlt : k < ht
    · have hlt' : (k : Int) < (ht : Int) := by omega
      obtain ⟨p, hp⟩ : ∃ p, k * wd = p := ⟨_, rfl⟩
      obtain ⟨q, hq⟩ : ∃ q, (k + 1) * wd = q := ⟨_, rfl⟩
      have hpi : (k : Int) * (wd : Int) = (p : Int) := by rw [← hp]; exact (Int.natCast_mul k wd).symm
      have hqi : ((k : Int) + 1) * (wd : Int) = (q : Int) := by rw [← hq]; exact (Int.natCast_mul (k + 1) wd).symm
      have HPQ : Hid (q = p + wd) := Lib.hid (by rw [← hq, ← hp, Nat.succ_mul])
      have hqn : q ≤ n := by rw [HNW.out, ← hq]; exact Nat.mul_le_mul_right _ hlt
      have hn240 : n ≤ 240 := by rw [HNW.out]; exact Nat.mul_le_mul hh2 hw2
      have hpq : p ≤ q := by have := HPQ.out; omega
      have hpq' : p < q := by have := HPQ.out; omega
      have hcp : ¬ cc = p := by omega
      obtain ⟨k_0, k_10, hsl, k_l⟩ := HSX.out wr HQ.out.2.2
      have HSL := Lib.hid hsl
      have h0 : p < s.cells.length := by rw [HNN.out]; omega
      obtain ⟨b1, o1, rfl, hb1, _⟩ := hsl.at h0
      have HP := Lib.hid hp
      clear hp hq hsl h0
      obtain ⟨row, hrow⟩ : ∃ r, rowI s.i k = r := ⟨_, rfl⟩
      have HRW : Hid (rowsL s.i (k + 1) = rowsL s.i k ++ [strOf (celL row)]) := Lib.hid (by rw [← hrow]; simp [rowsL, List.range_succ])
      have HRC : Hid (∀ c ∈ row, 0 ≤ c.1 ∧ c.1 < 16777216 ∧ 0 ≤ c.2 ∧ c.2 < 256) := Lib.hid (by rw [← hrow]; exact HBS.out.rowCs k)
      have HRD : Hid (row = (s.cells.drop p).take wd) := Lib.hid (by rw [← hrow]; simp only [rowI, Scr.i, Int.toNat_natCast, HWD.out, HP.out])
      have HRL : Hid (row.length = q - p) := Lib.hid (by rw [HRD.out, List.length_take, List.length_drop, HNN.out]; have := HPQ.out; omega)
      obtain ⟨R, hR⟩ : ∃ R, strOf (celL row) = R := ⟨_, rfl⟩
      have HCT : Hid (∀ W, Below wr.heap.size wr W → Calls Try.prog 34 #[.slice (some ⟨b1, o1 + p * 2, none⟩) (q - p) (cc - p)] W fun e w' => e = .returned (.string R) ∧ Below W.heap.size W w') := Lib.hid (fun W hW => by
        have h1 : Sl celE 2 wr (some ⟨b1, o1 + p * 2, none⟩) row := by rw [HRD.out]; exact Sl.sub HSL.out p wd (by rw [HNN.out]; omega)
        have h2 := cellsText_c (some ⟨b1, o1 + p * 2, none⟩) (cc - p) row W (h1.keep hW) (by rw [HRL.out]; omega) HRC.out
        rw [HRL.out, hR] at h2
        exact h2)
      rw [hR] at HRW
      clear hrow hR
      have HZ : Hid (L.length + 1 ≤ 13) := Lib.hid (by rw [HQ.out.1]; simp [rowsL]; omega)
      go_upto_region 5 with fail
      go_wp2_with fail
      refine (HCT.out wr (Below.refl _ _)).mono ?_
      rintro e w2 ⟨rfl, hb2⟩
      have HB2' := Lib.hid hb2
      have hzq := hb2.size
      have hzb := HQ.out.2.2.size
      have hzo : w.heap.size < x0.heap.size := k_lx
      have HF2 : Hid (FreshIn strE 9 1 (w.heap.size + 1) w2.heap.size (.slice av L.length cv) L w2) := Lib.hid ((HQ.out.2.1.below hb2).mono (Nat.le_refl _) hzq)
      clear hb2
      go_wp2_with (first
        | (skip
           at_builtin
           refine wpList_append_fresh rfl (.tmp 36) (.tmp 50) 24 24 rfl (w.heap.size + 1) (w2.heap.size) 9 i0 (.string ⟨#[]⟩) 1 16 Try.underlying24 hi hz0 hz1 hz2 rfl (by decide) (.slice av L.length cv) (L) rfl (HF2.out.alloc _) _ ([R]) rfl (Src.ofBox (enc := strE) (w := w2) Try.underlying24 (fun _ => rfl) strOneC R #[.string R] 9 rfl w2.heap.size rfl) (by (try simp) <;> (try omega)) (by (try simp) <;> (try omega)) ?_
           intro a3 c3 w3 L3 hL3 hf3 hm3
           skip))
      go_roundw
      case rel =>
        have e3 : L3 = [N9, s.title, HH] ++ rowsL s.i (k + 1) := by rw [hL3.out, HQ.out.1, HRW.out, List.append_assoc]
        refine ⟨k + 1, a3, c3, L3, by omega, by go_num, rfl, by rw [hL3.out, List.length_append]; exact HZ.out, Lib.hid ⟨e3, hf3.1.here, ?_⟩⟩
        exact (HQ.out.2.2.trans ((HB2'.out.alloc hzq _).mono hzb)).trans (hm3.below (B := x0.heap.size) (by have := HXS.out; omega) (by simp; omega))
      case measure => simp [intOf]; omega
    · obtain rfl : k = ht := by omega
      have HLE : Hid (L = N9 :: s.title :: HH :: rowsL s.i s.h) := Lib.hid (by rw [HQ.out.1, HHT.out]; rfl)
      have HFV : Hid (fldV L = (fldL (N9 :: s.title :: HH :: rowsL s.i s.h), 0)) := Lib.hid (by rw [HLE.out]; exact HFS.out)
      obtain ⟨T, hT⟩ : ∃ T, fldL (N9 :: s.title :: HH :: rowsL s.i s.h) = T := ⟨_, rfl⟩
      rw [hT] at HFV
      have HT := Lib.hid hT
      clear hT
      go_wp2_with fail
      refine (fields_c av cv L wr (HQ.out.2.1.sl (fun _ => rfl)) (by omega)).mono ?_
      rw [HFV.out]
      rintro e w2 ⟨rfl, hb2⟩
      have HB2' := Lib.hid hb2
      clear hb2
      go_wp2_with fail
      go_ret
      exact ⟨by rw [HT.out]; rfl, HB0.out.trans ((HQ.out.2.2.trans (HB2'.out.mono HQ.out.2.2.size)).mono HB0.out.size)⟩
end
section
open Go.RowKit
theorem convT {a : Option Addr} {ca : Nat} {xs : List UInt8} {w : World} (ha : Sl byteE 1 w a xs) : (convert 22 9 (.slice a xs.length ca)).run Try.prog w = .ok (.string (strOf xs)) w := convS ha
theorem l04Bytes_c (s : Scr) (HO : ScrOK s) (ac : Option Addr) (cc : Nat) (ah : Option Addr) (dh : Nat) (w : World) (h : ScrS s ac ah w) :
    Calls Try.prog 16 #[scrV s ac cc ah dh] w fun e w' => e = .returned (.string (strOf (scrText s.i))) ∧ Below w.heap.size w w' := by
  obtain ⟨ha, hb⟩ := id h
  have HRS := Lib.hid h
  unfold scrV
  have HA := Lib.hid ha
  have HBB := Lib.hid hb
  have HOK := Lib.hid HO
  have HBS := Lib.hid ((scrB_iff _).1 HO.b)
  have HN9 : Hid (∀ x ∈ nineL s.i, -1 ≤ x ∧ x ≤ 1099511627775) := Lib.hid (fun x hx => by have := HBS.out.nine x hx; omega)
  obtain ⟨NL, hNL⟩ : ∃ t, numL (nineL s.i) = t := ⟨_, rfl⟩
  obtain ⟨HL, hHL⟩ : ∃ t, fldL s.hist = t := ⟨_, rfl⟩
  obtain ⟨N9, hN9⟩ : ∃ t, strOf NL = t := ⟨_, rfl⟩
  obtain ⟨HH, hHH⟩ : ∃ t, strOf HL = t := ⟨_, rfl⟩
  have hnl : NL.length ≤ 27 := by rw [← hNL, numL_length]; simp [nineL]
  have hhl : HL.length ≤ 600 := by rw [← hHL]; have := HBS.out.histLen; simp only [Scr.i] at this; omega
  have HNU : Hid (∀ W a, Sl intE 1 W a (nineL s.i) → Calls Try.prog 38 #[.slice a 9 9] W (FreshR byteE 5 1 W NL)) := Lib.hid (fun W a h => by rw [← hNL]; exact l02Numbers_c a 9 (nineL s.i) W h (by simp [nineL]) HN9.out)
  have HFI : Hid (∀ W, Below w.heap.size w W → Calls Try.prog 39 #[.slice ah s.hist.length dh] W (FreshR byteE 5 1 W HL)) := Lib.hid (fun W h => by
    rw [← hHL]
    exact l02Fields_c ah dh s.hist W (HBB.out.keep h) (by have := HOK.out.hn; omega) (fun r hr => by have := HOK.out.hs r hr; omega))
  have HFS : Hid (∀ r ∈ N9 :: s.title :: HH :: rowsL s.i s.h, r.size ≤ 600) := Lib.hid (by
    rw [← hN9, ← hHH, ← hNL, ← hHL]
    exact HBS.out.fs)
  have HX : Hid (scrText s.i = fldL (N9 :: s.title :: HH :: rowsL s.i s.h)) := Lib.hid (by rw [← hN9, ← hHH, ← hNL, ← hHL]; rfl)
  have HNS := Lib.hid hN9
  have HHS := Lib.hid hHH
  rw [HX.out]
  clear ha hb HO hN9 hHH hNL hHL h
  obtain ⟨i0, hi, hz0, hz1, hz2⟩ := info_parts Try.infoString
  go_enter Try.func16, Try.ntmps16
  go_upto_region 1 with fail
  obtain ⟨x0, hx0⟩ : ∃ x, w.alloc (.cells #[.int .i64 (s.w : Int), .int .i64 (s.h : Int), .int .i64 (s.x : Int), .int .i64 (s.y : Int), .int .i64 (s.look : Int), .int .i64 (s.top : Int), .int .i64 (s.bot : Int), .int .i64 (s.sx : Int), .int .i64 (s.sy : Int), .string s.title, .slice ac s.cells.length cc, .slice ah s.hist.length dh] 26) = x := ⟨_, rfl⟩
  have HB0 : Hid (Below w.heap.size w x0) := Lib.hid (by rw [← hx0]; exact (Below.refl _ _).alloc (Nat.le_refl _) _)
  have k_0 : x0.cell? ⟨w.heap.size, 0, none⟩ = some (.int .i64 (s.w : Int)) := by rw [← hx0]; simp [go_sem]
  have k_1 : x0.cell? ⟨w.heap.size, 1, none⟩ = some (.int .i64 (s.h : Int)) := by rw [← hx0]; simp [go_sem]
  have k_2 : x0.cell? ⟨w.heap.size, 2, none⟩ = some (.int .i64 (s.x : Int)) := by rw [← hx0]; simp [go_sem]
  have k_3 : x0.cell? ⟨w.heap.size, 3, none⟩ = some (.int .i64 (s.y : Int)) := by rw [← hx0]; simp [go_sem]
  have k_4 : x0.cell? ⟨w.heap.size, 4, none⟩ = some (.int .i64 (s.look : Int)) := by rw [← hx0]; simp [go_sem]
  have k_5 : x0.cell? ⟨w.heap.size, 5, none⟩ = some (.int .i64 (s.top : Int)) := by rw [← hx0]; simp [go_sem]
  have k_6 : x0.cell? ⟨w.heap.size, 6, none⟩ = some (.int .i64 (s.bot : Int)) := by rw [← hx0]; simp [go_sem]
  have k_7 : x0.cell? ⟨w.heap.size, 7, none⟩ = some (.int .i64 (s.sx : Int)) := by rw [← hx0]; simp [go_sem]
  have k_8 : x0.cell? ⟨w.heap.size, 8, none⟩ = some (.int .i64 (s.sy : Int)) := by rw [← hx0]; simp [go_sem]
  have k_9 : x0.cell? ⟨w.heap.size, 9, none⟩ = some (.string s.title) := by rw [← hx0]; simp [go_sem]
  have k_10 : x0.cell? ⟨w.heap.size, 10, none⟩ = some (.slice ac s.cells.length cc) := by rw [← hx0]; simp [go_sem]
  have k_11 : x0.cell? ⟨w.heap.size, 11, none⟩ = some (.slice ah s.hist.length dh) := by rw [← hx0]; simp [go_sem]
  have k_l : w.heap.size < x0.heap.size := by rw [← hx0]; simp
  have HXS : Hid (x0.heap.size = w.heap.size + 1) := Lib.hid (by rw [← hx0]; simp)
  rw [hx0]
  clear hx0
  have HSB : Hid (∀ x, Below x0.heap.size x0 x → x.cell? ⟨w.heap.size, 0, none⟩ = some (.int .i64 (s.w : Int)) ∧ x.cell? ⟨w.heap.size, 1, none⟩ = some (.int .i64 (s.h : Int)) ∧ x.cell? ⟨w.heap.size, 2, none⟩ = some (.int .i64 (s.x : Int)) ∧ x.cell? ⟨w.heap.size, 3, none⟩ = some (.int .i64 (s.y : Int)) ∧ x.cell? ⟨w.heap.size, 4, none⟩ = some (.int .i64 (s.look : Int)) ∧ x.cell? ⟨w.heap.size, 5, none⟩ = some (.int .i64 (s.top : Int)) ∧ x.cell? ⟨w.heap.size, 6, none⟩ = some (.int .i64 (s.bot : Int)) ∧ x.cell? ⟨w.heap.size, 7, none⟩ = some (.int .i64 (s.sx : Int)) ∧ x.cell? ⟨w.heap.size, 8, none⟩ = some (.int .i64 (s.sy : Int)) ∧ x.cell? ⟨w.heap.size, 9, none⟩ = some (.string s.title) ∧ x.cell? ⟨w.heap.size, 11, none⟩ = some (.slice ah s.hist.length dh)) := Lib.hid (fun x h => ⟨(h.cell (p := ⟨w.heap.size, 0, none⟩) k_l).trans k_0, (h.cell (p := ⟨w.heap.size, 1, none⟩) k_l).trans k_1, (h.cell (p := ⟨w.heap.size, 2, none⟩) k_l).trans k_2, (h.cell (p := ⟨w.heap.size, 3, none⟩) k_l).trans k_3, (h.cell (p := ⟨w.heap.size, 4, none⟩) k_l).trans k_4, (h.cell (p := ⟨w.heap.size, 5, none⟩) k_l).trans k_5, (h.cell (p := ⟨w.heap.size, 6, none⟩) k_l).trans k_6, (h.cell (p := ⟨w.heap.size, 7, none⟩) k_l).trans k_7, (h.cell (p := ⟨w.heap.size, 8, none⟩) k_l).trans k_8, (h.cell (p := ⟨w.heap.size, 9, none⟩) k_l).trans k_9, (h.cell (p := ⟨w.heap.size, 11, none⟩) k_l).trans k_11⟩)
  have hS0 := HSB.out x0 (Below.refl _ _)
  have HSX : Hid (∀ x, Below x0.heap.size x0 x → x.cell? ⟨w.heap.size, 0, none⟩ = some (.int .i64 (s.w : Int)) ∧ x.cell? ⟨w.heap.size, 1, none⟩ = some (.int .i64 (s.h : Int)) ∧ x.cell? ⟨w.heap.size, 2, none⟩ = some (.int .i64 (s.x : Int)) ∧ x.cell? ⟨w.heap.size, 3, none⟩ = some (.int .i64 (s.y : Int)) ∧ x.cell? ⟨w.heap.size, 4, none⟩ = some (.int .i64 (s.look : Int)) ∧ x.cell? ⟨w.heap.size, 5, none⟩ = some (.int .i64 (s.top : Int)) ∧ x.cell? ⟨w.heap.size, 6, none⟩ = some (.int .i64 (s.bot : Int)) ∧ x.cell? ⟨w.heap.size, 7, none⟩ = some (.int .i64 (s.sx : Int)) ∧ x.cell? ⟨w.heap.size, 8, none⟩ = some (.int .i64 (s.sy : Int)) ∧ x.cell? ⟨w.heap.size, 9, none⟩ = some (.string s.title) ∧ x.cell? ⟨w.heap.size, 10, none⟩ = some (.slice ac s.cells.length cc) ∧ x.cell? ⟨w.heap.size, 11, none⟩ = some (.slice ah s.hist.length dh)) := Lib.hid (fun x h => ⟨(h.cell (p := ⟨w.heap.size, 0, none⟩) k_l).trans k_0, (h.cell (p := ⟨w.heap.size, 1, none⟩) k_l).trans k_1, (h.cell (p := ⟨w.heap.size, 2, none⟩) k_l).trans k_2, (h.cell (p := ⟨w.heap.size, 3, none⟩) k_l).trans k_3, (h.cell (p := ⟨w.heap.size, 4, none⟩) k_l).trans k_4, (h.cell (p := ⟨w.heap.size, 5, none⟩) k_l).trans k_5, (h.cell (p := ⟨w.heap.size, 6, none⟩) k_l).trans k_6, (h.cell (p := ⟨w.heap.size, 7, none⟩) k_l).trans k_7, (h.cell (p := ⟨w.heap.size, 8, none⟩) k_l).trans k_8, (h.cell (p := ⟨w.heap.size, 9, none⟩) k_l).trans k_9, (h.cell (p := ⟨w.heap.size, 10, none⟩) k_l).trans k_10, (h.cell (p := ⟨w.heap.size, 11, none⟩) k_l).trans k_11⟩)
  have HSR : Hid (∀ x, Below x0.heap.size x0 x → ScrS s ac ah x ∧ w.heap.size < x.heap.size) := Lib.hid (fun x h => ⟨HRS.out.below (HB0.out.trans (h.mono HB0.out.size)), Nat.lt_of_lt_of_le k_l h.size⟩)
  go_cut [3] (fun v wx => ∃ g, v = .slice (some ⟨g, 0, none⟩) 3 3 ∧ Hid (Below x0.heap.size x0 wx ∧ FreshIn strE 9 1 (w.heap.size + 1) wx.heap.size (.slice (some ⟨g, 0, none⟩) 3 3) [N9, s.title, HH] wx))
  case first =>
    refine wp_region_G (fun w' => w'.cell? ⟨w.heap.size, 0, none⟩ = some (.int .i64 (s.w : Int)) ∧ w'.cell? ⟨w.heap.size, 1, none⟩ = some (.int .i64 (s.h : Int)) ∧ w'.cell? ⟨w.heap.size, 2, none⟩ = some (.int .i64 (s.x : Int)) ∧ w'.cell? ⟨w.heap.size, 3, none⟩ = some (.int .i64 (s.y : Int)) ∧ w'.cell? ⟨w.heap.size, 4, none⟩ = some (.int .i64 (s.look : Int)) ∧ w'.cell? ⟨w.heap.size, 5, none⟩ = some (.int .i64 (s.top : Int)) ∧ w'.cell? ⟨w.heap.size, 6, none⟩ = some (.int .i64 (s.bot : Int)) ∧ w'.cell? ⟨w.heap.size, 7, none⟩ = some (.int .i64 (s.sx : Int)) ∧ w'.cell? ⟨w.heap.size, 8, none⟩ = some (.int .i64 (s.sy : Int)) ∧ w'.cell? ⟨w.heap.size, 9, none⟩ = some (.string s.title) ∧ w'.cell? ⟨w.heap.size, 11, none⟩ = some (.slice ah s.hist.length dh)) (fun i => false) (by kernel_rfl) hS0 ?_
    refine tW ?_ 0 rfl ?_ ?_; rotate_left
    · intro w' hSw; go_simp; try rfl
    try simp only [Act.put,j1,j2,j3,j4,j5,j6]
    refine tL ?_ 1 rfl hS0 ?_ ?_; rotate_left
    · intro w' hSw; obtain ⟨s0, s1, s2, s3, s4, s5, s6, s7, s8, s9, s11⟩ := hSw; go_simp; try rfl
    try simp only [Act.put,j1,j2,j3,j4,j5,j6]
    refine tW ?_ 2 rfl ?_ ?_; rotate_left
    · intro w' hSw; go_simp; try rfl
    try simp only [Act.put,j1,j2,j3,j4,j5,j6]
    refine tL ?_ 3 rfl hS0 ?_ ?_; rotate_left
    · intro w' hSw; obtain ⟨s0, s1, s2, s3, s4, s5, s6, s7, s8, s9, s11⟩ := hSw; go_simp; try rfl
    try simp only [Act.put,j1,j2,j3,j4,j5,j6]
    refine tW ?_ 4 rfl ?_ ?_; rotate_left
    · intro w' hSw; go_simp; try rfl
    try simp only [Act.put,j1,j2,j3,j4,j5,j6]
    refine tL ?_ 5 rfl hS0 ?_ ?_; rotate_left
    · intro w' hSw; obtain ⟨s0, s1, s2, s3, s4, s5, s6, s7, s8, s9, s11⟩ := hSw; go_simp; try rfl
    try simp only [Act.put,j1,j2,j3,j4,j5,j6]
    refine tW ?_ 6 rfl ?_ ?_; rotate_left
    · intro w' hSw; go_simp; try rfl
    try simp only [Act.put,j1,j2,j3,j4,j5,j6]
    refine tL ?_ 7 rfl hS0 ?_ ?_; rotate_left
    · intro w' hSw; obtain ⟨s0, s1, s2, s3, s4, s5, s6, s7, s8, s9, s11⟩ := hSw; go_simp; try rfl
    try simp only [Act.put,j1,j2,j3,j4,j5,j6]
    refine tW ?_ 8 rfl ?_ ?_; rotate_left
    · intro w' hSw; go_simp; try rfl
    try simp only [Act.put,j1,j2,j3,j4,j5,j6]
    refine tL ?_ 9 rfl hS0 ?_ ?_; rotate_left
    · intro w' hSw; obtain ⟨s0, s1, s2, s3, s4, s5, s6, s7, s8, s9, s11⟩ := hSw; go_simp; try rfl
    try simp only [Act.put,j1,j2,j3,j4,j5,j6]
    refine tW ?_ 10 rfl ?_ ?_; rotate_left
    · intro w' hSw; go_simp; try rfl
    try simp only [Act.put,j1,j2,j3,j4,j5,j6]
    refine tL ?_ 11 rfl hS0 ?_ ?_; rotate_left
    · intro w' hSw; obtain ⟨s0, s1, s2, s3, s4, s5, s6, s7, s8, s9, s11⟩ := hSw; go_simp; try rfl
    try simp only [Act.put,j1,j2,j3,j4,j5,j6]
    refine tW ?_ 12 rfl ?_ ?_; rotate_left
    · intro w' hSw; go_simp; try rfl
    try simp only [Act.put,j1,j2,j3,j4,j5,j6]
    refine tL ?_ 13 rfl hS0 ?_ ?_; rotate_left
    · intro w' hSw; obtain ⟨s0, s1, s2, s3, s4, s5, s6, s7, s8, s9, s11⟩ := hSw; go_simp; try rfl
    try simp only [Act.put,j1,j2,j3,j4,j5,j6]
    refine tW ?_ 14 rfl ?_ ?_; rotate_left
    · intro w' hSw; go_simp; try rfl
    try simp only [Act.put,j1,j2,j3,j4,j5,j6]
    refine tL ?_ 15 rfl hS0 ?_ ?_; rotate_left
    · intro w' hSw; obtain ⟨s0, s1, s2, s3, s4, s5, s6, s7, s8, s9, s11⟩ := hSw; go_simp; try rfl
    try simp only [Act.put,j1,j2,j3,j4,j5,j6]
    refine tW ?_ 16 rfl ?_ ?_; rotate_left
    · intro w' hSw; go_simp; try rfl
    try simp only [Act.put,j1,j2,j3,j4,j5,j6]
    refine tL ?_ 17 rfl hS0 ?_ ?_; rotate_left
    · intro w' hSw; obtain ⟨s0, s1, s2, s3, s4, s5, s6, s7, s8, s9, s11⟩ := hSw; go_simp; try rfl
    try simp only [Act.put,j1,j2,j3,j4,j5,j6]
    refine tW ?_ 21 rfl ?_ ?_; rotate_left
    · intro w' hSw; go_simp; try rfl
    try simp only [Act.put,j1,j2,j3,j4,j5,j6]
    refine tL ?_ 22 rfl hS0 ?_ ?_; rotate_left
    · intro w' hSw; obtain ⟨s0, s1, s2, s3, s4, s5, s6, s7, s8, s9, s11⟩ := hSw; go_simp; try rfl
    try simp only [Act.put,j1,j2,j3,j4,j5,j6]
    refine tW ?_ 23 rfl ?_ ?_; rotate_left
    · intro w' hSw; go_simp; try rfl
    try simp only [Act.put,j1,j2,j3,j4,j5,j6]
    refine tL ?_ 24 rfl hS0 ?_ ?_; rotate_left
    · intro w' hSw; obtain ⟨s0, s1, s2, s3, s4, s5, s6, s7, s8, s9, s11⟩ := hSw; go_simp; try rfl
    try simp only [Act.put,j1,j2,j3,j4,j5,j6]
    refine wpAnyG_one (i := 18) (by kernel_rfl) rfl hS0 (fun K' hK => ?_)
    simp only [j1,j2,j3]
    go_simp
    obtain ⟨x1, hx1⟩ : ∃ x, (x0.alloc (.cells #[.int .i64 (s.w : Int), .int .i64 (s.h : Int), .int .i64 (s.x : Int), .int .i64 (s.y : Int), .int .i64 (s.look : Int), .int .i64 (s.top : Int), .int .i64 (s.bot : Int), .int .i64 (s.sx : Int), .int .i64 (s.sy : Int)] 3)).drew = x := ⟨_, rfl⟩
    have HB1 : Hid (Below x0.heap.size x0 x1) := Lib.hid (by rw [← hx1]; exact ((Below.refl _ _).alloc (Nat.le_refl _) _).drew)
    have HS1 : Hid (Sl intE 1 x1 (some ⟨x0.heap.size, 0, none⟩) (nineL s.i)) := Lib.hid (by rw [← hx1]; exact boxL' (enc := intE) (w := x0.drew) (fun _ => rfl) (nineL s.i) _ _ (by simp [nineL, intE, Scr.i]) _ (by simp))
    rw [hx1]
    clear hx1
    refine hK.out _ _ (Or.inr (HSB.out x1 HB1.out)) ?_
    clear hK K'
    try simp only [Act.put,j1,j2,j3,j4,j5,j6]
    refine wpAnyG_one (i := 19) (by kernel_rfl) rfl ((HSB.out x1 HB1.out)) (fun K' hK => ?_)
    simp only [j1,j2,j3]
    go_simp
    go_at_call 38
    refine (HNU.out _ _ HS1.out).mono ?_
    rintro e x2 ⟨v2, rfl, hf2, hbc⟩
    obtain ⟨a2, c2, rfl, hc2, ho2⟩ := id hf2
    have HT : Hid (Sl byteE 1 x2 a2 NL) := Lib.hid (Sl.of_own (fun _ => rfl) ho2)
    have HB2 : Hid (Below x0.heap.size x0 x2) := Lib.hid (HB1.out.trans (hbc.mono HB1.out.size))
    clear hf2 hc2 ho2 hbc
    refine hK.out _ _ (Or.inr (HSB.out x2 HB2.out)) ?_
    clear hK K'
    try simp only [Act.put,j1,j2,j3,j4,j5,j6]
    refine wpAnyG_br (rs := [20, 25]) (by kernel_rfl) (by simp) ?_
    intro j hj
    simp only [List.mem_cons, List.not_mem_nil, or_false] at hj
    rcases hj with rfl | rfl
    · skip
      have hcv : (convert 22 9 (.slice a2 NL.length c2)).run Try.prog x2 = .ok (.string N9) x2 := by rw [← HNS.out]; exact convT HT.out
      refine ⟨_, rfl, fun K' hK => ?_⟩
      simp only [j1,j2,j3]
      go_simp
      try simp only [hcv, Result.andThen_ok]
      clear hcv
      refine hK.out _ _ (Or.inr (HSB.out x2 HB2.out)) ?_
      clear hK K'
      try simp only [Act.put,j1,j2,j3,j4,j5,j6]
      refine wpAnyG_one (i := 25) (by kernel_rfl) rfl ((HSB.out x2 HB2.out)) (fun K' hK => ?_)
      simp only [j1,j2,j3]
      go_simp
      go_at_call 39
      refine (HFI.out _ (HB0.out.trans (HB2.out.mono HB0.out.size))).mono ?_
      rintro e x3 ⟨v3, rfl, hf3, hbc⟩
      obtain ⟨a3, c3, rfl, hc3, ho3⟩ := id hf3
      have HT3 : Hid (Sl byteE 1 x3 a3 HL) := Lib.hid (Sl.of_own (fun _ => rfl) ho3)
      have HB3 : Hid (Below x0.heap.size x0 x3) := Lib.hid (HB2.out.trans (hbc.mono HB2.out.size))
      have HT2 : Hid (Sl byteE 1 x3 a2 NL) := Lib.hid (HT.out.keep hbc)
      clear hf3 hc3 ho3 hbc
      refine hK.out _ _ (Or.inr (HSB.out x3 HB3.out)) ?_
      clear hK K'
      try simp only [Act.put,j1,j2,j3,j4,j5,j6]
      have hcv : (convert 22 9 (.slice a3 HL.length c3)).run Try.prog x3 = .ok (.string HH) x3 := by rw [← HHS.out]; exact convT HT3.out
      refine wpAnyG_one (i := 26) (by kernel_rfl) rfl ((HSB.out x3 HB3.out)) (fun K' hK => ?_)
      simp only [j1,j2,j3]
      go_simp
      try simp only [hcv, Result.andThen_ok]
      clear hcv
      refine hK.out _ _ (Or.inr (HSB.out x3 HB3.out)) ?_
      clear hK K'
      try simp only [Act.put,j1,j2,j3,j4,j5,j6]
      refine wpAnyG_one (i := 27) (by kernel_rfl) rfl ((HSB.out x3 HB3.out)) (fun K' hK => ?_)
      simp only [j1,j2,j3]
      go_simp
      obtain ⟨x4, hx4⟩ : ∃ x, x3.alloc (.cells #[.string N9, .string s.title, .string HH] 9) = x := ⟨_, rfl⟩
      have HB4 : Hid (Below x0.heap.size x0 x4) := Lib.hid (by rw [← hx4]; exact HB3.out.alloc HB3.out.size _)
      have HF4 : Hid (FreshIn strE 9 1 (w.heap.size + 1) x4.heap.size (.slice (some ⟨x3.heap.size, 0, none⟩) 3 3) [N9, s.title, HH] x4) := Lib.hid (by rw [← hx4]; exact FreshIn.of_owns (cs := [.string N9, .string s.title, .string HH]) ⟨rfl, .inr ⟨x3.heap.size, 3, _, rfl, by have := HB3.out.size; omega, heap_alloc_new x3 _, Nat.le_refl _, by unfold maxLen; omega, rfl, by simp⟩⟩ rfl (by simp [strE]) (by simp))
      rw [hx4]
      clear hx4
      refine hK.out _ _ (Or.inr (HSB.out x4 HB4.out)) ?_
      clear hK K'
      try simp only [Act.put,j1,j2,j3,j4,j5,j6]
      refine tW ?_ 28 rfl ?_ ?_; rotate_left
      · intro w' hSw; go_simp; try rfl
      try simp only [Act.put,j1,j2,j3,j4,j5,j6]
      refine wpAnyG_done (by kernel_rfl) ?_ _
      go_wp2_with fail
      go_meet
      exact ⟨_, rfl, Lib.hid ⟨HB4.out, HF4.out⟩⟩
    · skip
      refine ⟨_, rfl, fun K' hK => ?_⟩
      simp only [j1,j2,j3]
      go_simp
      go_at_call 39
      refine (HFI.out _ (HB0.out.trans (HB2.out.mono HB0.out.size))).mono ?_
      rintro e x3 ⟨v3, rfl, hf3, hbc⟩
      obtain ⟨a3, c3, rfl, hc3, ho3⟩ := id hf3
      have HT3 : Hid (Sl byteE 1 x3 a3 HL) := Lib.hid (Sl.of_own (fun _ => rfl) ho3)
      have HB3 : Hid (Below x0.heap.size x0 x3) := Lib.hid (HB2.out.trans (hbc.mono HB2.out.size))
      have HT2 : Hid (Sl byteE 1 x3 a2 NL) := Lib.hid (HT.out.keep hbc)
      clear hf3 hc3 ho3 hbc
      refine hK.out _ _ (Or.inr (HSB.out x3 HB3.out)) ?_
      clear hK K'
      try simp only [Act.put,j1,j2,j3,j4,j5,j6]
      refine wpAnyG_br (rs := [20, 26]) (by kernel_rfl) (by simp) ?_
      intro j hj
      simp only [List.mem_cons, List.not_mem_nil, or_false] at hj
      rcases hj with rfl | rfl
      · skip
        have hcv : (convert 22 9 (.slice a2 NL.length c2)).run Try.prog x3 = .ok (.string N9) x3 := by rw [← HNS.out]; exact convT HT2.out
        refine ⟨_, rfl, fun K' hK => ?_⟩
        simp only [j1,j2,j3]
        go_simp
        try simp only [hcv, Result.andThen_ok]
        clear hcv
        refine hK.out _ _ (Or.inr (HSB.out x3 HB3.out)) ?_
        clear hK K'
        try simp only [Act.put,j1,j2,j3,j4,j5,j6]
        have hcv : (convert 22 9 (.slice a3 HL.length c3)).run Try.prog x3 = .ok (.string HH) x3 := by rw [← HHS.out]; exact convT HT3.out
        refine wpAnyG_one (i := 26) (by kernel_rfl) rfl ((HSB.out x3 HB3.out)) (fun K' hK => ?_)
        simp only [j1,j2,j3]
        go_simp
        try simp only [hcv, Result.andThen_ok]
        clear hcv
        refine hK.out _ _ (Or.inr (HSB.out x3 HB3.out)) ?_
        clear hK K'
        try simp only [Act.put,j1,j2,j3,j4,j5,j6]
        refine wpAnyG_one (i := 27) (by kernel_rfl) rfl ((HSB.out x3 HB3.out)) (fun K' hK => ?_)
        simp only [j1,j2,j3]
        go_simp
        obtain ⟨x4, hx4⟩ : ∃ x, x3.alloc (.cells #[.string N9, .string s.title, .string HH] 9) = x := ⟨_, rfl⟩
        have HB4 : Hid (Below x0.heap.size x0 x4) := Lib.hid (by rw [← hx4]; exact HB3.out.alloc HB3.out.size _)
        have HF4 : Hid (FreshIn strE 9 1 (w.heap.size + 1) x4.heap.size (.slice (some ⟨x3.heap.size, 0, none⟩) 3 3) [N9, s.title, HH] x4) := Lib.hid (by rw [← hx4]; exact FreshIn.of_owns (cs := [.string N9, .string s.title, .string HH]) ⟨rfl, .inr ⟨x3.heap.size, 3, _, rfl, by have := HB3.out.size; omega, heap_alloc_new x3 _, Nat.le_refl _, by unfold maxLen; omega, rfl, by simp⟩⟩ rfl (by simp [strE]) (by simp))
        rw [hx4]
        clear hx4
        refine hK.out _ _ (Or.inr (HSB.out x4 HB4.out)) ?_
        clear hK K'
        try simp only [Act.put,j1,j2,j3,j4,j5,j6]
        refine tW ?_ 28 rfl ?_ ?_; rotate_left
        · intro w' hSw; go_simp; try rfl
        try simp only [Act.put,j1,j2,j3,j4,j5,j6]
        refine wpAnyG_done (by kernel_rfl) ?_ _
        go_wp2_with fail
        go_meet
        exact ⟨_, rfl, Lib.hid ⟨HB4.out, HF4.out⟩⟩
      · skip
        have hcv : (convert 22 9 (.slice a3 HL.length c3)).run Try.prog x3 = .ok (.string HH) x3 := by rw [← HHS.out]; exact convT HT3.out
        refine ⟨_, rfl, fun K' hK => ?_⟩
        simp only [j1,j2,j3]
        go_simp
        try simp only [hcv, Result.andThen_ok]
        clear hcv
        refine hK.out _ _ (Or.inr (HSB.out x3 HB3.out)) ?_
        clear hK K'
        try simp only [Act.put,j1,j2,j3,j4,j5,j6]
        have hcv : (convert 22 9 (.slice a2 NL.length c2)).run Try.prog x3 = .ok (.string N9) x3 := by rw [← HNS.out]; exact convT HT2.out
        refine wpAnyG_one (i := 20) (by kernel_rfl) rfl ((HSB.out x3 HB3.out)) (fun K' hK => ?_)
        simp only [j1,j2,j3]
        go_simp
        try simp only [hcv, Result.andThen_ok]
        clear hcv
        refine hK.out _ _ (Or.inr (HSB.out x3 HB3.out)) ?_
        clear hK K'
        try simp only [Act.put,j1,j2,j3,j4,j5,j6]
        refine wpAnyG_one (i := 27) (by kernel_rfl) rfl ((HSB.out x3 HB3.out)) (fun K' hK => ?_)
        simp only [j1,j2,j3]
        go_simp
        obtain ⟨x4, hx4⟩ : ∃ x, x3.alloc (.cells #[.string N9, .string s.title, .string HH] 9) = x := ⟨_, rfl⟩
        have HB4 : Hid (Below x0.heap.size x0 x4) := Lib.hid (by rw [← hx4]; exact HB3.out.alloc HB3.out.size _)
        have HF4 : Hid (FreshIn strE 9 1 (w.heap.size + 1) x4.heap.size (.slice (some ⟨x3.heap.size, 0, none⟩) 3 3) [N9, s.title, HH] x4) := Lib.hid (by rw [← hx4]; exact FreshIn.of_owns (cs := [.string N9, .string s.title, .string HH]) ⟨rfl, .inr ⟨x3.heap.size, 3, _, rfl, by have := HB3.out.size; omega, heap_alloc_new x3 _, Nat.le_refl _, by unfold maxLen; omega, rfl, by simp⟩⟩ rfl (by simp [strE]) (by simp))
        rw [hx4]
        clear hx4
        refine hK.out _ _ (Or.inr (HSB.out x4 HB4.out)) ?_
        clear hK K'
        try simp only [Act.put,j1,j2,j3,j4,j5,j6]
        refine tW ?_ 28 rfl ?_ ?_; rotate_left
        · intro w' hSw; go_simp; try rfl
        try simp only [Act.put,j1,j2,j3,j4,j5,j6]
        refine wpAnyG_done (by kernel_rfl) ?_ _
        go_wp2_with fail
        go_meet
        exact ⟨_, rfl, Lib.hid ⟨HB4.out, HF4.out⟩⟩
  case rest =>
    obtain ⟨g, rfl, HC⟩ := hcut
    have HXS : Hid (x0.heap.size = w.heap.size + 1) := HXS
    have k_lx : w.heap.size < x0.heap.size := k_l
    clear hS0 HSB k_0 k_1 k_2 k_3 k_4 k_5 k_6 k_7 k_8 k_9 k_10 k_11 k_l
    obtain ⟨ht, hht⟩ : ∃ n, s.h = n := ⟨_, rfl⟩
    have hh2 : ht ≤ 10 := by rw [← hht]; exact HOK.out.h2
    have HHT := Lib.hid hht
    obtain ⟨e_1, hzc⟩ : wc.cell? ⟨w.heap.size, 1, none⟩ = some (.int .i64 (ht : Int)) ∧ x0.heap.size ≤ wc.heap.size := ⟨by rw [← hht]; exact (HSX.out wc HC.out.1).2.1, HC.out.1.size⟩
    have HCL : Hid (∀ k, k < s.h → ∀ W, ScrS s ac ah W → Calls Try.prog 40 #[scrV s ac cc ah dh, .int .i64 k] W fun e w' => e = .returned (.string (strOf (celL (rowI s.i k)))) ∧ Below W.heap.size W w') := Lib.hid (fun k hk W hW => l04Cells_c s ac cc ah dh k W hW (by have := HOK.out.w1; omega) HOK.out.w2 HOK.out.h2 hk HOK.out.cn HOK.out.cs)
    unfold scrV at HCL
    rw [hht] at HSX HCL ⊢
    clear hht
    go_wp2_with fail
    go_loopw [3, 4] (fun v i wr => ∃ (k : Nat) (av : Option Addr) (cv : Nat) (L : List ByteArray), k ≤ ht ∧ i = .int .i64 k ∧ v = .slice av L.length cv ∧ L.length ≤ 13 ∧ Hid (L = [N9, s.title, HH] ++ rowsL s.i k ∧ FreshIn strE 9 1 (w.heap.size + 1) wr.heap.size (.slice av L.length cv) L wr ∧ Below x0.heap.size x0 wr)) (fun _ i _ => ht - (intOf i).toNat)
    case atStart => exact ⟨0, _, _, [N9, s.title, HH], Nat.zero_le _, rfl, rfl, by simp, Lib.hid ⟨by simp [rowsL], HC.out.2, HC.out.1⟩⟩
    case round =>
      obtain ⟨k, av, cv, L, hk, rfl, rfl, hL13, HQ⟩ := hrel
      obtain ⟨k_0, k_1, k_2, k_3, k_4, k_5, k_6, k_7, k_8, k_9, k_10, k_11⟩ := HSX.out wr HQ.out.2.2
      by_cases hlt : k < ht
      · have hlt' : (k : Int) < (ht : Int) := by omega
        have HRW : Hid (rowsL s.i (k + 1) = rowsL s.i k ++ [strOf (celL (rowI s.i k))]) := Lib.hid (by simp [rowsL, List.range_succ])
        obtain ⟨R, hR⟩ : ∃ R, strOf (celL (rowI s.i k)) = R := ⟨_, rfl⟩
        have HCT : Hid (∀ W, Below wr.heap.size wr W → Calls Try.prog 40 #[.agg #[.int .i64 (s.w : Int), .int .i64 (ht : Int), .int .i64 (s.x : Int), .int .i64 (s.y : Int), .int .i64 (s.look : Int), .int .i64 (s.top : Int), .int .i64 (s.bot : Int), .int .i64 (s.sx : Int), .int .i64 (s.sy : Int), .string s.title, .slice ac s.cells.length cc, .slice ah s.hist.length dh], .int .i64 k] W fun e w' => e = .returned (.string R) ∧ Below W.heap.size W w') := Lib.hid (fun W hW => by rw [← hR]; exact HCL.out k hlt W (((HSR.out wr HQ.out.2.2).1).below hW))
        rw [hR] at HRW
        clear hR
        have HZ : Hid (L.length + 1 ≤ 13) := Lib.hid (by rw [HQ.out.1]; simp [rowsL]; omega)
        go_upto_region 5 with fail
        go_wp2_with fail
        refine (HCT.out wr (Below.refl _ _)).mono ?_
        rintro e w2 ⟨rfl, hb2⟩
        have HB2' := Lib.hid hb2
        have hzq := hb2.size
        have hzb := HQ.out.2.2.size
        have HF2 : Hid (FreshIn strE 9 1 (w.heap.size + 1) w2.heap.size (.slice av L.length cv) L w2) := Lib.hid ((HQ.out.2.1.below hb2).mono (Nat.le_refl _) hzq)
        clear hb2
        go_wp2_with (first
          | (skip
             at_builtin
             refine wpList_append_fresh rfl (.tmp 39) (.tmp 43) 24 24 rfl (w.heap.size + 1) (w2.heap.size) 9 i0 (.string ⟨#[]⟩) 1 16 Try.underlying24 hi hz0 hz1 hz2 rfl (by decide) (.slice av L.length cv) (L) rfl (HF2.out.alloc _) _ ([R]) rfl (Src.ofBox (enc := strE) (w := w2) Try.underlying24 (fun _ => rfl) strOneC R #[.string R] 9 rfl w2.heap.size rfl) (by (try simp) <;> (try omega)) (by (try simp) <;> (try omega)) ?_
             intro a3 c3 w3 L3 hL3 hf3 hm3
             skip))
        go_roundw
        case rel =>
          have e3 : L3 = [N9, s.title, HH] ++ rowsL s.i (k + 1) := by rw [hL3.out, HQ.out.1, HRW.out, List.append_assoc]
          refine ⟨k + 1, a3, c3, L3, by omega, by go_num, rfl, by rw [hL3.out, List.length_append]; exact HZ.out, Lib.hid ⟨e3, hf3.1.here, ?_⟩⟩
          exact (HQ.out.2.2.trans ((HB2'.out.alloc hzq _).mono hzb)).trans (hm3.below (B := x0.heap.size) (by have := HXS.out; omega) (by simp; omega))
        case measure => simp [intOf]; omega
      · obtain rfl : k = ht := by omega
        have HLE : Hid (L = N9 :: s.title :: HH :: rowsL s.i s.h) := Lib.hid (by rw [HQ.out.1, HHT.out]; rfl)
        obtain ⟨T, hT⟩ : ∃ T, fldL L = T := ⟨_, rfl⟩
        have HT : Hid (fldL (N9 :: s.title :: HH :: rowsL s.i s.h) = T) := Lib.hid (by rw [← HLE.out]; exact hT)
        have HFC : Hid (Calls Try.prog 39 #[.slice av L.length cv] wr (FreshR byteE 5 1 wr T)) := Lib.hid (by
          rw [← hT]
          refine l02Fields_c av cv L wr (HQ.out.2.1.sl (fun _ => rfl)) (by omega) (fun r hr => ?_)
          rw [HLE.out] at hr
          have := HFS.out r hr
          omega)
        clear hT
        go_wp2_with fail
        refine HFC.out.mono ?_
        rintro e w2 ⟨v2, rfl, hf2, hb2⟩
        obtain ⟨a2, c2, rfl, hc2, ho2⟩ := id hf2
        have HT2 : Hid (Sl byteE 1 w2 a2 T) := Lib.hid (Sl.of_own (fun _ => rfl) ho2)
        have HB2' := Lib.hid hb2
        have hcv : (convert 22 9 (.slice a2 T.length c2)).run Try.prog w2 = .ok (.string (strOf T)) w2 := convT HT2.out
        clear hf2 hc2 ho2 hb2
        go_wp2_with fail
        go_ret
        exact ⟨by rw [HT.out]; rfl, HB0.out.trans ((HQ.out.2.2.trans (HB2'.out.mono HQ.out.2.2.size)).mono HB0.out.size)⟩
end
section
open Go.RowKit
noncomputable def cvC (s : ByteArray) (w : World) : Nat := grownCap w s.size 0 5
noncomputable def cvW (s : ByteArray) (w : World) : World := w.drew.alloc (.cells (bytesRow s (cvC s w)) 5 ((bytesRow s (cvC s w)).size, (bytesRow s (cvC s w)).size + 1))
theorem cv_run (s : ByteArray) (w : World) : (convert 9 22 (.string s)).run Try.prog w = .ok (.slice (some ⟨w.heap.size, 0, none⟩) s.size (cvC s w)) (cvW s w) :=
  run_bytes_of_string w 9 22 5 s Try.underlying9 Try.underlying22 Try.underlying5
theorem cvW_below (s : ByteArray) (w : World) {B : Nat} (h : B ≤ w.heap.size) : Below B w (cvW s w) := ((Below.refl B w).drew).alloc h _
theorem cvW_sl (s : ByteArray) (w : World) : Sl byteE 1 (cvW s w) (some ⟨w.heap.size, 0, none⟩) s.data.toList := by
  refine .inr ⟨w.heap.size, 0, rfl, by simp [cvW], fun i hi j hj => ?_⟩
  obtain rfl : j = 0 := by omega
  have h1 : (cvW s w).cell? ⟨w.heap.size, 0 + i * 1 + 0, none⟩ = (bytesRow s (cvC s w))[0 + i * 1 + 0]? :=
    cell_of_row (cvW s w) w.heap.size _ _ _ _ (heap_alloc_new w.drew _)
  rw [h1]
  have h2 := bytesRow_at s (cvC s w) i (by simpa using hi)
  simp only [Nat.zero_add, Nat.mul_one, Nat.add_zero]
  rw [h2]
  simp [byteE]
end
end Go.Proofs.Ytjmpgeffkdjpdaa
