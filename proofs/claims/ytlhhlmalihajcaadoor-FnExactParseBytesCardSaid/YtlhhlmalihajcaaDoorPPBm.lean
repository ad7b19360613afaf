/- impl.ParseBytes returns what spec.ParseBytes returns: the law FnExactParseBytes returns true for every parser and all bytes, and its arguments read afterwards as they read before. The row lists the two tables of utf8, tied to the program's text. No conditions. -/
import Derived.Test.YtlhhlmalihajcaaDoorTie
import Derived.Test.YtlhhlmalihajcaaDoorCards
import Derived.Test.YtlhhlmalihajcaaDoorPaA
import Derived.Test.YtlhhlmalihajcaaDoorFrame
import Derived.Lib.LaidU8T
import Derived.PinnedBridge
import Derived.Lay
import Derived.LaidMore
import Derived.Stop.Joined
import Derived.SevenTiedAt
import Derived.ChangeMaps5
import Derived.Test.YtlhhlmalihajcaaDoorQLw
import Derived.Test.YtlhhlmalihajcaaDoorFrame3
namespace Go.Proofs.YtlhhlmalihajcaaDoor
set_option linter.unusedVariables false
set_option linter.unusedSimpArgs false
section
open Go.ChangeShapes Go.WideShapes Go.ChangeAt Go.RowKit Go.Lib Go.Shelf
theorem u8types : U8Types Tryd.prog Tryd.lays197_ren := { Tryd.lays197 with }
theorem u8extra : U8Extra Tryd.prog Tryd.lays197_ren := ⟨by kernel_rfl, by kernel_rfl, by kernel_rfl, by kernel_rfl, by kernel_rfl, by kernel_rfl, by kernel_rfl⟩
theorem acceptEq : (Rows.laid_unicode_utf8_acceptRanges : DataW Unit) = acceptData := by kernel_rfl
theorem utLaid {W : World} {l : List (String × DataW Unit)} (h : laidMet Tryd.prog l W) (h1 : ("unicode/utf8.first", (Rows.laid_unicode_utf8_first : DataW Unit)) ∈ l) (h2 : ("unicode/utf8.acceptRanges", (Rows.laid_unicode_utf8_acceptRanges : DataW Unit)) ∈ l) : UT W := by
  have t := utf8Tabs_of_readsT u8types u8extra (w := W) (Pinned.utf8First_eq ▸ Lib.laidMet.reads h h1) (acceptEq ▸ Lib.laidMet.reads h h2)
  have lt : ∀ (g o : Nat) (v : Value), W.cell? ⟨g, o, none⟩ = some v → g < W.heap.size := fun g o v hv => by
    rcases Nat.lt_or_ge g W.heap.size with h | h
    · exact h
    · simp [World.cell?, Array.getElem?_eq_none h] at hv
  exact ⟨t, lt _ 0 _ (t.1 0 (by decide)), lt _ 0 _ (t.2 0 (by decide)).1⟩
theorem Tryd.cellsParser : Tryd.prog.cellsOf 37 = 5 := by kernel_rfl
set_option maxRecDepth 100000 in
theorem openParser {H : Type} {enc' : TypeId × Value → H} {W : World} {base : Nat} {vv : Value} {d : DataW H} {p : List MemPlace} (hv : Value.okWide Tryd.prog W .any base 37 vv)
    (h : DataW.Trod enc' Tryd.prog W 0 (fun _ => true) true 37 vv d p) : ∃ (st : Int) (axs : Option Addr) (cxs : Nat) (xs : List (Int)) (pr : Bool) (tx : ByteArray) (ut : ByteArray), vv = .agg #[.int .i64 st, .slice axs xs.length cxs, .bool pr, .string tx, .string ut] ∧ xs.length ≤ 9223372036854775807 ∧ Sl intE 1 W axs xs ∧ tx.size ≤ 9223372036854775807 ∧ ut.size ≤ 9223372036854775807 := by
  obtain ⟨cs, rfl, hsz⟩ := okWide_struct Tryd.underlying37 hv
  rw [Tryd.cellsParser] at hsz
  obtain ⟨fuel, hf⟩ := h
  obtain ⟨cs⟩ := cs
  obtain ⟨ys, n, _, _, _, hyl, hfs⟩ := DataW.trod_struct Tryd.underlying37 hf
  match cs, hsz with
  | [v0, v1, v2, v3, v4], _ =>
    obtain ⟨x0, hx0⟩ : ∃ x, ys[0]? = some x := ⟨_, List.getElem?_eq_getElem (by simp [hyl])⟩
    have g0 : DataW.trod enc' Tryd.prog W 0 (fun _ => true) true n 3 [v0] = some x0 := (hfs 0 _ rfl).trans hx0
    obtain ⟨st, e0, _, _⟩ := DataW.trod_int Tryd.underlying3 g0
    simp only [List.cons.injEq, and_true] at e0
    subst e0
    obtain ⟨x1, hx1⟩ : ∃ x, ys[1]? = some x := ⟨_, List.getElem?_eq_getElem (by simp [hyl])⟩
    have g1 : DataW.trod enc' Tryd.prog W 0 (fun _ => true) true n 23 [v1] = some x1 := (hfs 1 _ rfl).trans hx1
    obtain ⟨axs, cxs, xs, e1, q1a, q1b, q1c⟩ := open_intSlc g1
    simp only [List.cons.injEq, and_true] at e1
    subst e1
    obtain ⟨x2, hx2⟩ : ∃ x, ys[2]? = some x := ⟨_, List.getElem?_eq_getElem (by simp [hyl])⟩
    have g2 : DataW.trod enc' Tryd.prog W 0 (fun _ => true) true n 4 [v2] = some x2 := (hfs 2 _ rfl).trans hx2
    obtain ⟨pr, e2, _⟩ := DataW.trod_bool Tryd.underlying4 g2
    simp only [List.cons.injEq, and_true] at e2
    subst e2
    obtain ⟨x3, hx3⟩ : ∃ x, ys[3]? = some x := ⟨_, List.getElem?_eq_getElem (by simp [hyl])⟩
    have g3 : DataW.trod enc' Tryd.prog W 0 (fun _ => true) true n 9 [v3] = some x3 := (hfs 3 _ rfl).trans hx3
    obtain ⟨tx, e3, _, q3⟩ := DataW.trod_string Tryd.underlying9 g3
    simp only [List.cons.injEq, and_true] at e3
    subst e3
    obtain ⟨x4, hx4⟩ : ∃ x, ys[4]? = some x := ⟨_, List.getElem?_eq_getElem (by simp [hyl])⟩
    have g4 : DataW.trod enc' Tryd.prog W 0 (fun _ => true) true n 9 [v4] = some x4 := (hfs 4 _ rfl).trans hx4
    obtain ⟨ut, e4, _, q4⟩ := DataW.trod_string Tryd.underlying9 g4
    simp only [List.cons.injEq, and_true] at e4
    subst e4
    exact ⟨st, axs, cxs, xs, pr, tx, ut, rfl, q1a, q1c, (by unfold maxLen at q3; omega), (by unfold maxLen at q4; omega)⟩
end
section
open Go.ChangeShapes Go.WideShapes Go.ChangeAt Go.RowKit
set_option maxRecDepth 100000 in
theorem fnExactParseBytes_lifted (os : Os) (started : os.Started) (H : Type) (enc : TypeId × Value → H) :
    ReturnsInHanded {} Tryd.checked os 4 .any (fun w args => (Rows.fnExactParseBytesSpec.pre enc Tryd.prog Tryd.f4 [] false w args ∧ laidMetH Tryd.prog Rows.fnExactParseBytesRow.laid w) ∧ sizedMet enc Tryd.prog Tryd.f4 (OpenSpec.ofChange Rows.fnExactParseBytesSpec) false w args)
      (Rows.fnExactParseBytesSpec.post enc Tryd.prog Tryd.f4 false true false false) := by
  refine returnsInHanded_of_change_and (C := Tryd.checked) (X := fun w _ => laidMetH Tryd.prog Rows.fnExactParseBytesRow.laid w) (fun _ _ _ hh h => h.of_heap hh) Tryd.own started (by kernel_rfl) Tryd.func4
    (ChangeSpec.witness_shaped (enc := enc) (C := Tryd.checked) (os := os) (X := fun w _ => laidMetH Tryd.prog Rows.fnExactParseBytesRow.laid w) false (World.laidAll Tryd.prog os Rows.fnExactParseBytesRow.laid) #[.agg #[.int .i64 0, .slice none 0 0, .bool false, .string ⟨#[]⟩, .string ⟨#[]⟩], .slice none 0 0] 8 (World.laidAll_os _ _ _)
      (World.shaped_of_ZipB (by kernel_rfl) (by kernel_rfl)) (by kernel_rfl) (by kernel_rfl) (by kernel_rfl)
      (by rw [MakeChecks.laidMetH_plain _ _ _ (by kernel_rfl)]; exact laidMet_laidAll _ (by kernel_rfl) (by kernel_rfl))) ?_
  intro W base args ds gs before hval0 hW hc _ hL0 _
  have hval : ∀ (j : Nat) t v, Tryd.f4.params[j]? = some t → args[j]? = some v → Value.okWide Tryd.prog W .any base t v := hval0
  have hW' := hW
  obtain ⟨p, q, hA0, hV, rfl, _, _⟩ := hW
  have hA : DataW.TrodAll enc Tryd.prog W 0 (fun _ => true) true Tryd.f4.params.toList args.toList ds p := hA0
  rw [Tryd.params4] at hA hval
  rw [MakeChecks.laidMetH_plain _ _ _ (by kernel_rfl)] at hL0
  have hL : laidMet Tryd.prog Rows.fnExactParseBytesRow.laid W := hL0
  obtain ⟨v0, v1, d0, d1, p0, p1, rfl, rfl, rfl, h0, h1⟩ := trodAll_two hA
  obtain ⟨rfl, rfl⟩ := trodVars_none hV
  obtain ⟨st, axs, cxs, xs, pr, tx, ut, rfl, l1, l2, l3, l4⟩ := openParser (hval 0 37 v0 rfl rfl) h0
  obtain ⟨a, ca, ys, rfl, la, _, ha⟩ := open_byteSl (hval 1 22 v1 rfl rfl) h1
  have hut : UT W := utLaid hL (.tail _ (.head _)) (.head _)
  exact law_calls rfl rfl (by kernel_rfl) hW' rfl (lawPB_c axs cxs ⟨st, xs, pr, tx, ut⟩ a ca ys W l2 ha ⟨l1, l3, l4⟩ la hut)
theorem fnExactParseBytes_said : Rows.FnExactParseBytesSaid :=
  OpenClaim.holds_of_wide 4 Tryd.f4 rfl rfl rfl rfl rfl rfl rfl ⟨rfl, rfl, rfl, rfl, rfl⟩ rfl rfl rfl rfl rfl (by kernel_rfl) Tryd.func4 (by kernel_rfl)
    (of_decide_eq_true (by kernel_rfl)) (by unfold Func.isWrapper; first | (rw [if_pos (by decide +kernel)]; kernel_rfl) | (rw [if_neg (by decide +kernel)]; exact ⟨rfl, rfl⟩))
    (fun os started H enc _ => fnExactParseBytes_lifted os started H enc)
theorem fnExactParseBytes_holds : Rows.FnExactParseBytesCardSaid :=
  Claim7.holds_tied_plain_at .later [] [.data, .pinned] true (true, "05846fea5c9a64b9555df6302008e22e854597f0c8f584b587de17cee55c3bbd") false fnExactParseBytes_said (fun _ h => by cases h) (by kernel_rfl) (fun _ h => by cases h) fnExactParseBytes_row_tie rfl ⟨rfl, rfl⟩ (by kernel_rfl) rfl
    (fun f fn hf hfn => by
      obtain rfl : f = 4 := Option.some.inj ((show Tryd.prog.funcNamed "loop.example/g00308/laws.FnExactParseBytes" = some 4 by kernel_rfl).symm.trans hf) |>.symm
      obtain rfl : fn = Tryd.f4 := (Option.some.inj (Tryd.func4.symm.trans hfn)).symm
      exact ⟨by kernel_rfl, fun j t ht => by
        rw [Tryd.params4] at ht
        have hm : t ∈ [37, 22] := by simpa using Array.mem_of_getElem? ht
        have hall : ([37, 22].all fun u => !Tryd.prog.wantsStandIn u) = true := by kernel_rfl
        exact (show Tryd.prog.wantsStandIn t = false by simpa using List.all_eq_true.1 hall t hm)⟩)
    (by kernel_rfl)
#print axioms fnExactParseBytes_holds
end
end Go.Proofs.YtlhhlmalihajcaaDoor
