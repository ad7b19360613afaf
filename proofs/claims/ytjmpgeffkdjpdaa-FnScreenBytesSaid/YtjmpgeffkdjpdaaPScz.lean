/- A screen is recovered from its bytes, and accepted bytes are those of the result: the law FnScreenBytes returns true for all bytes. No conditions. -/
import Derived.Test.YtjmpgeffkdjpdaaPSczg
import Derived.Test.YtjmpgeffkdjpdaaRows
import Derived.ProofKit
import Derived.Below
import Derived.OpenShut
import Derived.Carry
import Derived.Lib.SmallJoins
import Derived.Deep.Slices
namespace Go.Proofs.Ytjmpgeffkdjpdaa
set_option linter.unusedVariables false
set_option linter.unusedSimpArgs false
set_option maxRecDepth 100000
set_option maxHeartbeats 16000000
section
open Go.ChangeShapes Go.WideShapes Go.ChangeAt Go.RowKit
theorem Try.own : ownKnob Try.prog.godebug = none := by kernel_rfl
theorem Try.laidOut : laidOutB Try.prog = true := by kernel_rfl
theorem trodAll_below {H : Type} {enc : TypeId × Value → H} {P : Program} (hl : laidOutB P = true) {W W' : World} (hb : Below W.heap.size W W') :
    ∀ {ts : List TypeId} {vs : List Value} {ds : List (DataW H)} {ps : List MemPlace}, (ts.all fun t => P.readableRec t && decide (t < P.types.size)) = true → (∀ x ∈ ps, x.block < W.heap.size) →
      DataW.TrodAll enc P W 0 (fun _ => true) true ts vs ds ps → DataW.TrodAll enc P W' 0 (fun b => decide (b < W.heap.size)) true ts vs ds ps
  | [], vs, ds, ps, _, _, h => by
    obtain ⟨rfl, rfl, rfl⟩ := trodAll_nil h
    exact trodAll_mk0
  | t :: ts, vs, ds, ps, hr, hlt, h => by
    obtain ⟨v, vs', d, ds', p, q, rfl, rfl, rfl, h1, h2⟩ := trodAll_cons h
    simp only [List.all_cons, Bool.and_eq_true, decide_eq_true_eq] at hr
    exact trodAll_cons_mk (Below.trod hl hr.1.1 hr.1.2 h1 hb (fun x hx => hlt x (List.mem_append_left _ hx)))
      (trodAll_below hl hb hr.2 (fun x hx => hlt x (List.mem_append_right _ hx)) h2)
theorem law_calls {H : Type} {enc : TypeId × Value → H} {F : Nat} {fn : Func} {s : ChangeSpec} {W : World} {args : Array Value} {ds gs : List (DataW H)} {before : List MemPlace}
    (hvars : s.vars = []) (hrt : fn.resultTypes = #[4])
    (hread : (fn.params.toList.all fun t => Try.prog.readableRec t && decide (t < Try.prog.types.size)) = true)
    (hW : DataW.Whole enc Try.checked.prog fn.params.toList s.vars false W args.toList ds gs before)
    (hsp : s.fn H (ds ++ gs) = { results := [.lit (.bool true)], args := ds })
    (hc : Calls Try.prog F args W fun e W' => e = .returned (.bool true) ∧ Below W.heap.size W W') :
    Calls Try.checked.prog F args W fun e W' => ∃ v, e = .returned v ∧ s.post enc Try.checked.prog fn false true false false W args v W' := by
  refine Calls.mono (P := Try.prog) hc fun e W' ⟨he, hb⟩ => ?_
  subst he
  have hlt : ∀ x ∈ before, x.block < W.heap.size := fun x hx => hW.lt x hx
  have hW' := hW
  obtain ⟨p, q, hA, hV, rfl, _, _⟩ := hW
  rw [hvars] at hV
  obtain ⟨rfl, rfl⟩ := trodVars_none hV
  refine ⟨_, rfl, _, _, _, [], p, [], hW', ?_, ?_, ?_, hb.frame _, fun h => by cases h⟩
  · rw [hsp, hrt]
    exact trodAll_mk1 (shut_bool Try.underlying4 _)
  · rw [hsp]
    exact trodAll_below Try.laidOut hb hread (fun x hx => hlt x (List.mem_append_left _ hx)) hA
  · rw [hsp, hvars]
    rfl
/-! slices -/
theorem open_slc {H : Type} {enc' : TypeId × Value → H} {α : Type} {enc : α → List Value} {sz : Nat} {Q : α → Prop} {W : World} {fuel : Nat} {t e : TypeId} {cs : List Value} {x : DataW H × List MemPlace}
    (ht : Try.prog.underlying t = some (.slice e)) (hc : Try.prog.cellsOf e = sz) (hsz : 0 < sz)
    (hel : ∀ (n : Nat) (cs : List Value) (x : DataW H × List MemPlace), DataW.trod enc' Try.prog W 0 (fun _ => true) true n e cs = some x → ∃ y : α, cs = enc y ∧ Q y)
    (hf : DataW.trod enc' Try.prog W 0 (fun _ => true) true fuel t cs = some x) :
    ∃ (a : Option Addr) (cap : Nat) (xs : List α), cs = [.slice a xs.length cap] ∧ xs.length ≤ 9223372036854775807 ∧ (∀ x ∈ xs, Q x) ∧ Sl enc sz W a xs := by
  rcases Deep.open_slice ht hf with ⟨hcs, _⟩ | ⟨a, len, cap, m, n, D, Pl, hcs, _, hl, hm, hmm, _, hx⟩
  · subst hcs
    exact ⟨none, 0, [], rfl, by simp, by simp, .inl rfl⟩
  · subst hcs
    simp only [if_true] at hmm
    subst hmm
    have each : ∀ i, i < len → ∃ y : α, W.cells? 0 (a.add (i * sz)) sz = some (enc y) ∧ Q y := by
      intro i hi
      obtain ⟨cs', h1, h2⟩ := hx i (by omega)
      obtain ⟨y, rfl, hq⟩ := hel n cs' _ h2
      exact ⟨y, by rw [← hc]; exact h1, hq⟩
    by_cases h0 : len = 0
    · subst h0
      exact ⟨_, _, [], rfl, by simp, by simp, .inl rfl⟩
    · obtain ⟨y0, _⟩ := each 0 (by omega)
      obtain ⟨f, hf'⟩ := @Deep.choose_lt α ⟨y0⟩ len (fun i y => W.cells? 0 (a.add (i * sz)) sz = some (enc y) ∧ Q y) each
      have cellAt : ∀ i, i < len → ∀ j, j < sz → W.cell? ((a.add (i * sz)).add j) = (enc (f i))[j]? := by
        intro i hi j hj
        obtain ⟨_, hlen, hcell⟩ := World.cells?_some (hf' i hi).1
        exact hcell j hj
      have hc00 := cellAt 0 (by omega) 0 hsz
      have hlen0 : (enc (f 0)).length = sz := (World.cells?_some (hf' 0 (by omega)).1).2.1
      rw [List.getElem?_eq_getElem (by omega)] at hc00
      simp only [Nat.zero_mul] at hc00
      have hadd0 : (a.add 0).add 0 = a := by simp [Addr.add]
      rw [hadd0] at hc00
      obtain ⟨b, off, spot⟩ := a
      have hspot : spot = none := by simpa using World.cell?_spot hc00
      subst hspot
      have hb := World.block_lt_of_cell? W _ hc00
      refine ⟨some ⟨b, off, none⟩, m, (List.range len).map f, by simp, by simp; unfold maxLen at hm; omega, ?_, .inr ⟨b, off, rfl, hb, ?_⟩⟩
      · intro x hx'
        obtain ⟨i, hi, rfl⟩ := List.mem_map.1 hx'
        exact (hf' i (List.mem_range.1 hi)).2
      · intro i hi j hj
        have hi' : i < len := by simpa using hi
        have := cellAt i hi' j hj
        rw [Deep.add_add] at this
        have hadd : (⟨b, off, none⟩ : Addr).add (i * sz + j) = ⟨b, off + i * sz + j, none⟩ := by
          unfold Addr.add; split <;> simp_all [Nat.add_assoc]
        rw [hadd] at this
        rw [this]
        simp
theorem open_sl {H : Type} {enc' : TypeId × Value → H} {α : Type} {enc : α → List Value} {sz : Nat} {Q : α → Prop} {W : World} {base : Nat} {t e : TypeId} {v : Value} {d : DataW H} {p : List MemPlace}
    (ht : Try.prog.underlying t = some (.slice e)) (hc : Try.prog.cellsOf e = sz) (hsz : 0 < sz)
    (hel : ∀ (n : Nat) (cs : List Value) (x : DataW H × List MemPlace), DataW.trod enc' Try.prog W 0 (fun _ => true) true n e cs = some x → ∃ y : α, cs = enc y ∧ Q y)
    (hv : Value.okWide Try.prog W .any base t v) (h : DataW.Trod enc' Try.prog W 0 (fun _ => true) true t v d p) :
    ∃ (a : Option Addr) (cap : Nat) (xs : List α), v = .slice a xs.length cap ∧ xs.length ≤ 9223372036854775807 ∧ (∀ x ∈ xs, Q x) ∧ Sl enc sz W a xs := by
  obtain ⟨a0, len, cap, rfl⟩ := okWide_slice ht hv
  obtain ⟨fuel, hf⟩ := h
  obtain ⟨a, c, xs, hcs, h1, h2, h3⟩ := open_slc (enc := enc) ht hc hsz hel hf
  simp [Value.cells] at hcs
  obtain ⟨rfl, rfl, rfl⟩ := hcs
  exact ⟨_, _, xs, rfl, h1, h2, h3⟩
/-! entries, states -/
/-! stores -/
section
open Go.Joins
end
end
section
open Go.ChangeShapes Go.WideShapes Go.ChangeAt Go.RowKit
theorem open_byteSl {H : Type} {enc' : TypeId × Value → H} {W : World} {base : Nat} {v : Value} {d : DataW H} {p : List MemPlace} (hv : Value.okWide Try.prog W .any base 22 v)
    (h : DataW.Trod enc' Try.prog W 0 (fun _ => true) true 22 v d p) : ∃ (a : Option Addr) (cap : Nat) (xs : List UInt8), v = .slice a xs.length cap ∧ xs.length ≤ 9223372036854775807 ∧ (∀ s ∈ xs, (fun _ : UInt8 => True) s) ∧ Sl byteE 1 W a xs :=
  open_sl Try.underlying22 (by kernel_rfl) (by decide) (fun n cs x hx => by
    obtain ⟨s, rfl, _, hs⟩ := DataW.trod_int Try.underlying5 hx
    have h0 : 0 ≤ s ∧ s < 256 := by
      simp [Lit.wf, IntKind.min, IntKind.max, IntKind.bits, IntKind.signed] at hs
      omega
    exact ⟨UInt8.ofNat s.toNat, by simp [byteE]; omega, trivial⟩) hv h
end
section
open Go.ChangeShapes Go.WideShapes Go.ChangeAt Go.RowKit
theorem fnScreenBytes_lifted (os : Os) (started : os.Started) (H : Type) (enc : TypeId × Value → H) :
    ReturnsInHanded {} Try.checked os 3 .any (Rows.fnScreenBytesSpec.pre6 enc Try.prog Try.f3 Rows.fnScreenBytesRow.domain false) (Rows.fnScreenBytesSpec.post enc Try.prog Try.f3 false true false false) := by
  refine returnsInHanded_of_change (C := Try.checked) Try.own started (by kernel_rfl) Try.func3
    (ChangeSpec.witness6 (enc := enc) (C := Try.checked) false ⟨#[], #[.slice none 0 0, .slice none 0 0], []⟩ 8 (by kernel_rfl) (by kernel_rfl) (by kernel_rfl) (by kernel_rfl)) ?_
  intro W base args ds gs before hval hW hcnd _
  have hW' := hW
  obtain ⟨p, q, hA, hV, rfl, hfz, hnd⟩ := hW
  obtain ⟨v0, v1, d0, d1, p0, p1, rfl, rfl, rfl, h0, h1⟩ := trodAll_two hA
  obtain ⟨rfl, rfl⟩ := trodVars_none hV
  obtain ⟨a, ca, xs, rfl, la, _, ha⟩ := open_byteSl (hval 0 22 v0 rfl rfl) h0
  obtain ⟨b, cb, ys, rfl, lb, _, hb⟩ := open_byteSl (hval 1 22 v1 rfl rfl) h1
  exact law_calls rfl rfl (by kernel_rfl) hW' rfl (lawScrB_c a b ca cb xs ys W ha hb la lb)
theorem fnScreenBytes_holds : Rows.FnScreenBytesSaid :=
  OpenClaim.holds_of_wide 3 Try.f3 rfl rfl rfl rfl rfl rfl rfl ⟨rfl, rfl, rfl, rfl, rfl⟩ rfl rfl rfl rfl rfl (by kernel_rfl) Try.func3 (by kernel_rfl)
    (of_decide_eq_true (by kernel_rfl)) (by unfold Func.isWrapper; first | (rw [if_pos (by decide +kernel)]; kernel_rfl) | (rw [if_neg (by decide +kernel)]; exact ⟨rfl, rfl⟩))
    (fun os started H enc _ => fnScreenBytes_lifted os started H enc)
end
end Go.Proofs.Ytjmpgeffkdjpdaa
