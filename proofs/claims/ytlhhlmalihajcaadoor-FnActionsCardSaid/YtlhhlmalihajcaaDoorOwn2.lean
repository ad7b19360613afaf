/- append onto a fresh slice at a step of a region that draws its order. Plain lemmas, no program. -/
import Derived.Test.YtlhhlmalihajcaaDoorOwn
import Derived.Deep.RegionHeld3
namespace Go.Proofs.YtlhhlmalihajcaaDoor
set_option linter.unusedVariables false
set_option linter.unusedSimpArgs false
open Go.RowKit
section
variable {α : Type} {enc : α → List Value} {w : World}
theorem wp_append_fresh {P : Program} {o : Oper} {a : Act} {K : Act → World → Prop} {Q : Exit → Act → World → Prop} (s x : Operand) (t tx : TypeId)
    (ho : o.op = .call { callee := .builtin .append, args := #[s, x], argTypes := #[t, tx] })
    (lo hi : Nat) (e : TypeId) (i : TypeInfo) (z : Value) (size bytes : Nat) (ht : P.underlying t = some (.slice e)) (hinfo : P.info? e = some i) (hz : i.zero = some z)
    (hsize : i.size = size) (hby : i.bytes = bytes) (hzs : z.cells.size = size) (hbp : 0 < bytes)
    (v : Value) (zs : List α) (hs : a.eval s = v) (hF : FreshIn enc e size lo hi v zs w)
    (xv : Value) (ys : List α) (hx : a.eval x = xv) (hsrc : Src P size tx xv ys.length (ys.flatMap enc) w)
    (hbytes : (zs.length + ys.length) * bytes ≤ 140737488355328) (hlo : lo ≤ w.heap.size)
    (h : ∀ a' c' w' us, Hid (us = zs ++ ys) → FreshIn enc e size lo w'.heap.size (.slice a' us.length c') us w' → Mid lo hi w w' → K (a.put o.dst (.slice a' us.length c')) w') : o.wp P a w K Q := by
  have hrow := hF.row
  obtain ⟨⟨a', cap', rfl, h1, h2⟩, h3⟩ := hF
  have h63 : zs.length + ys.length ≤ maxLen := by
    have : zs.length + ys.length ≤ (zs.length + ys.length) * bytes := Nat.le_mul_of_pos_right _ hbp
    unfold maxLen; omega
  obtain ⟨v', w', hr, k1, k2, k3⟩ := run_append_own_src (P := P) w lo t tx o.type e i z size bytes ht hinfo hz hsize hby hzs _ zs.length (zs.flatMap enc) h2 xv ys.length (ys.flatMap enc) hsrc h63 hbytes hlo
  have hf : Fresh enc e size lo v' (zs ++ ys) w' := Fresh.of_own k1 (by simp) (by simp)
  obtain ⟨a1, c1, rfl, _⟩ := id hf
  unfold Oper.wp execOp
  simp only [ho, resolve, invoke, builtin, Sem.run_bind, Sem.run_pure, Result.andThen_ok, List.map_toArray, List.map_cons, List.map_nil, hs, hx, hr]
  exact h a1 c1 w' _ rfl hf.here (Mid.of_grown k2 hrow)
theorem step_append_fresh {P : Program} {ops : Array Oper} {o : Oper} {a : Act} {K : Act → World → Prop} {Q : Exit → Act → World → Prop} {E : Prop} (hgd : o.guard = none) (s x : Operand) (t tx : TypeId)
    (ho : o.op = .call { callee := .builtin .append, args := #[s, x], argTypes := #[t, tx] })
    (lo hi : Nat) (e : TypeId) (i : TypeInfo) (z : Value) (size bytes : Nat) (ht : P.underlying t = some (.slice e)) (hinfo : P.info? e = some i) (hz : i.zero = some z)
    (hsize : i.size = size) (hby : i.bytes = bytes) (hzs : z.cells.size = size) (hbp : 0 < bytes)
    (v : Value) (zs : List α) (hs : a.eval s = v) (hF : FreshIn enc e size lo hi v zs w)
    (xv : Value) (ys : List α) (hx : a.eval x = xv) (hsrc : Src P size tx xv ys.length (ys.flatMap enc) w)
    (hbytes : (zs.length + ys.length) * bytes ≤ 140737488355328) (hlo : lo ≤ w.heap.size)
    (h : ∀ a' c' w' us, Hid (us = zs ++ ys) → FreshIn enc e size lo w'.heap.size (.slice a' us.length c') us w' → Mid lo hi w w' → K (a.put o.dst (.slice a' us.length c')) w') :
    if Region.wanted o (yielded ops a.tmps) = true then Oper.wp P o a w K Q else E := by
  have hw : Region.wanted o (yielded ops a.tmps) = true := by simp [Region.wanted, hgd]
  rw [if_pos hw]
  exact wp_append_fresh s x t tx ho lo hi e i z size bytes ht hinfo hz hsize hby hzs hbp v zs hs hF xv ys hx hsrc hbytes hlo h
theorem SlIn.string_src {P : Program} {tx : TypeId} (hk : P.underlying tx = some .string) (s : ByteArray) : Src P 1 tx (.string s) s.data.toList.length (s.data.toList.flatMap byteE) w := Src.ofStr hk s
end
end Go.Proofs.YtlhhlmalihajcaaDoor
