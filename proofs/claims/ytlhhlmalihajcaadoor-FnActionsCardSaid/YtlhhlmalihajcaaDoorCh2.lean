/- append onto a slice of one's own, as one step of a drawn region. Plain lemmas. -/
import Derived.Test.YtlhhlmalihajcaaDoorCh
import Derived.Test.YtlhhlmalihajcaaDoorHeldG
namespace Go.Proofs.YtlhhlmalihajcaaDoor
set_option linter.unusedVariables false
set_option linter.unusedSimpArgs false
open Go.RowKit
section
variable {α : Type} {enc : α → List Value} {w : World}
theorem step_append_wp {P : Program} {o : Oper} {a : Act} {K : Act → World → Prop} {Q : Exit → Act → World → Prop} (s x : Operand) (t tx : TypeId)
    (ho : o.op = .call { callee := .builtin .append, args := #[s, x], argTypes := #[t, tx] })
    (lo hi : Nat) (e : TypeId) (i : TypeInfo) (z : Value) (size bytes : Nat) (ht : P.underlying t = some (.slice e)) (hinfo : P.info? e = some i) (hz : i.zero = some z)
    (hsize : i.size = size) (hby : i.bytes = bytes) (hzs : z.cells.size = size) (hbp : 0 < bytes)
    (ad : Option Addr) (n c : Nat) (zs : List α) (hs : a.eval s = .slice ad n c) (hF : FreshIn enc e size lo hi (.slice ad n c) zs w)
    (xv : Value) (ys : List α) (hx : a.eval x = xv) (hsrc : Src P size tx xv ys.length (ys.flatMap enc) w)
    (hbytes : (zs.length + ys.length) * bytes ≤ 140737488355328) (hlo : lo ≤ w.heap.size)
    (h : ∀ a' c' w' us, Hid (us = zs ++ ys) → FreshIn enc e size lo w'.heap.size (.slice a' us.length c') us w' → Mid lo hi w w' → (∀ k ∈ blkOf a', k ∈ blkOf ad ∨ k = w.heap.size) → K (a.put o.dst (.slice a' us.length c')) w') :
    Oper.wp P o a w K Q := by
  have hrow := hF.row
  obtain ⟨⟨a', cap', hv, h1, h2⟩, h3⟩ := hF
  cases hv
  have h63 : zs.length + ys.length ≤ maxLen := by
    have : zs.length + ys.length ≤ (zs.length + ys.length) * bytes := Nat.le_mul_of_pos_right _ hbp
    unfold maxLen; omega
  obtain ⟨v', w', hr, k1, k2, k3⟩ := run_append_own_src (P := P) w lo t tx o.type e i z size bytes ht hinfo hz hsize hby hzs _ zs.length (zs.flatMap enc) h2 xv ys.length (ys.flatMap enc) hsrc h63 hbytes hlo
  have hf : Fresh enc e size lo v' (zs ++ ys) w' := Fresh.of_own k1 (by simp) (by simp)
  obtain ⟨a1, c1, rfl, _⟩ := id hf
  unfold Oper.wp execOp
  simp only [ho, resolve, invoke, builtin, Sem.run_bind, Sem.run_pure, Result.andThen_ok, List.map_toArray, List.map_cons, List.map_nil, hs, hx, hr]
  refine h a1 c1 w' _ rfl hf.here (Mid.of_grown k2 hrow) (fun k hk => ?_)
  have hk' := (blkOf_own' (n := (zs ++ ys).length) (c := c1)).1 hk
  rcases k3 with k3 | k3
  · exact .inl ((blkOf_own' (n := zs.length) (c := c)).2 (k3 ▸ hk'))
  · rw [k3] at hk'
    exact .inr (Option.some.inj hk').symm
end

section
variable {α : Type} {enc : α → List Value} {w : World}
theorem step_append_ch {P : Program} {o : Oper} {a : Act} {K : Act → World → Prop} {Q : Exit → Act → World → Prop} (s x : Operand) (t tx : TypeId)
    (lo : Nat) (e : TypeId) (i : TypeInfo) (z : Value) (size bytes : Nat) (ht : P.underlying t = some (.slice e)) (hinfo : P.info? e = some i) (hz : i.zero = some z)
    (hsize : i.size = size) (hby : i.bytes = bytes) (hzs : z.cells.size = size) (hbp : 0 < bytes)
    (ad : Option Addr) (n c : Nat) (zs : List α) (hF : FreshIn enc e size lo w.heap.size (.slice ad n c) zs w)
    (xv : Value) (ys : List α) (hsrc : Src P size tx xv ys.length (ys.flatMap enc) w)
    (hbytes : (zs.length + ys.length) * bytes ≤ 140737488355328) (hlo : lo ≤ w.heap.size)
    (ho : o.op = .call { callee := .builtin .append, args := #[s, x], argTypes := #[t, tx] }) (hs : a.eval s = .slice ad n c) (hx : a.eval x = xv)
    (h : ∀ a' c' w' us, Hid (us = zs ++ ys) → FreshIn enc e size lo w'.heap.size (.slice a' us.length c') us w' → Ch (· ∈ blkOf ad) w w' → (∀ k ∈ blkOf a', k ∈ blkOf ad ∨ k = w.heap.size) → K (a.put o.dst (.slice a' us.length c')) w') : Oper.wp P o a w K Q := by
  obtain ⟨b, t1, t2, t3, t4⟩ := hF.tight
  refine step_append_wp s x t tx ho b (b + 1) e i z size bytes ht hinfo hz hsize hby hzs hbp ad n c zs hs t1 xv ys hx hsrc hbytes t2 ?_
  intro a' c' w' us hus hf hm hk
  refine h a' c' w' us hus ?_ (Ch.of_mid hm t3) hk
  rcases Nat.lt_or_ge b w.heap.size with hb | hb
  · exact hf.mono (t4 hb).2 (Nat.le_refl _)
  · exact hf.mono (by omega) (Nat.le_refl _)
end
end Go.Proofs.YtlhhlmalihajcaaDoor
