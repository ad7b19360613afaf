/- The text of an action produces exactly this action in a new parser: the law FnActions returns true for all codes, and its argument reads afterwards as it read before. The row lists five tables of Go's library, tied to the program's text. No conditions. -/
import Derived.Test.YtlhhlmalihajcaaDoorSqA
import Derived.Test.YtlhhlmalihajcaaDoorQLo
import Derived.Deep.DeepCutAuto
import Derived.Test.YtlhhlmalihajcaaDoorSl
import Derived.Laws.IdiomStrings
import Derived.Test.YtlhhlmalihajcaaDoorOwn
import Derived.Test.YtlhhlmalihajcaaDoorScalar
import Derived.Test.YtlhhlmalihajcaaDoorAcC
import Derived.Test.YtlhhlmalihajcaaDoorTie
import Derived.Test.YtlhhlmalihajcaaDoorCards
import Derived.Test.YtlhhlmalihajcaaDoorPaA
import Derived.Test.YtlhhlmalihajcaaDoorFrame
import Derived.Lib.LaidU8T
import Derived.PinnedBridge
import Derived.Lay
import Derived.LaidMore
import Derived.Stop.Joined
import Derived.SevenTiedAt
import Derived.ChangeMaps5
import Derived.Test.YtlhhlmalihajcaaDoorFrame3
import Derived.Lib.LaidTab
namespace Go.Proofs.YtlhhlmalihajcaaDoor
set_option linter.unusedVariables false
set_option linter.unusedSimpArgs false
section
open Go.RowKit
/-- A call's parser in a box, its actions and its code. -/
def OutB (R : (PV × List AV) × Int) (w : World) (s1 s2 s3 : Value) (wx : World) : Prop :=
  ∃ (H : Nat) (a : Option Addr) (c : Nat) (al : Option Addr) (cl : Nat) (L : List ActA), s1 = .pointer (some ⟨H, 0, none⟩) ∧ s2 = .slice al L.length cl ∧ s3 = .int .i64 R.2 ∧ w.heap.size ≤ H ∧ H < wx.heap.size ∧
    wx.cell? ⟨H, 0, none⟩ = some (.int .i64 R.1.1.state) ∧ wx.cell? ⟨H, 1, none⟩ = some (.slice a R.1.1.args.length c) ∧ wx.cell? ⟨H, 2, none⟩ = some (.bool R.1.1.priv) ∧ wx.cell? ⟨H, 3, none⟩ = some (.string R.1.1.text) ∧ wx.cell? ⟨H, 4, none⟩ = some (.string R.1.1.utf) ∧
    FreshIn intE 3 1 w.heap.size wx.heap.size (.slice a R.1.1.args.length c) R.1.1.args wx ∧ ActO w.heap.size L al cl wx ∧ (∀ k ∈ blkOf a, k ∉ acB al L) ∧ H ∉ blkOf a ++ acB al L ∧ L.map (·.A) = R.1.2 ∧ Below w.heap.size w wx
theorem outB_alloc {R : (PV × List AV) × Int} {w w3 : World} {a al : Option Addr} {c cl : Nat} {L : List ActA} {v : Int} (hb : Below w.heap.size w w3) (hf : FreshIn intE 3 1 w.heap.size w3.heap.size (.slice a R.1.1.args.length c) R.1.1.args w3) (hro : ActO w.heap.size L al cl w3) (hd : ∀ k ∈ blkOf a, k ∉ acB al L) (hL : L.map (·.A) = R.1.2) (hv : v = R.2) :
    OutB R w (.pointer (some ⟨w3.heap.size, 0, none⟩)) (.slice al L.length cl) (.int .i64 v) (w3.alloc (.cells #[.int .i64 R.1.1.state, .slice a R.1.1.args.length c, .bool R.1.1.priv, .string R.1.1.text, .string R.1.1.utf] 25)) := by
  subst hv
  have hc : Ch (fun _ => False) w3 (w3.alloc (.cells #[.int .i64 R.1.1.state, .slice a R.1.1.args.length c, .bool R.1.1.priv, .string R.1.1.text, .string R.1.1.utf] 25)) := Ch.refl.alloc _
  refine ⟨w3.heap.size, a, c, al, cl, L, rfl, rfl, rfl, hb.size, by simp, ?_, ?_, ?_, ?_, ?_, hf.ch hc (fun _ _ h => h), hro.ch actL hc (fun _ _ h => h), hd, fun h => ?_, hL, hb.alloc hb.size _⟩
  all_goals try (simp [go_sem]; done)
  rcases List.mem_append.1 h with h | h
  · have := (FreshIn.blks hf _ h).2; omega
  · have := (hro.bd actL _ h).2; omega
theorem outB_store {R : (PV × List AV) × Int} {w w1 w3 : World} {H : Nat} {a al : Option Addr} {c cl : Nat} {L : List ActA} {v : Int} (hH : w.heap.size ≤ H) (hH1 : H < w1.heap.size) (hz : w1.heap.size ≤ w3.heap.size) (hb : Below w.heap.size w w3) (h0 : ∃ v, w3.cell? ⟨H, 0, none⟩ = some v) (h1 : ∃ v, w3.cell? ⟨H, 1, none⟩ = some v) (h2 : ∃ v, w3.cell? ⟨H, 2, none⟩ = some v) (h3 : ∃ v, w3.cell? ⟨H, 3, none⟩ = some v) (h4 : ∃ v, w3.cell? ⟨H, 4, none⟩ = some v)
    (hf : FreshIn intE 3 1 w1.heap.size w3.heap.size (.slice a R.1.1.args.length c) R.1.1.args w3) (hro : ActO w1.heap.size L al cl w3) (hd : ∀ k ∈ blkOf a, k ∉ acB al L) (hL : L.map (·.A) = R.1.2) (hv : v = R.2) :
    OutB R w (.pointer (some ⟨H, 0, none⟩)) (.slice al L.length cl) (.int .i64 v) (((((w3.setCell ⟨H, 0, none⟩ (.int .i64 R.1.1.state)).setCell ⟨H, 1, none⟩ (.slice a R.1.1.args.length c)).setCell ⟨H, 2, none⟩ (.bool R.1.1.priv)).setCell ⟨H, 3, none⟩ (.string R.1.1.text)).setCell ⟨H, 4, none⟩ (.string R.1.1.utf)) := by
  subst hv
  obtain ⟨v0, h0⟩ := h0
  obtain ⟨v1, h1⟩ := h1
  obtain ⟨v2, h2⟩ := h2
  obtain ⟨v3, h3⟩ := h3
  obtain ⟨v4, h4⟩ := h4
  have hlt : H < w3.heap.size := by omega
  have hc : Ch (fun k => k = H) w3 (((((w3.setCell ⟨H, 0, none⟩ (.int .i64 R.1.1.state)).setCell ⟨H, 1, none⟩ (.slice a R.1.1.args.length c)).setCell ⟨H, 2, none⟩ (.bool R.1.1.priv)).setCell ⟨H, 3, none⟩ (.string R.1.1.text)).setCell ⟨H, 4, none⟩ (.string R.1.1.utf)) := ((((Ch.set1 _ _ _ _).setB _ _).setB _ _).setB _ _).setB _ _
  have na : ∀ k ∈ blkOf a, ¬ k = H := fun k hk e => by have := (FreshIn.blks hf k hk).1; omega
  have nl : ∀ k ∈ acB al L, ¬ k = H := fun k hk e => by have := (hro.bd actL k hk).1; omega
  refine ⟨H, a, c, al, cl, L, rfl, rfl, rfl, hH, Nat.lt_of_lt_of_le hlt hc.size, ?_, ?_, ?_, ?_, ?_, (hf.ch hc na).mono (by omega) (Nat.le_refl _), (hro.ch actL hc nl).low actL (by omega), hd, fun h => ?_, hL, hb.trans (hc.below (by omega) (fun k hk => by omega))⟩
  all_goals try (simp [go_sem, h0, h1, h2, h3, h4, hlt]; done)
  rcases List.mem_append.1 h with h | h
  · exact na _ h rfl
  · exact nl _ h rfl
/-- Rows more. -/
theorem RO.pushL {R : Type} {enc : R → List Value} {T : TypeId} {sz : Nat} {own : Nat → World → R → Prop} {blk : R → List Nat} {lo : Nat} {L ys us : List R} {am am' : Option Addr} {cm cm' : Nat} {w w' : World} (hO : OwnL own blk) (h : RO enc T sz own blk lo L am cm w) (hx : ∀ x ∈ ys, own lo w x) (hn : (ys.flatMap blk).Nodup) (hd : ∀ k ∈ ys.flatMap blk, k ∉ roB blk am L)
    (hus : us = L ++ ys) (hf : FreshIn enc T sz lo w'.heap.size (.slice am' us.length cm') us w') (hc : Ch (· ∈ blkOf am) w w') (hk : ∀ k ∈ blkOf am', k ∈ blkOf am ∨ k = w.heap.size) : RO enc T sz own blk lo us am' cm' w' := by
  have hnd := h.nd
  simp only [roB, List.nodup_append] at hnd
  obtain ⟨n1, n2, n3⟩ := hnd
  have hyb : ∀ k ∈ ys.flatMap blk, k < w.heap.size := fun k hk => by
    obtain ⟨x, hx1, hx2⟩ := List.mem_flatMap.1 hk
    exact (hO.bd (hx x hx1) k hx2).2
  subst hus
  refine ⟨hf, fun r hr => ?_, ?_⟩
  · rcases List.mem_append.1 hr with hr | hr
    · exact hO.ch (h.ow r hr) hc (fun k hk1 hk2 => n3 k hk2 k (List.mem_flatMap.2 ⟨r, hr, hk1⟩) rfl)
    · exact hO.ch (hx r hr) hc (fun k hk1 hk2 => hd k (List.mem_flatMap.2 ⟨r, hr, hk1⟩) (by simp [roB, hk2]))
  · simp only [roB, List.flatMap_append, List.nodup_append]
    refine ⟨blkOf_nodup _, ⟨n2, hn, fun k hk1 j hj e => ?_⟩, fun k hk1 j hj e => ?_⟩
    · subst e
      exact hd k hj (by simp only [roB, List.mem_append]; exact .inr hk1)
    · subst e
      have hlt : k < w.heap.size := by
        rcases List.mem_append.1 hj with h2 | h2
        · obtain ⟨r, hr, hk3⟩ := List.mem_flatMap.1 h2
          exact (hO.bd (h.ow r hr) k hk3).2
        · exact hyb k h2
      rcases hk k hk1 with h1 | h1
      · rcases List.mem_append.1 hj with h2 | h2
        · exact n3 k h1 k h2 rfl
        · exact hd k h2 (by simp [roB, h1])
      · omega
theorem pb_ok {p : PV} (h : PvOK p) (l : List UInt8) (hl : l.length ≤ 65536) : pbytes p l = (prun p l, 0) := by
  unfold pbytes
  rw [if_neg (by omega), if_neg (by rw [pvB_iff.2 h]; simp)]
theorem pb1_ok {p : PV} (h : PvOK p) (b : UInt8) : pbyte p (b.toNat : Int) = (pstep p b, 0) := by
  unfold pbyte
  have hb := b.toNat_lt
  rw [if_neg (by rw [pvB_iff.2 h]; simp), if_neg (by simp [inB]; omega)]
  simp
theorem prun_split (p : PV) (l : List UInt8) (k : Nat) : prun p l = ((prun (prun p (l.take k)).1 (l.drop k)).1, (prun p (l.take k)).2 ++ (prun (prun p (l.take k)).1 (l.drop k)).2) := by
  conv => lhs; rw [← List.take_append_drop k l]
  exact prun_append p _ _
section
variable {X lo : Nat} {p : PV} {ap al al' : Option Addr} {cp cl cl' : Nat} {L ys us : List ActA} {w w' : World}
/-- The parser's box is written anew. -/
theorem PS.put {P : PV} {a5 : Option Addr} {c5 lo' : Nat} (h : PS X lo P a5 c5 L al cl w) (p : PV) {a : Option Addr} {c : Nat} (hf : FreshIn intE 3 1 lo' w.heap.size (.slice a p.args.length c) p.args w) (hlo : lo ≤ lo') (hn : ∀ k ∈ blkOf a, k ≠ X ∧ k ∉ acB al L) :
    PS X lo p a c L al cl (((((w.setCell ⟨X, 0, none⟩ (.int .i64 p.state)).setCell ⟨X, 1, none⟩ (.slice a p.args.length c)).setCell ⟨X, 2, none⟩ (.bool p.priv)).setCell ⟨X, 3, none⟩ (.string p.text)).setCell ⟨X, 4, none⟩ (.string p.utf)) := by
  have hc : Ch (fun k => k = X) w (((((w.setCell ⟨X, 0, none⟩ (.int .i64 p.state)).setCell ⟨X, 1, none⟩ (.slice a p.args.length c)).setCell ⟨X, 2, none⟩ (.bool p.priv)).setCell ⟨X, 3, none⟩ (.string p.text)).setCell ⟨X, 4, none⟩ (.string p.utf)) := ((((Ch.set1 _ _ _ _).setB _ _).setB _ _).setB _ _).setB _ _
  have k0 := h.c0
  have k1 := h.c1
  have k2 := h.c2
  have k3 := h.c3
  have k4 := h.c4
  have kf := h.fz
  have kl := h.lt
  refine ⟨?_, ?_, ?_, ?_, ?_, fun o => by simp [go_sem, kf], Nat.lt_of_lt_of_le kl hc.size, (hf.ch hc (fun k hk e => (hn k hk).1 e)).mono hlo (Nat.le_refl _), h.ro.ch actL hc (fun k hk e => h.nB (by rw [List.mem_append]; exact .inr (e ▸ hk))), fun hb => ?_, fun k hk => (hn k hk).2⟩
  all_goals try (simp [go_sem, k0, k1, k2, k3, k4, kl]; done)
  rcases List.mem_append.1 hb with hb | hb
  · exact (hn X hb).1 rfl
  · exact h.nB (by rw [List.mem_append]; exact .inr hb)
theorem PS.app (h : PS X lo p ap cp L al cl w) (hx : ∀ x ∈ ys, actOwn lo w x) (hn : (ys.flatMap actBlk).Nodup) (hd : ∀ k ∈ ys.flatMap actBlk, k ≠ X ∧ k ∉ blkOf ap ∧ k ∉ acB al L) (hus : us = L ++ ys) (hf : FreshIn actE 46 5 lo w'.heap.size (.slice al' us.length cl') us w') (hc : Ch (· ∈ blkOf al) w w')
    (hk : ∀ k ∈ blkOf al', k ∈ blkOf al ∨ k = w.heap.size) : PS X lo p ap cp us al' cl' w' ∧ ∀ k ∈ acB al' us, k ∈ acB al L ∨ k ∈ ys.flatMap actBlk ∨ k = w.heap.size := by
  have hB : X ∉ blkOf al := fun hb => h.nB (by simp [roB, hb])
  have hA : ∀ k ∈ blkOf ap, k ∉ blkOf al := fun k hk1 hk2 => h.nd k hk1 (by simp [roB, hk2])
  have hro : ActO lo us al' cl' w' := h.ro.pushL actL hx hn (fun k hk1 => (hd k hk1).2.2) hus hf hc hk
  have hin : ∀ k ∈ acB al' us, k ∈ acB al L ∨ k ∈ ys.flatMap actBlk ∨ k = w.heap.size := by
    intro k hk1
    simp only [roB, List.mem_append] at hk1 ⊢
    rcases hk1 with hk1 | hk1
    · rcases hk k hk1 with h2 | h2
      · exact .inl (.inl h2)
      · exact .inr (.inr h2)
    · rw [hus] at hk1
      simp only [List.flatMap_append, List.mem_append] at hk1
      rcases hk1 with hk1 | hk1
      · exact .inl (.inr hk1)
      · exact .inr (.inl hk1)
  refine ⟨⟨(hc.cell (p := ⟨X, 0, none⟩) h.lt hB).trans h.c0, (hc.cell (p := ⟨X, 1, none⟩) h.lt hB).trans h.c1, (hc.cell (p := ⟨X, 2, none⟩) h.lt hB).trans h.c2, (hc.cell (p := ⟨X, 3, none⟩) h.lt hB).trans h.c3, (hc.cell (p := ⟨X, 4, none⟩) h.lt hB).trans h.c4, fun o => (hc.frozen (p := ⟨X, o, none⟩) h.lt hB).trans (h.fz o), Nat.lt_of_lt_of_le h.lt hc.size, h.args.ch hc hA, hro, fun hb => ?_, fun k hk1 hk2 => ?_⟩, hin⟩
  · rcases List.mem_append.1 hb with hb | hb
    · exact h.nB (by simp [hb])
    · rcases hin X hb with h2 | h2 | h2
      · exact h.nB (List.mem_append.2 (.inr h2))
      · exact (hd X h2).1 rfl
      · have := h.lt; omega
  · rcases hin k hk2 with h2 | h2 | h2
    · exact h.nd k hk1 h2
    · exact (hd k h2).2.1 hk1
    · have := (FreshIn.blks h.args k hk1).2; omega
end
theorem ActS.ch {w w' : World} {a : Option Addr} {L : List ActA} {M : Nat → Prop} (h : ActS w a L) (hc : Ch M w w') (hd : ∀ k ∈ acB a L, ¬ M k) : ActS w' a L :=
  ⟨Sl.ch h.1 hc (fun k hk => hd k (by simp [roB, hk])), fun r hr => Sl.ch (h.2 r hr) hc (fun k hk => hd k (by simp only [roB, List.mem_append, List.mem_flatMap]; exact .inr ⟨r, hr, hk⟩))⟩
/-- A box that may be written. -/
def FzA (X : Nat) (w : World) : Prop := X < w.heap.size ∧ ∀ o, w.frozen? ⟨X, o, none⟩ = false
theorem FzA.below {X : Nat} {w w' : World} (h : FzA X w) (hb : Below w.heap.size w w') : FzA X w' := ⟨Nat.lt_of_lt_of_le h.1 hb.size, fun o => (hb.frozen (p := ⟨X, o, none⟩) h.1).trans (h.2 o)⟩
theorem FzA.alloc {X : Nat} {w : World} (h : FzA X w) (o : Obj) : FzA X (w.alloc o) := h.below ((Below.refl _ _).alloc (Nat.le_refl _) _)
/-- append onto a slice of one's own, behind a guard. -/
theorem wpList_append_gd {α : Type} {enc : α → List Value} {w : World} {P : Program} {ops : Array Oper} {rest : List Oper} {o : Oper} {a : Act} {Q : Exit → Act → World → Prop} (s x : Operand) (t tx : TypeId)
    (lo : Nat) (e : TypeId) (i : TypeInfo) (z : Value) (size bytes : Nat) (ht : P.underlying t = some (.slice e)) (hinfo : P.info? e = some i) (hz : i.zero = some z)
    (hsize : i.size = size) (hby : i.bytes = bytes) (hzs : z.cells.size = size) (hbp : 0 < bytes)
    (ad : Option Addr) (n c : Nat) (zs : List α) (hF : FreshIn enc e size lo w.heap.size (.slice ad n c) zs w)
    (xv : Value) (ys : List α) (hsrc : Src P size tx xv ys.length (ys.flatMap enc) w)
    (hbytes : (zs.length + ys.length) * bytes ≤ 140737488355328) (hlo : lo ≤ w.heap.size)
    (hgd : Region.wanted o (yielded ops a.tmps) = true) (ho : o.op = .call { callee := .builtin .append, args := #[s, x], argTypes := #[t, tx] }) (hs : a.eval s = .slice ad n c) (hx : a.eval x = xv)
    (h : ∀ a' c' w' us, Hid (us = zs ++ ys) → FreshIn enc e size lo w'.heap.size (.slice a' us.length c') us w' → Ch (· ∈ blkOf ad) w w' → (∀ k ∈ blkOf a', k ∈ blkOf ad ∨ k = w.heap.size) → wpList P ops Q rest (a.put o.dst (.slice a' us.length c')) w') : wpList P ops Q (o :: rest) a w := by
  refine wpList_step fun K hK => ?_
  rw [if_pos hgd]
  exact step_append_ch s x t tx lo e i z size bytes ht hinfo hz hsize hby hzs hbp ad n c zs hF xv ys hsrc hbytes hlo ho hs hx (fun a' c' w' us h1 h2 h3 h4 => hK _ _ (h a' c' w' us h1 h2 h3 h4))
theorem sameParser_eq (ap aq : Option Addr) (cp cq : Nat) (p q : PV) (w : World) (hq : q = p) (ha : Sl intE 1 w ap p.args) (hb : Sl intE 1 w aq q.args) (hl : p.args.length ≤ 1048576) :
    Calls Tryd.prog 10 #[.agg #[.int .i64 p.state, .slice ap p.args.length cp, .bool p.priv, .string p.text, .string p.utf], .agg #[.int .i64 q.state, .slice aq q.args.length cq, .bool q.priv, .string q.text, .string q.utf]] w fun e w' => e = .returned (.bool true) ∧ Below w.heap.size w w' := by
  subst hq
  exact sameParser_same ap aq cp cq q w ha hb hl
theorem pvsz_ok {p : PV} (h : PvOK p) : PvSz p 1048576 := by
  refine ⟨by have := h.len; omega, by have := h.tit.1; omega, ?_⟩
  by_cases h6 : p.state = 6
  · have := h.ut h6
    simp only [begB, Bool.and_eq_true, decide_eq_true_eq] at this
    have h2 : utfLen (p.utf.data.toList.headD 0).toNat ≤ 4 := by unfold utfLen; (repeat' split) <;> omega
    have h3 : p.utf.data.toList.length = p.utf.size := rfl
    omega
  · rw [h.nout h6]; decide
theorem Sl.takeK {α : Type} {enc : α → List Value} {sz : Nat} {w : World} {a : Option Addr} {xs : List α} (h : Sl enc sz w a xs) (k : Nat) : Sl enc sz w a (xs.take k) := by
  rcases h with rfl | ⟨b, off, he, hlt, hc⟩
  · exact .inl (by simp)
  · refine .inr ⟨b, off, he, hlt, fun i hi j hj => ?_⟩
    have hi' : i < xs.length := by rw [List.length_take] at hi; omega
    have h2 := hc i hi' j (by simpa using hj)
    simpa using h2
theorem Sl.dropK {α : Type} {enc : α → List Value} {sz : Nat} {w : World} {b : Nat} {xs : List α} (h : Sl enc sz w (some ⟨b, 0, none⟩) xs) (k : Nat) : Sl enc sz w (some ⟨b, k * sz, none⟩) (xs.drop k) := by
  rcases h with rfl | ⟨b', off, he, hlt, hc⟩
  · exact .inl (by simp)
  · cases he
    refine .inr ⟨b, k * sz, rfl, hlt, fun i hi j hj => ?_⟩
    have hi' : k + i < xs.length := by rw [List.length_drop] at hi; omega
    have h2 := hc (k + i) hi' j (by simpa using hj)
    rw [Nat.add_mul, ← Nat.add_assoc, Nat.zero_add] at h2
    simpa using h2
/-- Bytes in a block. -/
def ByA (g : Nat) (l : List UInt8) (w : World) : Prop := Sl byteE 1 w (some ⟨g, 0, none⟩) l
theorem ByA.below {g : Nat} {l : List UInt8} {w w' : World} (h : ByA g l w) (hb : Below w.heap.size w w') : ByA g l w' := Sl.keep h hb
theorem ByA.alloc {g : Nat} {l : List UInt8} {w : World} (h : ByA g l w) (o : Obj) : ByA g l (w.alloc o) := h.below ((Below.refl _ _).alloc (Nat.le_refl _) _)
theorem ByA.drew {g : Nat} {l : List UInt8} {w : World} (h : ByA g l w) : ByA g l w.drew := h.below ((Below.refl _ _).drew)
theorem ByA.ch {g : Nat} {l : List UInt8} {w w' : World} {M : Nat → Prop} (h : ByA g l w) (hc : Ch M w w') (hg : ¬ M g) : ByA g l w' := Sl.ch h hc (fun k hk => by simp [blkOf] at hk; subst hk; exact hg)
theorem ByA.sl {g : Nat} {l : List UInt8} {w : World} (h : ByA g l w) : Sl byteE 1 w (some ⟨g, 0, none⟩) l := h
/-- impl.ParseBytes, ParseByte of a parser that is right. -/
theorem pbI (ap : Option Addr) (cp : Nat) (p : PV) (a : Option Addr) (ca n : Nat) (l : List UInt8) (R : PV × List AV) (W : World) (ok : PvOK p) (hn : l.length = n) (hl : n ≤ 65536) (hR : prun p l = R) (ha : Sl intE 1 W ap p.args) (hb : Sl byteE 1 W a l) (hUT : UT W) :
    Calls Tryd.prog 8 #[.agg #[.int .i64 p.state, .slice ap p.args.length cp, .bool p.priv, .string p.text, .string p.utf], .slice a n ca] W (OutR (R, 0) W) := by
  subst hn hR
  have h := implParseBytes_c ap cp p a ca l W ha hb (by omega) (pvsz_ok ok) hUT
  rwa [pb_ok ok l hl] at h
theorem pbS (ap : Option Addr) (cp : Nat) (p : PV) (a : Option Addr) (ca n : Nat) (l : List UInt8) (R : PV × List AV) (W : World) (ok : PvOK p) (hn : l.length = n) (hl : n ≤ 65536) (hR : prun p l = R) (ha : Sl intE 1 W ap p.args) (hb : Sl byteE 1 W a l) :
    Calls Tryd.prog 9 #[.agg #[.int .i64 p.state, .slice ap p.args.length cp, .bool p.priv, .string p.text, .string p.utf], .slice a n ca] W (OutR (R, 0) W) := by
  subst hn hR
  have h := specParseBytes_c ap cp p a ca l W ha hb (by omega) (pvsz_ok ok)
  rwa [pb_ok ok l hl] at h
theorem pb1 (ap : Option Addr) (cp : Nat) (p : PV) (b : UInt8) (R : PV × List AV) (W : World) (ok : PvOK p) (hR : pstep p b = R) (ha : Sl intE 1 W ap p.args) (hUT : UT W) :
    Calls Tryd.prog 14 #[.agg #[.int .i64 p.state, .slice ap p.args.length cp, .bool p.priv, .string p.text, .string p.utf], .int .i64 b.toNat] W (OutR (R, 0) W) := by
  subst hR
  have h := implParseByte_c ap cp p (b.toNat : Int) W ha (pvsz_ok ok) hUT
  rwa [pb1_ok ok b] at h
theorem atI (a : Option Addr) (ca : Nat) (xs : List UInt8) (n : Nat) (W : World) (ha : Sl byteE 1 W a xs) (hl : xs.length ≤ 1048576) (h1 : 1 ≤ n) (h2 : n ≤ 1000) :
    Calls Tryd.prog 13 #[.slice a xs.length ca, .int .i64 0, .int .i64 ((n : Int) + 1)] W fun e w' => (∃ m : Nat, e = .returned (.int .i64 m) ∧ m ≤ n) ∧ Below W.heap.size W w' := by
  have h := lawAt2_c a ca xs 0 (n + 1) W ha hl (by omega) (by omega) (by omega)
  rw [show ((n + 1 : Nat) : Int) = (n : Int) + 1 from by omega, show ((0 : Nat) : Int) = 0 from rfl] at h
  refine h.mono ?_
  rintro e w' ⟨⟨m, rfl, hm⟩, hb⟩
  exact ⟨⟨m, rfl, by omega⟩, hb⟩
theorem outSz {p : PV} {R : PV × List AV} {l : List UInt8} (ok : PvOK p) (hR : prun p l = R) (hl : l.length ≤ 65536) : OutSz (R, 0) := by
  have h := pbytes_sz p l
  rwa [pb_ok ok l hl, hR] at h
end
section
open Go.RowKit
/-- What '[]byte(s)' leaves. -/
noncomputable def cvC (s : ByteArray) (w : World) : Nat := grownCap w s.size 0 5
noncomputable def cvW (s : ByteArray) (w : World) : World := w.drew.alloc (.cells (bytesRow s (cvC s w)) 5 ((bytesRow s (cvC s w)).size, (bytesRow s (cvC s w)).size + 1))
theorem cv_run (s : ByteArray) (w : World) : (convert 9 22 (.string s)).run Tryd.prog w = .ok (.slice (some ⟨w.heap.size, 0, none⟩) s.size (cvC s w)) (cvW s w) :=
  run_bytes_of_string w 9 22 5 s Tryd.underlying9 Tryd.underlying22 Tryd.underlying5
theorem cvW_below (s : ByteArray) (w : World) {B : Nat} (h : B ≤ w.heap.size) : Below B w (cvW s w) := ((Below.refl B w).drew).alloc h _
theorem cvW_sl (s : ByteArray) (w : World) : Sl byteE 1 (cvW s w) (some ⟨w.heap.size, 0, none⟩) s.data.toList := by
  refine .inr ⟨w.heap.size, 0, rfl, by simp [cvW], fun i hi j hj => ?_⟩
  obtain rfl : j = 0 := by omega
  have h1 : (cvW s w).cell? ⟨w.heap.size, 0 + i * 1 + 0, none⟩ = (bytesRow s (cvC s w))[0 + i * 1 + 0]? :=
    cell_of_row (cvW s w) w.heap.size _ _ _ _ (heap_alloc_new w.drew _)
  rw [h1]
  have h2 := bytesRow_at s (cvC s w) i (by simpa using hi)
  simp only [Nat.zero_add, Nat.mul_one, Nat.add_zero]
  rw [h2]
  simp [byteE]
end
section
open Go.RowKit
theorem pz0 : pz.state = 0 := rfl
theorem pz1 : pz.args.length = 0 := rfl
theorem pz2 : pz.priv = false := rfl
theorem pz3 : pz.text = ⟨#[]⟩ := rfl
theorem pz4 : pz.utf = ⟨#[]⟩ := rfl
def SlA (w : World) (a : Option Addr) (xs : List Int) : Prop := Sl intE 1 w a xs
theorem SlA.start {w : World} {a : Option Addr} {xs : List Int} (h : Sl intE 1 w a xs) : SlA w a xs := h
theorem SlA.sl {w : World} {a : Option Addr} {xs : List Int} (h : SlA w a xs) : Sl intE 1 w a xs := h
theorem SlA.below {w w' : World} {a : Option Addr} {xs : List Int} (h : SlA w a xs) (hb : Below w.heap.size w w') : SlA w' a xs := Sl.keep h hb
theorem SlA.alloc {w : World} {a : Option Addr} {xs : List Int} (h : SlA w a xs) (o : Obj) : SlA (w.alloc o) a xs := h.below ((Below.refl _ _).alloc (Nat.le_refl _) _)
theorem PT_at {w w' : World} (h : PT w.heap.size w) (hb : Below w.heap.size w w') : PT w'.heap.size w' := fun w2 h2 => h w2 (hb.trans (h2.mono hb.size))
theorem AcOK.argsLen {a : AV} (h : AcOK a) : a.args.length ≤ 8 := by
  rcases h with ⟨_, _, h, _⟩ | ⟨_, h, _⟩
  · exact (AcOK.xs h).1
  · rw [h]; simp
set_option maxRecDepth 100000 in
set_option maxHeartbeats 16000000 in
theorem lawActions_c (a0 : Option Addr) (ca0 : Nat) (xs : List UInt8) (w : World) (ha : Sl byteE 1 w a0 xs) (hxl : xs.length ≤ 9223372036854775807) (hUT : UT w) (hPT : PT w.heap.size w) :
    Calls Tryd.prog 5 #[.slice a0 xs.length ca0] w fun e w' => e = .returned (.bool true) ∧ Below w.heap.size w w' := by
  have HX0 := Lib.hid ha
  have HUT := Lib.hid hUT
  have HPT := Lib.hid hPT
  clear hUT ha hPT
  by_cases hd : 1048576 < xs.length
  · have hd1 : (1048576 : Int) < (xs.length : Int) := by omega
    go_enter Tryd.func5, Tryd.ntmps5
    go_wp2_with fail
    go_ret
    exact ⟨rfl, Below.refl _ _⟩
  have hd1 : (xs.length : Int) ≤ 1048576 := by omega
  have hd2 : xs.length ≤ 1048576 := by omega
  clear hd
  go_enter Tryd.func5, Tryd.ntmps5
  go_wp2_with fail
  refine (actionOf_c a0 ca0 xs _ HX0.out hd2).mono ?_
  rintro e w1 ⟨⟨A, aa, ca, hok, rfl, hfa⟩, hb1⟩
  have hz1 := hb1.size
  have HOK := Lib.hid hok
  have HA1 : Hid (SlA w1 aa A.args) := Lib.hid (SlA.start (FreshIn.sl (enc := intE) (fun _ => rfl) hfa))
  have hA8 : A.args.length ≤ 1048576 := by have := AcOK.argsLen HOK.out; omega
  clear hok hfa
  have HB1 := Lib.hid hb1
  clear hb1
  obtain ⟨T, hT⟩ : ∃ T : ByteArray, (⟨(textOf A).toArray⟩ : ByteArray) = T := ⟨_, rfl⟩
  have HT := Lib.hid hT
  have HTL : Hid (T.data.toList = textOf A) := Lib.hid (by rw [← hT])
  have hTn : T.size ≤ 100 := by
    have h1 := text_len HOK.out
    have h2 : T.size = (textOf A).length := by rw [← hT]; show (textOf A).toArray.size = _; rw [List.size_toArray]
    omega
  clear hT
  go_wp2_with fail
  refine (implActionText_c A aa ca _ HOK.out (HA1.out.alloc _).sl (PT_at HPT.out (HB1.out.alloc (by have := HB1.out.size; (try simp only [World.size_alloc]); omega) _))).mono ?_
  rw [HT.out]
  rintro e w2 ⟨rfl, hb2⟩
  have hz2 := hb2.size
  simp only [World.size_alloc] at hz2
  have HA2 := Lib.hid ((HA1.out.alloc _).below hb2)
  clear HA1
  have q2_0_0 : w2.cell? ⟨w1.heap.size, 0, none⟩ = some (.int .i64 A.kind) := by
    rw [hb2.cell (p := ⟨w1.heap.size, 0, none⟩) (show w1.heap.size < _ by (try simp) <;> (try omega))]
    first | assumption | (simp [go_sem, *])
  have q2_0_1 : w2.cell? ⟨w1.heap.size, 1, none⟩ = some (.int .i64 A.n) := by
    rw [hb2.cell (p := ⟨w1.heap.size, 1, none⟩) (show w1.heap.size < _ by (try simp) <;> (try omega))]
    first | assumption | (simp [go_sem, *])
  have q2_0_2 : w2.cell? ⟨w1.heap.size, 2, none⟩ = some (.bool A.priv) := by
    rw [hb2.cell (p := ⟨w1.heap.size, 2, none⟩) (show w1.heap.size < _ by (try simp) <;> (try omega))]
    first | assumption | (simp [go_sem, *])
  have q2_0_3 : w2.cell? ⟨w1.heap.size, 3, none⟩ = some (.slice aa A.args.length ca) := by
    rw [hb2.cell (p := ⟨w1.heap.size, 3, none⟩) (show w1.heap.size < _ by (try simp) <;> (try omega))]
    first | assumption | (simp [go_sem, *])
  have q2_0_4 : w2.cell? ⟨w1.heap.size, 4, none⟩ = some (.string A.text) := by
    rw [hb2.cell (p := ⟨w1.heap.size, 4, none⟩) (show w1.heap.size < _ by (try simp) <;> (try omega))]
    first | assumption | (simp [go_sem, *])
  have hl2_0 : w1.heap.size < w2.heap.size := by omega
  have HB2 : Hid (Below w.heap.size w w2) := (HB1.out.alloc (by (try simp) <;> (try omega)) _).trans (hb2.mono (by (try simp) <;> (try omega)))
  clear hb2
  go_wp2_with fail
  refine (specActionText_c A aa ca _ HOK.out HA2.out.sl).mono ?_
  rw [HT.out]
  rintro e w3 ⟨rfl, hb3⟩
  have hz3 := hb3.size
  have HA3 := Lib.hid (HA2.out.below hb3)
  clear HA2
  have q3_0_0 : w3.cell? ⟨w1.heap.size, 0, none⟩ = some (.int .i64 A.kind) := by
    rw [hb3.cell (p := ⟨w1.heap.size, 0, none⟩) (show w1.heap.size < _ by (try simp) <;> (try omega))]
    exact q2_0_0
  have q3_0_1 : w3.cell? ⟨w1.heap.size, 1, none⟩ = some (.int .i64 A.n) := by
    rw [hb3.cell (p := ⟨w1.heap.size, 1, none⟩) (show w1.heap.size < _ by (try simp) <;> (try omega))]
    exact q2_0_1
  have q3_0_2 : w3.cell? ⟨w1.heap.size, 2, none⟩ = some (.bool A.priv) := by
    rw [hb3.cell (p := ⟨w1.heap.size, 2, none⟩) (show w1.heap.size < _ by (try simp) <;> (try omega))]
    exact q2_0_2
  have q3_0_3 : w3.cell? ⟨w1.heap.size, 3, none⟩ = some (.slice aa A.args.length ca) := by
    rw [hb3.cell (p := ⟨w1.heap.size, 3, none⟩) (show w1.heap.size < _ by (try simp) <;> (try omega))]
    exact q2_0_3
  have q3_0_4 : w3.cell? ⟨w1.heap.size, 4, none⟩ = some (.string A.text) := by
    rw [hb3.cell (p := ⟨w1.heap.size, 4, none⟩) (show w1.heap.size < _ by (try simp) <;> (try omega))]
    exact q2_0_4
  have hl3_0 : w1.heap.size < w3.heap.size := by omega
  clear q2_0_0 q2_0_1 q2_0_2 q2_0_3 q2_0_4
  have HB3 : Hid (Below w.heap.size w w3) := HB2.out.trans (hb3.mono (by (try simp) <;> (try omega)))
  clear hb3
  go_wp2_with fail
  refine (firstParser_c _).mono ?_
  rintro e w4 ⟨a1, rfl, hfp, hb4⟩
  have hz4 := hb4.size
  have HP4 : Hid (SlA w4 a1 []) := Lib.hid (SlA.start (FreshIn.sl (enc := intE) (fun _ => rfl) hfp))
  clear hfp
  have HA4 := Lib.hid (HA3.out.below hb4)
  clear HA3
  have q4_0_0 : w4.cell? ⟨w1.heap.size, 0, none⟩ = some (.int .i64 A.kind) := by
    rw [hb4.cell (p := ⟨w1.heap.size, 0, none⟩) (show w1.heap.size < _ by (try simp) <;> (try omega))]
    exact q3_0_0
  have q4_0_1 : w4.cell? ⟨w1.heap.size, 1, none⟩ = some (.int .i64 A.n) := by
    rw [hb4.cell (p := ⟨w1.heap.size, 1, none⟩) (show w1.heap.size < _ by (try simp) <;> (try omega))]
    exact q3_0_1
  have q4_0_2 : w4.cell? ⟨w1.heap.size, 2, none⟩ = some (.bool A.priv) := by
    rw [hb4.cell (p := ⟨w1.heap.size, 2, none⟩) (show w1.heap.size < _ by (try simp) <;> (try omega))]
    exact q3_0_2
  have q4_0_3 : w4.cell? ⟨w1.heap.size, 3, none⟩ = some (.slice aa A.args.length ca) := by
    rw [hb4.cell (p := ⟨w1.heap.size, 3, none⟩) (show w1.heap.size < _ by (try simp) <;> (try omega))]
    exact q3_0_3
  have q4_0_4 : w4.cell? ⟨w1.heap.size, 4, none⟩ = some (.string A.text) := by
    rw [hb4.cell (p := ⟨w1.heap.size, 4, none⟩) (show w1.heap.size < _ by (try simp) <;> (try omega))]
    exact q3_0_4
  have hl4_0 : w1.heap.size < w4.heap.size := by omega
  clear q3_0_0 q3_0_1 q3_0_2 q3_0_3 q3_0_4
  have HB4 : Hid (Below w.heap.size w w4) := HB3.out.trans (hb4.mono (by (try simp) <;> (try omega)))
  clear hb4
  have hcv := cv_run T w4
  obtain ⟨cap, hcap⟩ : ∃ c, cvC T w4 = c := ⟨_, rfl⟩
  obtain ⟨wv, hwv⟩ : ∃ x, cvW T w4 = x := ⟨_, rfl⟩
  have hbv : Below w4.heap.size w4 wv := by rw [← hwv]; exact cvW_below T w4 (Nat.le_refl _)
  have hslv : Sl byteE 1 wv (some ⟨w4.heap.size, 0, none⟩) T.data.toList := by rw [← hwv]; exact cvW_sl T w4
  have hcapn : T.size ≤ cap := by rw [← hcap]; exact grownCap_ge _ _ _ _
  rw [hcap, hwv] at hcv
  clear hcap hwv
  obtain ⟨w5, hw5⟩ : ∃ x : World, x = wv := ⟨_, rfl⟩
  subst hw5
  obtain ⟨gb, hgbe⟩ : ∃ g, w4.heap.size = g := ⟨_, rfl⟩
  have hgq : w4.heap.size = gb := hgbe
  rw [hgbe] at hcv hslv
  obtain ⟨l, hl⟩ : ∃ l, T.data.toList = l := ⟨_, rfl⟩
  obtain ⟨n, hn⟩ : ∃ n, T.size = n := ⟨_, rfl⟩
  have hln : l.length = n := by rw [← hl, ← hn]; rfl
  rw [hl] at hslv
  have HLP : Hid (prun pz l = (pz, [A])) := Lib.hid (by rw [← hl, HTL.out]; exact parse_text HOK.out)
  rw [hn] at hcv hcapn hTn
  have HLN := Lib.hid hln
  have HSB5 : Hid (ByA gb l w5) := Lib.hid hslv
  have HGB := Lib.hid hgbe
  have hb5 := hbv
  clear hl hn hln hslv hbv
  go_wp2_with fail
  clear hcv
  have hz5 := hb5.size
  clear hgbe
  have HA5 := Lib.hid (HA4.out.below hb5)
  clear HA4
  have HP5 := Lib.hid (HP4.out.below hb5)
  clear HP4
  have q5_0_0 : w5.cell? ⟨w1.heap.size, 0, none⟩ = some (.int .i64 A.kind) := by
    rw [hb5.cell (p := ⟨w1.heap.size, 0, none⟩) (show w1.heap.size < _ by (try simp) <;> (try omega))]
    exact q4_0_0
  have q5_0_1 : w5.cell? ⟨w1.heap.size, 1, none⟩ = some (.int .i64 A.n) := by
    rw [hb5.cell (p := ⟨w1.heap.size, 1, none⟩) (show w1.heap.size < _ by (try simp) <;> (try omega))]
    exact q4_0_1
  have q5_0_2 : w5.cell? ⟨w1.heap.size, 2, none⟩ = some (.bool A.priv) := by
    rw [hb5.cell (p := ⟨w1.heap.size, 2, none⟩) (show w1.heap.size < _ by (try simp) <;> (try omega))]
    exact q4_0_2
  have q5_0_3 : w5.cell? ⟨w1.heap.size, 3, none⟩ = some (.slice aa A.args.length ca) := by
    rw [hb5.cell (p := ⟨w1.heap.size, 3, none⟩) (show w1.heap.size < _ by (try simp) <;> (try omega))]
    exact q4_0_3
  have q5_0_4 : w5.cell? ⟨w1.heap.size, 4, none⟩ = some (.string A.text) := by
    rw [hb5.cell (p := ⟨w1.heap.size, 4, none⟩) (show w1.heap.size < _ by (try simp) <;> (try omega))]
    exact q4_0_4
  have hl5_0 : w1.heap.size < w5.heap.size := by omega
  clear q4_0_0 q4_0_1 q4_0_2 q4_0_3 q4_0_4
  have HB5 : Hid (Below w.heap.size w w5) := HB4.out.trans (hb5.mono (by (try simp) <;> (try omega)))
  clear hb5
  refine (pbI a1 0 pz (some ⟨gb, 0, none⟩) cap n l (pz, [A]) _ PvOK.z HLN.out (by omega) HLP.out HP5.out.sl HSB5.out.sl (HUT.out.keep HB5.out)).mono ?_
  rintro e w6 ⟨a6, c6, al6, cl6, rs6, rfl, hfa6, hro6, hnd6, hrs6, hb6⟩
  have hz6 := hb6.size
  dsimp only at hfa6 hrs6 ⊢
  have HRS6 : Hid (rs6.map (·.A) = [A]) := Lib.hid hrs6
  have HE6 : Hid (SpP w6.heap.size w6 [] a6 al6 rs6) := Lib.hid (SpP.start (FreshIn.sl (enc := intE) (fun _ => rfl) hfa6) ⟨hro6.row.sl (fun _ => rfl), fun r hr => FreshIn.sl (enc := intE) (fun _ => rfl) (hro6.ow r hr)⟩)
  clear hrs6 hfa6 hro6 hnd6
  simp only [pz0, pz1, pz2, pz3, pz4]
  have HA6 := Lib.hid (HA5.out.below hb6)
  clear HA5
  have HP6 := Lib.hid (HP5.out.below hb6)
  clear HP5
  have HSB6 := Lib.hid (HSB5.out.below hb6)
  clear HSB5
  have q6_0_0 : w6.cell? ⟨w1.heap.size, 0, none⟩ = some (.int .i64 A.kind) := by
    rw [hb6.cell (p := ⟨w1.heap.size, 0, none⟩) (show w1.heap.size < _ by (try simp) <;> (try omega))]
    exact q5_0_0
  have q6_0_1 : w6.cell? ⟨w1.heap.size, 1, none⟩ = some (.int .i64 A.n) := by
    rw [hb6.cell (p := ⟨w1.heap.size, 1, none⟩) (show w1.heap.size < _ by (try simp) <;> (try omega))]
    exact q5_0_1
  have q6_0_2 : w6.cell? ⟨w1.heap.size, 2, none⟩ = some (.bool A.priv) := by
    rw [hb6.cell (p := ⟨w1.heap.size, 2, none⟩) (show w1.heap.size < _ by (try simp) <;> (try omega))]
    exact q5_0_2
  have q6_0_3 : w6.cell? ⟨w1.heap.size, 3, none⟩ = some (.slice aa A.args.length ca) := by
    rw [hb6.cell (p := ⟨w1.heap.size, 3, none⟩) (show w1.heap.size < _ by (try simp) <;> (try omega))]
    exact q5_0_3
  have q6_0_4 : w6.cell? ⟨w1.heap.size, 4, none⟩ = some (.string A.text) := by
    rw [hb6.cell (p := ⟨w1.heap.size, 4, none⟩) (show w1.heap.size < _ by (try simp) <;> (try omega))]
    exact q5_0_4
  have hl6_0 : w1.heap.size < w6.heap.size := by omega
  clear q5_0_0 q5_0_1 q5_0_2 q5_0_3 q5_0_4
  have HB6 : Hid (Below w.heap.size w w6) := HB5.out.trans (hb6.mono (by (try simp) <;> (try omega)))
  clear hb6
  clear HP6
  clear HSB6
  go_wp2_with fail
  refine (implArgOf_c A aa ca _ HOK.out (HA6.out.alloc _).sl).mono ?_
  rintro e w7 ⟨rfl, hb7⟩
  have hz7 := hb7.size
  simp only [World.size_alloc] at hz7
  have HA7 := Lib.hid ((HA6.out.alloc _).below hb7)
  clear HA6
  have HE67 := Lib.hid ((HE6.out.alloc _).below hb7)
  clear HE6
  have q7_0_0 : w7.cell? ⟨w1.heap.size, 0, none⟩ = some (.int .i64 A.kind) := by
    rw [hb7.cell (p := ⟨w1.heap.size, 0, none⟩) (show w1.heap.size < _ by (try simp) <;> (try omega))]
    first | assumption | (simp [go_sem, *])
  have q7_0_1 : w7.cell? ⟨w1.heap.size, 1, none⟩ = some (.int .i64 A.n) := by
    rw [hb7.cell (p := ⟨w1.heap.size, 1, none⟩) (show w1.heap.size < _ by (try simp) <;> (try omega))]
    first | assumption | (simp [go_sem, *])
  have q7_0_2 : w7.cell? ⟨w1.heap.size, 2, none⟩ = some (.bool A.priv) := by
    rw [hb7.cell (p := ⟨w1.heap.size, 2, none⟩) (show w1.heap.size < _ by (try simp) <;> (try omega))]
    first | assumption | (simp [go_sem, *])
  have q7_0_3 : w7.cell? ⟨w1.heap.size, 3, none⟩ = some (.slice aa A.args.length ca) := by
    rw [hb7.cell (p := ⟨w1.heap.size, 3, none⟩) (show w1.heap.size < _ by (try simp) <;> (try omega))]
    first | assumption | (simp [go_sem, *])
  have q7_0_4 : w7.cell? ⟨w1.heap.size, 4, none⟩ = some (.string A.text) := by
    rw [hb7.cell (p := ⟨w1.heap.size, 4, none⟩) (show w1.heap.size < _ by (try simp) <;> (try omega))]
    first | assumption | (simp [go_sem, *])
  have hl7_0 : w1.heap.size < w7.heap.size := by omega
  clear q6_0_0 q6_0_1 q6_0_2 q6_0_3 q6_0_4
  have q7_1_0 : w7.cell? ⟨w6.heap.size, 0, none⟩ = some (.int .i64 0) := by
    rw [hb7.cell (p := ⟨w6.heap.size, 0, none⟩) (show w6.heap.size < _ by (try simp) <;> (try omega))]
    first | assumption | (simp [go_sem, *])
  have q7_1_1 : w7.cell? ⟨w6.heap.size, 1, none⟩ = some (.slice a6 0 c6) := by
    rw [hb7.cell (p := ⟨w6.heap.size, 1, none⟩) (show w6.heap.size < _ by (try simp) <;> (try omega))]
    first | assumption | (simp [go_sem, *])
  have q7_1_2 : w7.cell? ⟨w6.heap.size, 2, none⟩ = some (.bool false) := by
    rw [hb7.cell (p := ⟨w6.heap.size, 2, none⟩) (show w6.heap.size < _ by (try simp) <;> (try omega))]
    first | assumption | (simp [go_sem, *])
  have q7_1_3 : w7.cell? ⟨w6.heap.size, 3, none⟩ = some (.string ⟨#[]⟩) := by
    rw [hb7.cell (p := ⟨w6.heap.size, 3, none⟩) (show w6.heap.size < _ by (try simp) <;> (try omega))]
    first | assumption | (simp [go_sem, *])
  have q7_1_4 : w7.cell? ⟨w6.heap.size, 4, none⟩ = some (.string ⟨#[]⟩) := by
    rw [hb7.cell (p := ⟨w6.heap.size, 4, none⟩) (show w6.heap.size < _ by (try simp) <;> (try omega))]
    first | assumption | (simp [go_sem, *])
  have hl7_1 : w6.heap.size < w7.heap.size := by omega
  have HB7 : Hid (Below w.heap.size w w7) := (HB6.out.alloc (by (try simp) <;> (try omega)) _).trans (hb7.mono (by (try simp) <;> (try omega)))
  clear hb7
  go_wp2_with fail
  refine (specArgOf_c A aa ca _ HOK.out HA7.out.sl).mono ?_
  rintro e w8 ⟨rfl, hb8⟩
  have hz8 := hb8.size
  have HA8 := Lib.hid (HA7.out.below hb8)
  clear HA7
  have HE68 := Lib.hid (HE67.out.below hb8)
  clear HE67
  have q8_0_0 : w8.cell? ⟨w1.heap.size, 0, none⟩ = some (.int .i64 A.kind) := by
    rw [hb8.cell (p := ⟨w1.heap.size, 0, none⟩) (show w1.heap.size < _ by (try simp) <;> (try omega))]
    exact q7_0_0
  have q8_0_1 : w8.cell? ⟨w1.heap.size, 1, none⟩ = some (.int .i64 A.n) := by
    rw [hb8.cell (p := ⟨w1.heap.size, 1, none⟩) (show w1.heap.size < _ by (try simp) <;> (try omega))]
    exact q7_0_1
  have q8_0_2 : w8.cell? ⟨w1.heap.size, 2, none⟩ = some (.bool A.priv) := by
    rw [hb8.cell (p := ⟨w1.heap.size, 2, none⟩) (show w1.heap.size < _ by (try simp) <;> (try omega))]
    exact q7_0_2
  have q8_0_3 : w8.cell? ⟨w1.heap.size, 3, none⟩ = some (.slice aa A.args.length ca) := by
    rw [hb8.cell (p := ⟨w1.heap.size, 3, none⟩) (show w1.heap.size < _ by (try simp) <;> (try omega))]
    exact q7_0_3
  have q8_0_4 : w8.cell? ⟨w1.heap.size, 4, none⟩ = some (.string A.text) := by
    rw [hb8.cell (p := ⟨w1.heap.size, 4, none⟩) (show w1.heap.size < _ by (try simp) <;> (try omega))]
    exact q7_0_4
  have hl8_0 : w1.heap.size < w8.heap.size := by omega
  clear q7_0_0 q7_0_1 q7_0_2 q7_0_3 q7_0_4
  have q8_1_0 : w8.cell? ⟨w6.heap.size, 0, none⟩ = some (.int .i64 0) := by
    rw [hb8.cell (p := ⟨w6.heap.size, 0, none⟩) (show w6.heap.size < _ by (try simp) <;> (try omega))]
    exact q7_1_0
  have q8_1_1 : w8.cell? ⟨w6.heap.size, 1, none⟩ = some (.slice a6 0 c6) := by
    rw [hb8.cell (p := ⟨w6.heap.size, 1, none⟩) (show w6.heap.size < _ by (try simp) <;> (try omega))]
    exact q7_1_1
  have q8_1_2 : w8.cell? ⟨w6.heap.size, 2, none⟩ = some (.bool false) := by
    rw [hb8.cell (p := ⟨w6.heap.size, 2, none⟩) (show w6.heap.size < _ by (try simp) <;> (try omega))]
    exact q7_1_2
  have q8_1_3 : w8.cell? ⟨w6.heap.size, 3, none⟩ = some (.string ⟨#[]⟩) := by
    rw [hb8.cell (p := ⟨w6.heap.size, 3, none⟩) (show w6.heap.size < _ by (try simp) <;> (try omega))]
    exact q7_1_3
  have q8_1_4 : w8.cell? ⟨w6.heap.size, 4, none⟩ = some (.string ⟨#[]⟩) := by
    rw [hb8.cell (p := ⟨w6.heap.size, 4, none⟩) (show w6.heap.size < _ by (try simp) <;> (try omega))]
    exact q7_1_4
  have hl8_1 : w6.heap.size < w8.heap.size := by omega
  clear q7_1_0 q7_1_1 q7_1_2 q7_1_3 q7_1_4
  have HB8 : Hid (Below w.heap.size w w8) := HB7.out.trans (hb8.mono (by (try simp) <;> (try omega)))
  clear hb8
  go_wp2_with fail
  have hS0 : w8.cell? ⟨w1.heap.size, 0, none⟩ = some (.int .i64 A.kind) ∧ w8.cell? ⟨w1.heap.size, 1, none⟩ = some (.int .i64 A.n) ∧ w8.cell? ⟨w1.heap.size, 2, none⟩ = some (.bool A.priv) ∧ w8.cell? ⟨w1.heap.size, 3, none⟩ = some (.slice aa A.args.length ca) ∧ w8.cell? ⟨w1.heap.size, 4, none⟩ = some (.string A.text) ∧ w8.cell? ⟨w6.heap.size, 0, none⟩ = some (.int .i64 0) ∧ w8.cell? ⟨w6.heap.size, 1, none⟩ = some (.slice a6 0 c6) ∧ w8.cell? ⟨w6.heap.size, 2, none⟩ = some (.bool false) ∧ w8.cell? ⟨w6.heap.size, 3, none⟩ = some (.string ⟨#[]⟩) ∧ w8.cell? ⟨w6.heap.size, 4, none⟩ = some (.string ⟨#[]⟩) := ⟨q8_0_0, q8_0_1, q8_0_2, q8_0_3, q8_0_4, q8_1_0, q8_1_1, q8_1_2, q8_1_3, q8_1_4⟩
  have HBX0 : Hid (Below w8.heap.size w8 w8.drew) := Lib.hid ((Below.refl _ _).drew)
  refine wp_region_G (fun w' => w'.cell? ⟨w1.heap.size, 0, none⟩ = some (.int .i64 A.kind) ∧ w'.cell? ⟨w1.heap.size, 1, none⟩ = some (.int .i64 A.n) ∧ w'.cell? ⟨w1.heap.size, 2, none⟩ = some (.bool A.priv) ∧ w'.cell? ⟨w1.heap.size, 3, none⟩ = some (.slice aa A.args.length ca) ∧ w'.cell? ⟨w1.heap.size, 4, none⟩ = some (.string A.text) ∧ w'.cell? ⟨w6.heap.size, 0, none⟩ = some (.int .i64 0) ∧ w'.cell? ⟨w6.heap.size, 1, none⟩ = some (.slice a6 0 c6) ∧ w'.cell? ⟨w6.heap.size, 2, none⟩ = some (.bool false) ∧ w'.cell? ⟨w6.heap.size, 3, none⟩ = some (.string ⟨#[]⟩) ∧ w'.cell? ⟨w6.heap.size, 4, none⟩ = some (.string ⟨#[]⟩)) (fun i => false) (by kernel_rfl) hS0 ?_
  refine wpAnyG_takeW (i := 0) (v := ?_) rfl (by kernel_rfl) (by kernel_rfl) (by kernel_rfl) (fun _ _ _ h => h) (Or.inl ⟨by rfl, ?_⟩) ?_
  rotate_left
  · intro w' hSw
    go_simp
    try (with_reducible rfl)
  try simp only [Act.put, List.getElem_toArray, List.getElem_cons_zero, List.getElem_cons_succ, List.setIfInBounds_toArray, List.set_cons_zero, List.set_cons_succ]
  refine wpAnyG_takeW (i := 1) (v := ?_) rfl (by kernel_rfl) (by kernel_rfl) (by kernel_rfl) (fun _ _ _ h => h) (Or.inl ⟨by rfl, ?_⟩) ?_
  rotate_left
  · intro w' hSw
    go_simp
    try (with_reducible rfl)
  try simp only [Act.put, List.getElem_toArray, List.getElem_cons_zero, List.getElem_cons_succ, List.setIfInBounds_toArray, List.set_cons_zero, List.set_cons_succ]
  refine wpAnyG_takeW (i := 2) (v := ?_) rfl (by kernel_rfl) (by kernel_rfl) (by kernel_rfl) (fun _ _ _ h => h) (Or.inl ⟨by rfl, ?_⟩) ?_
  rotate_left
  · intro w' hSw
    go_simp
    try (with_reducible rfl)
  try simp only [Act.put, List.getElem_toArray, List.getElem_cons_zero, List.getElem_cons_succ, List.setIfInBounds_toArray, List.set_cons_zero, List.set_cons_succ]
  refine wpAnyG_takeW (i := 3) (v := ?_) rfl (by kernel_rfl) (by kernel_rfl) (by kernel_rfl) (fun _ _ _ h => h) (Or.inl ⟨by rfl, ?_⟩) ?_
  rotate_left
  · intro w' hSw
    go_simp
    try (with_reducible rfl)
  try simp only [Act.put, List.getElem_toArray, List.getElem_cons_zero, List.getElem_cons_succ, List.setIfInBounds_toArray, List.set_cons_zero, List.set_cons_succ]
  refine wpAnyG_takeW (i := 4) (v := ?_) rfl (by kernel_rfl) (by kernel_rfl) (by kernel_rfl) (fun _ _ _ h => h) (Or.inl ⟨by rfl, ?_⟩) ?_
  rotate_left
  · intro w' hSw
    go_simp
    try (with_reducible rfl)
  try simp only [Act.put, List.getElem_toArray, List.getElem_cons_zero, List.getElem_cons_succ, List.setIfInBounds_toArray, List.set_cons_zero, List.set_cons_succ]
  refine wpAnyG_takeW (i := 5) (v := ?_) rfl (by kernel_rfl) (by kernel_rfl) (by kernel_rfl) (fun _ _ _ h => h) (Or.inl ⟨by rfl, ?_⟩) ?_
  rotate_left
  · intro w' hSw
    go_simp
    try (with_reducible rfl)
  try simp only [Act.put, List.getElem_toArray, List.getElem_cons_zero, List.getElem_cons_succ, List.setIfInBounds_toArray, List.set_cons_zero, List.set_cons_succ]
  refine wpAnyG_takeW (i := 6) (v := ?_) rfl (by kernel_rfl) (by kernel_rfl) (by kernel_rfl) (fun _ _ _ h => h) (Or.inl ⟨by rfl, ?_⟩) ?_
  rotate_left
  · intro w' hSw
    go_simp
    try (with_reducible rfl)
  try simp only [Act.put, List.getElem_toArray, List.getElem_cons_zero, List.getElem_cons_succ, List.setIfInBounds_toArray, List.set_cons_zero, List.set_cons_succ]
  refine wpAnyG_takeW (i := 7) (v := ?_) rfl (by kernel_rfl) (by kernel_rfl) (by kernel_rfl) (fun _ _ _ h => h) (Or.inl ⟨by rfl, ?_⟩) ?_
  rotate_left
  · intro w' hSw
    go_simp
    try (with_reducible rfl)
  try simp only [Act.put, List.getElem_toArray, List.getElem_cons_zero, List.getElem_cons_succ, List.setIfInBounds_toArray, List.set_cons_zero, List.set_cons_succ]
  refine wpAnyG_takeW (i := 8) (v := ?_) rfl (by kernel_rfl) (by kernel_rfl) (by kernel_rfl) (fun _ _ _ h => h) (Or.inl ⟨by rfl, ?_⟩) ?_
  rotate_left
  · intro w' hSw
    go_simp
    try (with_reducible rfl)
  try simp only [Act.put, List.getElem_toArray, List.getElem_cons_zero, List.getElem_cons_succ, List.setIfInBounds_toArray, List.set_cons_zero, List.set_cons_succ]
  refine wpAnyG_takeW (i := 9) (v := ?_) rfl (by kernel_rfl) (by kernel_rfl) (by kernel_rfl) (fun _ _ _ h => h) (Or.inl ⟨by rfl, ?_⟩) ?_
  rotate_left
  · intro w' hSw
    go_simp
    try (with_reducible rfl)
  try simp only [Act.put, List.getElem_toArray, List.getElem_cons_zero, List.getElem_cons_succ, List.setIfInBounds_toArray, List.set_cons_zero, List.set_cons_succ]
  refine wpAnyG_takeW (i := 10) (v := ?_) rfl (by kernel_rfl) (by kernel_rfl) (by kernel_rfl) (fun _ _ _ h => h) (Or.inl ⟨by rfl, ?_⟩) ?_
  rotate_left
  · intro w' hSw
    go_simp
    try (with_reducible rfl)
  try simp only [Act.put, List.getElem_toArray, List.getElem_cons_zero, List.getElem_cons_succ, List.setIfInBounds_toArray, List.set_cons_zero, List.set_cons_succ]
  refine wpAnyG_takeW (i := 11) (v := ?_) rfl (by kernel_rfl) (by kernel_rfl) (by kernel_rfl) (fun _ _ _ h => h) (Or.inl ⟨by rfl, ?_⟩) ?_
  rotate_left
  · intro w' hSw
    go_simp
    try (with_reducible rfl)
  try simp only [Act.put, List.getElem_toArray, List.getElem_cons_zero, List.getElem_cons_succ, List.setIfInBounds_toArray, List.set_cons_zero, List.set_cons_succ]
  refine wpAnyG_take (i := 12) (v := ?_) rfl (by kernel_rfl) (by kernel_rfl) (by kernel_rfl) (by kernel_rfl) (fun _ _ _ h => h) hS0 (Or.inl ⟨by rfl, ?_⟩) ?_
  rotate_left
  · intro w' hSw
    obtain ⟨s0, s1, s2, s3, s4, s5, s6, s7, s8, s9⟩ := hSw
    go_simp
    try (with_reducible rfl)
  try simp only [Act.put, List.getElem_toArray, List.getElem_cons_zero, List.getElem_cons_succ, List.setIfInBounds_toArray, List.set_cons_zero, List.set_cons_succ]
  refine wpAnyG_one (i := 13) (by kernel_rfl) rfl hS0 (fun K' hK => ?_)
  simp only [List.getElem_toArray, List.getElem_cons_zero, List.getElem_cons_succ]
  go_simp
  go_at_call 32
  refine (actionOK_t A aa ca _ HOK.out (HA8.out.below HBX0.out).sl).mono ?_
  rintro e x1 ⟨rfl, hb⟩
  have HBX1 : Hid (Below w8.heap.size w8 x1) := Lib.hid (HBX0.out.trans (hb.mono (by have := HBX0.out.size; omega)))
  have hS1 : x1.cell? ⟨w1.heap.size, 0, none⟩ = some (.int .i64 A.kind) ∧ x1.cell? ⟨w1.heap.size, 1, none⟩ = some (.int .i64 A.n) ∧ x1.cell? ⟨w1.heap.size, 2, none⟩ = some (.bool A.priv) ∧ x1.cell? ⟨w1.heap.size, 3, none⟩ = some (.slice aa A.args.length ca) ∧ x1.cell? ⟨w1.heap.size, 4, none⟩ = some (.string A.text) ∧ x1.cell? ⟨w6.heap.size, 0, none⟩ = some (.int .i64 0) ∧ x1.cell? ⟨w6.heap.size, 1, none⟩ = some (.slice a6 0 c6) ∧ x1.cell? ⟨w6.heap.size, 2, none⟩ = some (.bool false) ∧ x1.cell? ⟨w6.heap.size, 3, none⟩ = some (.string ⟨#[]⟩) ∧ x1.cell? ⟨w6.heap.size, 4, none⟩ = some (.string ⟨#[]⟩) := by
    have hb' : Below w8.drew.heap.size w8.drew x1 := hb
    exact ⟨(hb'.cell (p := ⟨w1.heap.size, 0, none⟩) (by show w1.heap.size < w8.heap.size; omega)).trans hS0.1, (hb'.cell (p := ⟨w1.heap.size, 1, none⟩) (by show w1.heap.size < w8.heap.size; omega)).trans hS0.2.1, (hb'.cell (p := ⟨w1.heap.size, 2, none⟩) (by show w1.heap.size < w8.heap.size; omega)).trans hS0.2.2.1, (hb'.cell (p := ⟨w1.heap.size, 3, none⟩) (by show w1.heap.size < w8.heap.size; omega)).trans hS0.2.2.2.1, (hb'.cell (p := ⟨w1.heap.size, 4, none⟩) (by show w1.heap.size < w8.heap.size; omega)).trans hS0.2.2.2.2.1, (hb'.cell (p := ⟨w6.heap.size, 0, none⟩) (by show w6.heap.size < w8.heap.size; omega)).trans hS0.2.2.2.2.2.1, (hb'.cell (p := ⟨w6.heap.size, 1, none⟩) (by show w6.heap.size < w8.heap.size; omega)).trans hS0.2.2.2.2.2.2.1, (hb'.cell (p := ⟨w6.heap.size, 2, none⟩) (by show w6.heap.size < w8.heap.size; omega)).trans hS0.2.2.2.2.2.2.2.1, (hb'.cell (p := ⟨w6.heap.size, 3, none⟩) (by show w6.heap.size < w8.heap.size; omega)).trans hS0.2.2.2.2.2.2.2.2.1, (hb'.cell (p := ⟨w6.heap.size, 4, none⟩) (by show w6.heap.size < w8.heap.size; omega)).trans hS0.2.2.2.2.2.2.2.2.2⟩
  clear hb
  have hzx1 := HBX1.out.size
  refine hK.out _ _ (Or.inr hS1) ?_
  clear hK K'
  try simp only [Act.put, List.getElem_toArray, List.getElem_cons_zero, List.getElem_cons_succ, List.setIfInBounds_toArray, List.set_cons_zero, List.set_cons_succ]
  refine wpAnyG_takeW (i := 14) (v := ?_) rfl (by kernel_rfl) (by kernel_rfl) (by kernel_rfl) (fun _ _ _ h => h) (Or.inl ⟨by rfl, ?_⟩) ?_
  rotate_left
  · intro w' hSw
    go_simp
    try (with_reducible rfl)
  try simp only [Act.put, List.getElem_toArray, List.getElem_cons_zero, List.getElem_cons_succ, List.setIfInBounds_toArray, List.set_cons_zero, List.set_cons_succ]
  refine wpAnyG_takeW (i := 15) (v := ?_) rfl (by kernel_rfl) (by kernel_rfl) (by kernel_rfl) (fun _ _ _ h => h) (Or.inl ⟨by rfl, ?_⟩) ?_
  rotate_left
  · intro w' hSw
    go_simp
    try (with_reducible rfl)
  try simp only [Act.put, List.getElem_toArray, List.getElem_cons_zero, List.getElem_cons_succ, List.setIfInBounds_toArray, List.set_cons_zero, List.set_cons_succ]
  refine wpAnyG_take (i := 16) (v := ?_) rfl (by kernel_rfl) (by kernel_rfl) (by kernel_rfl) (by kernel_rfl) (fun _ _ _ h => h) hS1 (Or.inl ⟨by rfl, ?_⟩) ?_
  rotate_left
  · intro w' hSw
    obtain ⟨s0, s1, s2, s3, s4, s5, s6, s7, s8, s9⟩ := hSw
    go_simp
    try (with_reducible rfl)
  try simp only [Act.put, List.getElem_toArray, List.getElem_cons_zero, List.getElem_cons_succ, List.setIfInBounds_toArray, List.set_cons_zero, List.set_cons_succ]
  refine wpAnyG_one (i := 17) (by kernel_rfl) rfl hS1 (fun K' hK => ?_)
  simp only [List.getElem_toArray, List.getElem_cons_zero, List.getElem_cons_succ]
  go_simp
  go_at_call 29
  refine (firstParser_c _).mono ?_
  rintro e x2 ⟨aF, rfl, hfp, hb⟩
  have HBX2 : Hid (Below w8.heap.size w8 x2) := Lib.hid (HBX1.out.trans (hb.mono (by have := HBX1.out.size; omega)))
  have hS2 : x2.cell? ⟨w1.heap.size, 0, none⟩ = some (.int .i64 A.kind) ∧ x2.cell? ⟨w1.heap.size, 1, none⟩ = some (.int .i64 A.n) ∧ x2.cell? ⟨w1.heap.size, 2, none⟩ = some (.bool A.priv) ∧ x2.cell? ⟨w1.heap.size, 3, none⟩ = some (.slice aa A.args.length ca) ∧ x2.cell? ⟨w1.heap.size, 4, none⟩ = some (.string A.text) ∧ x2.cell? ⟨w6.heap.size, 0, none⟩ = some (.int .i64 0) ∧ x2.cell? ⟨w6.heap.size, 1, none⟩ = some (.slice a6 0 c6) ∧ x2.cell? ⟨w6.heap.size, 2, none⟩ = some (.bool false) ∧ x2.cell? ⟨w6.heap.size, 3, none⟩ = some (.string ⟨#[]⟩) ∧ x2.cell? ⟨w6.heap.size, 4, none⟩ = some (.string ⟨#[]⟩) := ⟨(hb.cell (p := ⟨w1.heap.size, 0, none⟩) (by show w1.heap.size < _; have := HBX0.out.size; omega)).trans hS1.1, (hb.cell (p := ⟨w1.heap.size, 1, none⟩) (by show w1.heap.size < _; have := HBX0.out.size; omega)).trans hS1.2.1, (hb.cell (p := ⟨w1.heap.size, 2, none⟩) (by show w1.heap.size < _; have := HBX0.out.size; omega)).trans hS1.2.2.1, (hb.cell (p := ⟨w1.heap.size, 3, none⟩) (by show w1.heap.size < _; have := HBX0.out.size; omega)).trans hS1.2.2.2.1, (hb.cell (p := ⟨w1.heap.size, 4, none⟩) (by show w1.heap.size < _; have := HBX0.out.size; omega)).trans hS1.2.2.2.2.1, (hb.cell (p := ⟨w6.heap.size, 0, none⟩) (by show w6.heap.size < _; have := HBX0.out.size; omega)).trans hS1.2.2.2.2.2.1, (hb.cell (p := ⟨w6.heap.size, 1, none⟩) (by show w6.heap.size < _; have := HBX0.out.size; omega)).trans hS1.2.2.2.2.2.2.1, (hb.cell (p := ⟨w6.heap.size, 2, none⟩) (by show w6.heap.size < _; have := HBX0.out.size; omega)).trans hS1.2.2.2.2.2.2.2.1, (hb.cell (p := ⟨w6.heap.size, 3, none⟩) (by show w6.heap.size < _; have := HBX0.out.size; omega)).trans hS1.2.2.2.2.2.2.2.2.1, (hb.cell (p := ⟨w6.heap.size, 4, none⟩) (by show w6.heap.size < _; have := HBX0.out.size; omega)).trans hS1.2.2.2.2.2.2.2.2.2⟩
  have HFP : Hid (SlA x2 aF []) := Lib.hid (SlA.start (FreshIn.sl (enc := intE) (fun _ => rfl) hfp))
  clear hfp
  clear hb
  have hzx2 := HBX2.out.size
  refine hK.out _ _ (Or.inr hS2) ?_
  clear hK K'
  try simp only [Act.put, List.getElem_toArray, List.getElem_cons_zero, List.getElem_cons_succ, List.setIfInBounds_toArray, List.set_cons_zero, List.set_cons_succ]
  refine wpAnyG_one (i := 18) (by kernel_rfl) rfl hS2 (fun K' hK => ?_)
  simp only [List.getElem_toArray, List.getElem_cons_zero, List.getElem_cons_succ]
  go_simp
  go_at_call 10
  refine (sameParser_same a6 aF c6 0 pz _ (HE68.out.below HBX2.out).sl HFP.out.sl (by decide)).mono ?_
  rintro e x3 ⟨rfl, hb⟩
  have HBX3 : Hid (Below w8.heap.size w8 x3) := Lib.hid (HBX2.out.trans (hb.mono (by have := HBX2.out.size; omega)))
  have hS3 : x3.cell? ⟨w1.heap.size, 0, none⟩ = some (.int .i64 A.kind) ∧ x3.cell? ⟨w1.heap.size, 1, none⟩ = some (.int .i64 A.n) ∧ x3.cell? ⟨w1.heap.size, 2, none⟩ = some (.bool A.priv) ∧ x3.cell? ⟨w1.heap.size, 3, none⟩ = some (.slice aa A.args.length ca) ∧ x3.cell? ⟨w1.heap.size, 4, none⟩ = some (.string A.text) ∧ x3.cell? ⟨w6.heap.size, 0, none⟩ = some (.int .i64 0) ∧ x3.cell? ⟨w6.heap.size, 1, none⟩ = some (.slice a6 0 c6) ∧ x3.cell? ⟨w6.heap.size, 2, none⟩ = some (.bool false) ∧ x3.cell? ⟨w6.heap.size, 3, none⟩ = some (.string ⟨#[]⟩) ∧ x3.cell? ⟨w6.heap.size, 4, none⟩ = some (.string ⟨#[]⟩) := ⟨(hb.cell (p := ⟨w1.heap.size, 0, none⟩) (by show w1.heap.size < _; have := HBX0.out.size; omega)).trans hS2.1, (hb.cell (p := ⟨w1.heap.size, 1, none⟩) (by show w1.heap.size < _; have := HBX0.out.size; omega)).trans hS2.2.1, (hb.cell (p := ⟨w1.heap.size, 2, none⟩) (by show w1.heap.size < _; have := HBX0.out.size; omega)).trans hS2.2.2.1, (hb.cell (p := ⟨w1.heap.size, 3, none⟩) (by show w1.heap.size < _; have := HBX0.out.size; omega)).trans hS2.2.2.2.1, (hb.cell (p := ⟨w1.heap.size, 4, none⟩) (by show w1.heap.size < _; have := HBX0.out.size; omega)).trans hS2.2.2.2.2.1, (hb.cell (p := ⟨w6.heap.size, 0, none⟩) (by show w6.heap.size < _; have := HBX0.out.size; omega)).trans hS2.2.2.2.2.2.1, (hb.cell (p := ⟨w6.heap.size, 1, none⟩) (by show w6.heap.size < _; have := HBX0.out.size; omega)).trans hS2.2.2.2.2.2.2.1, (hb.cell (p := ⟨w6.heap.size, 2, none⟩) (by show w6.heap.size < _; have := HBX0.out.size; omega)).trans hS2.2.2.2.2.2.2.2.1, (hb.cell (p := ⟨w6.heap.size, 3, none⟩) (by show w6.heap.size < _; have := HBX0.out.size; omega)).trans hS2.2.2.2.2.2.2.2.2.1, (hb.cell (p := ⟨w6.heap.size, 4, none⟩) (by show w6.heap.size < _; have := HBX0.out.size; omega)).trans hS2.2.2.2.2.2.2.2.2.2⟩
  clear hb
  have hzx3 := HBX3.out.size
  refine hK.out _ _ (Or.inr hS3) ?_
  clear hK K'
  try simp only [Act.put, List.getElem_toArray, List.getElem_cons_zero, List.getElem_cons_succ, List.setIfInBounds_toArray, List.set_cons_zero, List.set_cons_succ]
  refine wpAnyG_takeW (i := 19) (v := ?_) rfl (by kernel_rfl) (by kernel_rfl) (by kernel_rfl) (fun _ _ _ h => h) (Or.inl ⟨by rfl, ?_⟩) ?_
  rotate_left
  · intro w' hSw
    go_simp
    try (with_reducible rfl)
  try simp only [Act.put, List.getElem_toArray, List.getElem_cons_zero, List.getElem_cons_succ, List.setIfInBounds_toArray, List.set_cons_zero, List.set_cons_succ]
  refine wpAnyG_takeW (i := 20) (v := ?_) rfl (by kernel_rfl) (by kernel_rfl) (by kernel_rfl) (fun _ _ _ h => h) (Or.inl ⟨by rfl, ?_⟩) ?_
  rotate_left
  · intro w' hSw
    go_simp
    try (with_reducible rfl)
  try simp only [Act.put, List.getElem_toArray, List.getElem_cons_zero, List.getElem_cons_succ, List.setIfInBounds_toArray, List.set_cons_zero, List.set_cons_succ]
  refine wpAnyG_takeW (i := 21) (v := ?_) rfl (by kernel_rfl) (by kernel_rfl) (by kernel_rfl) (fun _ _ _ h => h) (Or.inl ⟨by rfl, ?_⟩) ?_
  rotate_left
  · intro w' hSw
    go_simp
    try (with_reducible rfl)
  try simp only [Act.put, List.getElem_toArray, List.getElem_cons_zero, List.getElem_cons_succ, List.setIfInBounds_toArray, List.set_cons_zero, List.set_cons_succ]
  refine wpAnyG_take (i := 22) (v := ?_) rfl (by kernel_rfl) (by kernel_rfl) (by kernel_rfl) (by kernel_rfl) (fun _ _ _ h => h) hS3 (Or.inl ⟨by rfl, ?_⟩) ?_
  rotate_left
  · intro w' hSw
    obtain ⟨s0, s1, s2, s3, s4, s5, s6, s7, s8, s9⟩ := hSw
    go_simp
    try (with_reducible rfl)
  try simp only [Act.put, List.getElem_toArray, List.getElem_cons_zero, List.getElem_cons_succ, List.setIfInBounds_toArray, List.set_cons_zero, List.set_cons_succ]
  refine wpAnyG_one (i := 23) (by kernel_rfl) rfl hS3 (fun K' hK => ?_)
  simp only [List.getElem_toArray, List.getElem_cons_zero, List.getElem_cons_succ]
  go_simp
  obtain ⟨x4, hx4⟩ : ∃ x, x3.alloc (.cells #[.int .i64 A.kind, .int .i64 A.n, .bool A.priv, .slice aa A.args.length ca, .string A.text] 46) = x := ⟨_, rfl⟩
  have HBX4 : Hid (Below w8.heap.size w8 x4) := Lib.hid (by rw [← hx4]; exact HBX3.out.alloc HBX3.out.size _)
  have hzx4 := HBX4.out.size
  have HB34 : Hid (Below x3.heap.size x3 x4) := Lib.hid (by rw [← hx4]; exact (Below.refl _ _).alloc (Nat.le_refl _) _)
  have hS4 : x4.cell? ⟨w1.heap.size, 0, none⟩ = some (.int .i64 A.kind) ∧ x4.cell? ⟨w1.heap.size, 1, none⟩ = some (.int .i64 A.n) ∧ x4.cell? ⟨w1.heap.size, 2, none⟩ = some (.bool A.priv) ∧ x4.cell? ⟨w1.heap.size, 3, none⟩ = some (.slice aa A.args.length ca) ∧ x4.cell? ⟨w1.heap.size, 4, none⟩ = some (.string A.text) ∧ x4.cell? ⟨w6.heap.size, 0, none⟩ = some (.int .i64 0) ∧ x4.cell? ⟨w6.heap.size, 1, none⟩ = some (.slice a6 0 c6) ∧ x4.cell? ⟨w6.heap.size, 2, none⟩ = some (.bool false) ∧ x4.cell? ⟨w6.heap.size, 3, none⟩ = some (.string ⟨#[]⟩) ∧ x4.cell? ⟨w6.heap.size, 4, none⟩ = some (.string ⟨#[]⟩) := ⟨(HB34.out.cell (p := ⟨w1.heap.size, 0, none⟩) (by show w1.heap.size < _; have := HBX3.out.size; omega)).trans hS3.1, (HB34.out.cell (p := ⟨w1.heap.size, 1, none⟩) (by show w1.heap.size < _; have := HBX3.out.size; omega)).trans hS3.2.1, (HB34.out.cell (p := ⟨w1.heap.size, 2, none⟩) (by show w1.heap.size < _; have := HBX3.out.size; omega)).trans hS3.2.2.1, (HB34.out.cell (p := ⟨w1.heap.size, 3, none⟩) (by show w1.heap.size < _; have := HBX3.out.size; omega)).trans hS3.2.2.2.1, (HB34.out.cell (p := ⟨w1.heap.size, 4, none⟩) (by show w1.heap.size < _; have := HBX3.out.size; omega)).trans hS3.2.2.2.2.1, (HB34.out.cell (p := ⟨w6.heap.size, 0, none⟩) (by show w6.heap.size < _; have := HBX3.out.size; omega)).trans hS3.2.2.2.2.2.1, (HB34.out.cell (p := ⟨w6.heap.size, 1, none⟩) (by show w6.heap.size < _; have := HBX3.out.size; omega)).trans hS3.2.2.2.2.2.2.1, (HB34.out.cell (p := ⟨w6.heap.size, 2, none⟩) (by show w6.heap.size < _; have := HBX3.out.size; omega)).trans hS3.2.2.2.2.2.2.2.1, (HB34.out.cell (p := ⟨w6.heap.size, 3, none⟩) (by show w6.heap.size < _; have := HBX3.out.size; omega)).trans hS3.2.2.2.2.2.2.2.2.1, (HB34.out.cell (p := ⟨w6.heap.size, 4, none⟩) (by show w6.heap.size < _; have := HBX3.out.size; omega)).trans hS3.2.2.2.2.2.2.2.2.2⟩
  have HAC : Hid (ActS x4 (some ⟨x3.heap.size, 0, none⟩) [⟨A, aa, ca⟩]) := Lib.hid (by
    have h0 := (HA8.out.below HBX4.out).sl
    refine ⟨.inr ⟨x3.heap.size, 0, rfl, by rw [← hx4]; simp, fun i hi j hj => ?_⟩, fun r hr => ?_⟩
    · obtain rfl : i = 0 := by simp at hi; omega
      rw [← hx4]
      have : j = 0 ∨ j = 1 ∨ j = 2 ∨ j = 3 ∨ j = 4 := by omega
      rcases this with rfl | rfl | rfl | rfl | rfl <;> simp [go_sem, actE]
    · simp at hr; subst hr; exact h0)
  rw [hx4]
  clear hx4
  refine hK.out _ _ (Or.inr hS4) ?_
  clear hK K'
  try simp only [Act.put, List.getElem_toArray, List.getElem_cons_zero, List.getElem_cons_succ, List.setIfInBounds_toArray, List.set_cons_zero, List.set_cons_succ]
  refine wpAnyG_one (i := 24) (by kernel_rfl) rfl hS4 (fun K' hK => ?_)
  simp only [List.getElem_toArray, List.getElem_cons_zero, List.getElem_cons_succ]
  go_simp
  go_at_call 11
  refine (sameActions_same al6 (some ⟨x3.heap.size, 0, none⟩) cl6 1 rs6 [⟨A, aa, ca⟩] _ (HE68.out.below HBX4.out).acts HAC.out (by rw [HRS6.out]; rfl) (fun r hr => (show r.A = A from List.mem_singleton.1 (HRS6.out ▸ List.mem_map_of_mem hr)) ▸ hA8) (by have := congrArg List.length HRS6.out; simp at this; omega)).mono ?_
  rintro e x5 ⟨rfl, hb⟩
  have HBX5 : Hid (Below w8.heap.size w8 x5) := Lib.hid (HBX4.out.trans (hb.mono (by have := HBX4.out.size; omega)))
  have hS5 : x5.cell? ⟨w1.heap.size, 0, none⟩ = some (.int .i64 A.kind) ∧ x5.cell? ⟨w1.heap.size, 1, none⟩ = some (.int .i64 A.n) ∧ x5.cell? ⟨w1.heap.size, 2, none⟩ = some (.bool A.priv) ∧ x5.cell? ⟨w1.heap.size, 3, none⟩ = some (.slice aa A.args.length ca) ∧ x5.cell? ⟨w1.heap.size, 4, none⟩ = some (.string A.text) ∧ x5.cell? ⟨w6.heap.size, 0, none⟩ = some (.int .i64 0) ∧ x5.cell? ⟨w6.heap.size, 1, none⟩ = some (.slice a6 0 c6) ∧ x5.cell? ⟨w6.heap.size, 2, none⟩ = some (.bool false) ∧ x5.cell? ⟨w6.heap.size, 3, none⟩ = some (.string ⟨#[]⟩) ∧ x5.cell? ⟨w6.heap.size, 4, none⟩ = some (.string ⟨#[]⟩) := ⟨(hb.cell (p := ⟨w1.heap.size, 0, none⟩) (by show w1.heap.size < _; have := HBX0.out.size; omega)).trans hS4.1, (hb.cell (p := ⟨w1.heap.size, 1, none⟩) (by show w1.heap.size < _; have := HBX0.out.size; omega)).trans hS4.2.1, (hb.cell (p := ⟨w1.heap.size, 2, none⟩) (by show w1.heap.size < _; have := HBX0.out.size; omega)).trans hS4.2.2.1, (hb.cell (p := ⟨w1.heap.size, 3, none⟩) (by show w1.heap.size < _; have := HBX0.out.size; omega)).trans hS4.2.2.2.1, (hb.cell (p := ⟨w1.heap.size, 4, none⟩) (by show w1.heap.size < _; have := HBX0.out.size; omega)).trans hS4.2.2.2.2.1, (hb.cell (p := ⟨w6.heap.size, 0, none⟩) (by show w6.heap.size < _; have := HBX0.out.size; omega)).trans hS4.2.2.2.2.2.1, (hb.cell (p := ⟨w6.heap.size, 1, none⟩) (by show w6.heap.size < _; have := HBX0.out.size; omega)).trans hS4.2.2.2.2.2.2.1, (hb.cell (p := ⟨w6.heap.size, 2, none⟩) (by show w6.heap.size < _; have := HBX0.out.size; omega)).trans hS4.2.2.2.2.2.2.2.1, (hb.cell (p := ⟨w6.heap.size, 3, none⟩) (by show w6.heap.size < _; have := HBX0.out.size; omega)).trans hS4.2.2.2.2.2.2.2.2.1, (hb.cell (p := ⟨w6.heap.size, 4, none⟩) (by show w6.heap.size < _; have := HBX0.out.size; omega)).trans hS4.2.2.2.2.2.2.2.2.2⟩
  clear hb
  have hzx5 := HBX5.out.size
  refine hK.out _ _ (Or.inr hS5) ?_
  clear hK K'
  try simp only [Act.put, List.getElem_toArray, List.getElem_cons_zero, List.getElem_cons_succ, List.setIfInBounds_toArray, List.set_cons_zero, List.set_cons_succ]
  refine wpAnyG_takeW (i := 25) (v := ?_) rfl (by kernel_rfl) (by kernel_rfl) (by kernel_rfl) (fun _ _ _ h => h) (Or.inl ⟨by rfl, ?_⟩) ?_
  rotate_left
  · intro w' hSw
    go_simp
    try (with_reducible rfl)
  try simp only [Act.put, List.getElem_toArray, List.getElem_cons_zero, List.getElem_cons_succ, List.setIfInBounds_toArray, List.set_cons_zero, List.set_cons_succ]
  refine wpAnyG_takeW (i := 26) (v := ?_) rfl (by kernel_rfl) (by kernel_rfl) (by kernel_rfl) (fun _ _ _ h => h) (Or.inl ⟨by rfl, ?_⟩) ?_
  rotate_left
  · intro w' hSw
    go_simp
    try (with_reducible rfl)
  try simp only [Act.put, List.getElem_toArray, List.getElem_cons_zero, List.getElem_cons_succ, List.setIfInBounds_toArray, List.set_cons_zero, List.set_cons_succ]
  refine wpAnyG_takeW (i := 27) (v := ?_) rfl (by kernel_rfl) (by kernel_rfl) (by kernel_rfl) (fun _ _ _ h => h) (Or.inl ⟨by rfl, ?_⟩) ?_
  rotate_left
  · intro w' hSw
    go_simp
    try (with_reducible rfl)
  try simp only [Act.put, List.getElem_toArray, List.getElem_cons_zero, List.getElem_cons_succ, List.setIfInBounds_toArray, List.set_cons_zero, List.set_cons_succ]
  refine wpAnyG_takeW (i := 28) (v := ?_) rfl (by kernel_rfl) (by kernel_rfl) (by kernel_rfl) (fun _ _ _ h => h) (Or.inl ⟨by rfl, ?_⟩) ?_
  rotate_left
  · intro w' hSw
    go_simp
    try (with_reducible rfl)
  try simp only [Act.put, List.getElem_toArray, List.getElem_cons_zero, List.getElem_cons_succ, List.setIfInBounds_toArray, List.set_cons_zero, List.set_cons_succ]
  refine wpAnyG_takeW (i := 29) (v := ?_) rfl (by kernel_rfl) (by kernel_rfl) (by kernel_rfl) (fun _ _ _ h => h) (Or.inl ⟨by rfl, ?_⟩) ?_
  rotate_left
  · intro w' hSw
    go_simp
    try (with_reducible rfl)
  try simp only [Act.put, List.getElem_toArray, List.getElem_cons_zero, List.getElem_cons_succ, List.setIfInBounds_toArray, List.set_cons_zero, List.set_cons_succ]
  refine wpAnyG_takeW (i := 30) (v := ?_) rfl (by kernel_rfl) (by kernel_rfl) (by kernel_rfl) (fun _ _ _ h => h) (Or.inl ⟨by rfl, ?_⟩) ?_
  rotate_left
  · intro w' hSw
    go_simp
    try (with_reducible rfl)
  try simp only [Act.put, List.getElem_toArray, List.getElem_cons_zero, List.getElem_cons_succ, List.setIfInBounds_toArray, List.set_cons_zero, List.set_cons_succ]
  refine wpAnyG_takeW (i := 31) (v := ?_) rfl (by kernel_rfl) (by kernel_rfl) (by kernel_rfl) (fun _ _ _ h => h) (Or.inl ⟨by rfl, ?_⟩) ?_
  rotate_left
  · intro w' hSw
    go_simp
    try (with_reducible rfl)
  try simp only [Act.put, List.getElem_toArray, List.getElem_cons_zero, List.getElem_cons_succ, List.setIfInBounds_toArray, List.set_cons_zero, List.set_cons_succ]
  refine wpAnyG_takeW (i := 32) (v := ?_) rfl (by kernel_rfl) (by kernel_rfl) (by kernel_rfl) (fun _ _ _ h => h) (Or.inl ⟨by rfl, ?_⟩) ?_
  rotate_left
  · intro w' hSw
    go_simp
    try (with_reducible rfl)
  try simp only [Act.put, List.getElem_toArray, List.getElem_cons_zero, List.getElem_cons_succ, List.setIfInBounds_toArray, List.set_cons_zero, List.set_cons_succ]
  refine wpAnyG_takeW (i := 33) (v := ?_) rfl (by kernel_rfl) (by kernel_rfl) (by kernel_rfl) (fun _ _ _ h => h) (Or.inl ⟨by rfl, ?_⟩) ?_
  rotate_left
  · intro w' hSw
    go_simp
    try (with_reducible rfl)
  try simp only [Act.put, List.getElem_toArray, List.getElem_cons_zero, List.getElem_cons_succ, List.setIfInBounds_toArray, List.set_cons_zero, List.set_cons_succ]
  refine wpAnyG_takeW (i := 34) (v := ?_) rfl (by kernel_rfl) (by kernel_rfl) (by kernel_rfl) (fun _ _ _ h => h) (Or.inl ⟨by rfl, ?_⟩) ?_
  rotate_left
  · intro w' hSw
    go_simp
    try (with_reducible rfl)
  try simp only [Act.put, List.getElem_toArray, List.getElem_cons_zero, List.getElem_cons_succ, List.setIfInBounds_toArray, List.set_cons_zero, List.set_cons_succ]
  refine wpAnyG_takeW (i := 35) (v := ?_) rfl (by kernel_rfl) (by kernel_rfl) (by kernel_rfl) (fun _ _ _ h => h) (Or.inl ⟨by rfl, ?_⟩) ?_
  rotate_left
  · intro w' hSw
    go_simp
    try (with_reducible rfl)
  try simp only [Act.put, List.getElem_toArray, List.getElem_cons_zero, List.getElem_cons_succ, List.setIfInBounds_toArray, List.set_cons_zero, List.set_cons_succ]
  refine wpAnyG_takeW (i := 36) (v := ?_) rfl (by kernel_rfl) (by kernel_rfl) (by kernel_rfl) (fun _ _ _ h => h) (Or.inl ⟨by rfl, ?_⟩) ?_
  rotate_left
  · intro w' hSw
    go_simp
    try (with_reducible rfl)
  try simp only [Act.put, List.getElem_toArray, List.getElem_cons_zero, List.getElem_cons_succ, List.setIfInBounds_toArray, List.set_cons_zero, List.set_cons_succ]
  refine wpAnyG_done (by kernel_rfl) ?_ _
  go_wp2_with fail
  go_ret
  exact ⟨rfl, HB8.out.trans (HBX5.out.mono HB8.out.size)⟩
end
section
open Go.ChangeShapes Go.WideShapes Go.ChangeAt Go.RowKit Go.Lib Go.Shelf
theorem u8types : U8Types Tryd.prog Tryd.lays197_ren := { Tryd.lays197 with }
theorem u8extra : U8Extra Tryd.prog Tryd.lays197_ren := ⟨by kernel_rfl, by kernel_rfl, by kernel_rfl, by kernel_rfl, by kernel_rfl, by kernel_rfl, by kernel_rfl⟩
theorem acceptEq : (Rows.laid_unicode_utf8_acceptRanges : DataW Unit) = acceptData := by kernel_rfl
theorem utLaid {W : World} {l : List (String × DataW Unit)} (h : laidMet Tryd.prog l W) (h1 : ("unicode/utf8.first", (Rows.laid_unicode_utf8_first : DataW Unit)) ∈ l) (h2 : ("unicode/utf8.acceptRanges", (Rows.laid_unicode_utf8_acceptRanges : DataW Unit)) ∈ l) : UT W := by
  have t := utf8Tabs_of_readsT u8types u8extra (w := W) (Pinned.utf8First_eq ▸ Lib.laidMet.reads h h1) (acceptEq ▸ Lib.laidMet.reads h h2)
  have lt : ∀ (g o : Nat) (v : Value), W.cell? ⟨g, o, none⟩ = some v → g < W.heap.size := fun g o v hv => by
    rcases Nat.lt_or_ge g W.heap.size with h | h
    · exact h
    · simp [World.cell?, Array.getElem?_eq_none h] at hv
  exact ⟨t, lt _ 0 _ (t.1 0 (by decide)), lt _ 0 _ (t.2 0 (by decide)).1⟩
theorem Tryd.cellsParser : Tryd.prog.cellsOf 37 = 5 := by kernel_rfl
set_option maxRecDepth 100000 in
theorem openParser {H : Type} {enc' : TypeId × Value → H} {W : World} {base : Nat} {vv : Value} {d : DataW H} {p : List MemPlace} (hv : Value.okWide Tryd.prog W .any base 37 vv)
    (h : DataW.Trod enc' Tryd.prog W 0 (fun _ => true) true 37 vv d p) : ∃ (st : Int) (axs : Option Addr) (cxs : Nat) (xs : List (Int)) (pr : Bool) (tx : ByteArray) (ut : ByteArray), vv = .agg #[.int .i64 st, .slice axs xs.length cxs, .bool pr, .string tx, .string ut] ∧ xs.length ≤ 9223372036854775807 ∧ Sl intE 1 W axs xs ∧ tx.size ≤ 9223372036854775807 ∧ ut.size ≤ 9223372036854775807 := by
  obtain ⟨cs, rfl, hsz⟩ := okWide_struct Tryd.underlying37 hv
  rw [Tryd.cellsParser] at hsz
  obtain ⟨fuel, hf⟩ := h
  obtain ⟨cs⟩ := cs
  obtain ⟨ys, n, _, _, _, hyl, hfs⟩ := DataW.trod_struct Tryd.underlying37 hf
  match cs, hsz with
  | [v0, v1, v2, v3, v4], _ =>
    obtain ⟨x0, hx0⟩ : ∃ x, ys[0]? = some x := ⟨_, List.getElem?_eq_getElem (by simp [hyl])⟩
    have g0 : DataW.trod enc' Tryd.prog W 0 (fun _ => true) true n 3 [v0] = some x0 := (hfs 0 _ rfl).trans hx0
    obtain ⟨st, e0, _, _⟩ := DataW.trod_int Tryd.underlying3 g0
    simp only [List.cons.injEq, and_true] at e0
    subst e0
    obtain ⟨x1, hx1⟩ : ∃ x, ys[1]? = some x := ⟨_, List.getElem?_eq_getElem (by simp [hyl])⟩
    have g1 : DataW.trod enc' Tryd.prog W 0 (fun _ => true) true n 23 [v1] = some x1 := (hfs 1 _ rfl).trans hx1
    obtain ⟨axs, cxs, xs, e1, q1a, q1b, q1c⟩ := open_intSlc g1
    simp only [List.cons.injEq, and_true] at e1
    subst e1
    obtain ⟨x2, hx2⟩ : ∃ x, ys[2]? = some x := ⟨_, List.getElem?_eq_getElem (by simp [hyl])⟩
    have g2 : DataW.trod enc' Tryd.prog W 0 (fun _ => true) true n 4 [v2] = some x2 := (hfs 2 _ rfl).trans hx2
    obtain ⟨pr, e2, _⟩ := DataW.trod_bool Tryd.underlying4 g2
    simp only [List.cons.injEq, and_true] at e2
    subst e2
    obtain ⟨x3, hx3⟩ : ∃ x, ys[3]? = some x := ⟨_, List.getElem?_eq_getElem (by simp [hyl])⟩
    have g3 : DataW.trod enc' Tryd.prog W 0 (fun _ => true) true n 9 [v3] = some x3 := (hfs 3 _ rfl).trans hx3
    obtain ⟨tx, e3, _, q3⟩ := DataW.trod_string Tryd.underlying9 g3
    simp only [List.cons.injEq, and_true] at e3
    subst e3
    obtain ⟨x4, hx4⟩ : ∃ x, ys[4]? = some x := ⟨_, List.getElem?_eq_getElem (by simp [hyl])⟩
    have g4 : DataW.trod enc' Tryd.prog W 0 (fun _ => true) true n 9 [v4] = some x4 := (hfs 4 _ rfl).trans hx4
    obtain ⟨ut, e4, _, q4⟩ := DataW.trod_string Tryd.underlying9 g4
    simp only [List.cons.injEq, and_true] at e4
    subst e4
    exact ⟨st, axs, cxs, xs, pr, tx, ut, rfl, q1a, q1c, (by unfold maxLen at q3; omega), (by unfold maxLen at q4; omega)⟩
end
section
open Go.ChangeShapes Go.WideShapes Go.ChangeAt Go.RowKit
theorem pow10Eq : (Rows.laid_internal_strconv_uint64pow10 : DataW Unit) = Lib.tabData .u64 Lib.pow10Tab := by kernel_rfl
theorem tabIs_of_reads {P : Program} {W : World} {name : String} {k : IntKind} {zs : List Int} {g : Nat} {t e : TypeId} {n : Nat}
    (hg : P.globalNamed name = some g) (hty : (P.globals[g]?).map (·.type) = some t) (ht : P.underlying t = some (.array n e)) (he : P.underlying e = some (.int k)) (hce : P.cellsOf e = 1) (hct : P.cellsOf t = n)
    (h : Lib.VarReads P W name (Lib.tabData k zs)) : Lib.TabIs P W name k zs := by
  obtain ⟨g', t', cs, fuel, p, hg', ht', hvar, hd⟩ := h
  obtain rfl := Option.some.inj (hg.symm.trans hg')
  obtain rfl := Option.some.inj (hty.symm.trans ht')
  unfold Lib.TabIs
  rw [hvar, ← Lib.cells_of_tab ht he hce hct hd]
theorem ptLaid {W : World} {l : List (String × DataW Unit)} (h : laidMet Tryd.prog l W) (h1 : ("internal/strconv.uint64pow10", (Rows.laid_internal_strconv_uint64pow10 : DataW Unit)) ∈ l) : PT W.heap.size W :=
  Lib.tabBelow_of_tabIs (tabIs_of_reads (g := 3) (t := 108) (e := 102) (n := 20) (by kernel_rfl) (by kernel_rfl) (by kernel_rfl) (by kernel_rfl) (by kernel_rfl) (by kernel_rfl) (pow10Eq ▸ Lib.laidMet.reads h h1))
set_option maxRecDepth 100000 in
theorem fnActions_lifted (os : Os) (started : os.Started) (H : Type) (enc : TypeId × Value → H) :
    ReturnsInHanded {} Tryd.checked os 5 .any (fun w args => (Rows.fnActionsSpec.pre enc Tryd.prog Tryd.f5 [] false w args ∧ laidMetH Tryd.prog Rows.fnActionsRow.laid w) ∧ sizedMet enc Tryd.prog Tryd.f5 (OpenSpec.ofChange Rows.fnActionsSpec) false w args)
      (Rows.fnActionsSpec.post enc Tryd.prog Tryd.f5 false true false false) := by
  refine returnsInHanded_of_change_and (C := Tryd.checked) (X := fun w _ => laidMetH Tryd.prog Rows.fnActionsRow.laid w) (fun _ _ _ hh h => h.of_heap hh) Tryd.own started (by kernel_rfl) Tryd.func5
    (ChangeSpec.witness_shaped (enc := enc) (C := Tryd.checked) (os := os) (X := fun w _ => laidMetH Tryd.prog Rows.fnActionsRow.laid w) false (World.laidAll Tryd.prog os Rows.fnActionsRow.laid) #[.slice none 0 0] 8 (World.laidAll_os _ _ _)
      (World.shaped_of_ZipB (by kernel_rfl) (by kernel_rfl)) (by kernel_rfl) (by kernel_rfl) (by kernel_rfl)
      (by rw [MakeChecks.laidMetH_plain _ _ _ (by kernel_rfl)]; exact laidMet_laidAll _ (by kernel_rfl) (by kernel_rfl))) ?_
  intro W base args ds gs before hval0 hW hc _ hL0 _
  have hval : ∀ (j : Nat) t v, Tryd.f5.params[j]? = some t → args[j]? = some v → Value.okWide Tryd.prog W .any base t v := hval0
  have hW' := hW
  obtain ⟨p, q, hA0, hV, rfl, _, _⟩ := hW
  have hA : DataW.TrodAll enc Tryd.prog W 0 (fun _ => true) true Tryd.f5.params.toList args.toList ds p := hA0
  rw [Tryd.params5] at hA hval
  rw [MakeChecks.laidMetH_plain _ _ _ (by kernel_rfl)] at hL0
  have hL : laidMet Tryd.prog Rows.fnActionsRow.laid W := hL0
  obtain ⟨v0, d0, rfl, rfl, h0⟩ := trodAll_one hA
  obtain ⟨rfl, rfl⟩ := trodVars_none hV
  obtain ⟨a, ca, xs, rfl, la, _, ha⟩ := open_byteSl (hval 0 22 v0 rfl rfl) h0
  have hut : UT W := utLaid hL (.tail _ (.tail _ (.tail _ (.tail _ (.head _))))) (.tail _ (.tail _ (.tail _ (.head _))))
  have hpt : PT W.heap.size W := ptLaid hL (.tail _ (.tail _ (.head _)))
  exact law_calls rfl rfl (by kernel_rfl) hW' rfl (lawActions_c a ca xs W ha la hut hpt)
theorem fnActions_said : Rows.FnActionsSaid :=
  OpenClaim.holds_of_wide 5 Tryd.f5 rfl rfl rfl rfl rfl rfl rfl ⟨rfl, rfl, rfl, rfl, rfl⟩ rfl rfl rfl rfl rfl (by kernel_rfl) Tryd.func5 (by kernel_rfl)
    (of_decide_eq_true (by kernel_rfl)) (by unfold Func.isWrapper; first | (rw [if_pos (by decide +kernel)]; kernel_rfl) | (rw [if_neg (by decide +kernel)]; exact ⟨rfl, rfl⟩))
    (fun os started H enc _ => fnActions_lifted os started H enc)
theorem fnActions_holds : Rows.FnActionsCardSaid :=
  Claim7.holds_tied_plain_at .later [] [.data, .data, .data, .data, .pinned] true (true, "05846fea5c9a64b9555df6302008e22e854597f0c8f584b587de17cee55c3bbd") false fnActions_said (fun _ h => by cases h) (by kernel_rfl) (fun _ h => by cases h) fnActions_row_tie rfl ⟨rfl, rfl⟩ (by kernel_rfl) rfl
    (fun f fn hf hfn => by
      obtain rfl : f = 5 := Option.some.inj ((show Tryd.prog.funcNamed "loop.example/g00308/laws.FnActions" = some 5 by kernel_rfl).symm.trans hf) |>.symm
      obtain rfl : fn = Tryd.f5 := (Option.some.inj (Tryd.func5.symm.trans hfn)).symm
      exact ⟨by kernel_rfl, fun j t ht => by
        rw [Tryd.params5] at ht
        have hm : t ∈ [22] := by simpa using Array.mem_of_getElem? ht
        have hall : ([22].all fun u => !Tryd.prog.wantsStandIn u) = true := by kernel_rfl
        exact (show Tryd.prog.wantsStandIn t = false by simpa using List.all_eq_true.1 hall t hm)⟩)
    (by kernel_rfl)
#print axioms fnActions_holds
end
end Go.Proofs.YtlhhlmalihajcaaDoor
