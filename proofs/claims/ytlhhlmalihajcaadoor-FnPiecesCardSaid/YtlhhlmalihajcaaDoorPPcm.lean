/- The parser returns the same actions however the bytes are divided: the law FnPieces returns true for all codes, and its arguments read afterwards as they read before. The row lists the two tables of utf8, tied to the program's text. No conditions. -/
import Derived.Test.YtlhhlmalihajcaaDoorSqA
import Derived.Test.YtlhhlmalihajcaaDoorQLo
import Derived.Deep.DeepCutAuto
import Derived.Test.YtlhhlmalihajcaaDoorSl
import Derived.Laws.IdiomStrings
import Derived.Test.YtlhhlmalihajcaaDoorOwn
import Derived.Test.YtlhhlmalihajcaaDoorScalar
import Derived.Deep.RegionHeld3
import Derived.Test.YtlhhlmalihajcaaDoorTie
import Derived.Test.YtlhhlmalihajcaaDoorCards
import Derived.Test.YtlhhlmalihajcaaDoorPaA
import Derived.Test.YtlhhlmalihajcaaDoorFrame
import Derived.Lib.LaidU8T
import Derived.PinnedBridge
import Derived.Lay
import Derived.LaidMore
import Derived.Stop.Joined
import Derived.SevenTiedAt
import Derived.ChangeMaps5
import Derived.Test.YtlhhlmalihajcaaDoorFrame3
namespace Go.Proofs.YtlhhlmalihajcaaDoor
set_option linter.unusedVariables false
set_option linter.unusedSimpArgs false
section
open Go.RowKit
/-- A call's parser in a box, its actions and its code. -/
def OutB (R : (PV × List AV) × Int) (w : World) (s1 s2 s3 : Value) (wx : World) : Prop :=
  ∃ (H : Nat) (a : Option Addr) (c : Nat) (al : Option Addr) (cl : Nat) (L : List ActA), s1 = .pointer (some ⟨H, 0, none⟩) ∧ s2 = .slice al L.length cl ∧ s3 = .int .i64 R.2 ∧ w.heap.size ≤ H ∧ H < wx.heap.size ∧
    wx.cell? ⟨H, 0, none⟩ = some (.int .i64 R.1.1.state) ∧ wx.cell? ⟨H, 1, none⟩ = some (.slice a R.1.1.args.length c) ∧ wx.cell? ⟨H, 2, none⟩ = some (.bool R.1.1.priv) ∧ wx.cell? ⟨H, 3, none⟩ = some (.string R.1.1.text) ∧ wx.cell? ⟨H, 4, none⟩ = some (.string R.1.1.utf) ∧
    FreshIn intE 3 1 w.heap.size wx.heap.size (.slice a R.1.1.args.length c) R.1.1.args wx ∧ ActO w.heap.size L al cl wx ∧ (∀ k ∈ blkOf a, k ∉ acB al L) ∧ H ∉ blkOf a ++ acB al L ∧ L.map (·.A) = R.1.2 ∧ Below w.heap.size w wx
theorem outB_alloc {R : (PV × List AV) × Int} {w w3 : World} {a al : Option Addr} {c cl : Nat} {L : List ActA} {v : Int} (hb : Below w.heap.size w w3) (hf : FreshIn intE 3 1 w.heap.size w3.heap.size (.slice a R.1.1.args.length c) R.1.1.args w3) (hro : ActO w.heap.size L al cl w3) (hd : ∀ k ∈ blkOf a, k ∉ acB al L) (hL : L.map (·.A) = R.1.2) (hv : v = R.2) :
    OutB R w (.pointer (some ⟨w3.heap.size, 0, none⟩)) (.slice al L.length cl) (.int .i64 v) (w3.alloc (.cells #[.int .i64 R.1.1.state, .slice a R.1.1.args.length c, .bool R.1.1.priv, .string R.1.1.text, .string R.1.1.utf] 25)) := by
  subst hv
  have hc : Ch (fun _ => False) w3 (w3.alloc (.cells #[.int .i64 R.1.1.state, .slice a R.1.1.args.length c, .bool R.1.1.priv, .string R.1.1.text, .string R.1.1.utf] 25)) := Ch.refl.alloc _
  refine ⟨w3.heap.size, a, c, al, cl, L, rfl, rfl, rfl, hb.size, by simp, ?_, ?_, ?_, ?_, ?_, hf.ch hc (fun _ _ h => h), hro.ch actL hc (fun _ _ h => h), hd, fun h => ?_, hL, hb.alloc hb.size _⟩
  all_goals try (simp [go_sem]; done)
  rcases List.mem_append.1 h with h | h
  · have := (FreshIn.blks hf _ h).2; omega
  · have := (hro.bd actL _ h).2; omega
theorem outB_store {R : (PV × List AV) × Int} {w w1 w3 : World} {H : Nat} {a al : Option Addr} {c cl : Nat} {L : List ActA} {v : Int} (hH : w.heap.size ≤ H) (hH1 : H < w1.heap.size) (hz : w1.heap.size ≤ w3.heap.size) (hb : Below w.heap.size w w3) (h0 : ∃ v, w3.cell? ⟨H, 0, none⟩ = some v) (h1 : ∃ v, w3.cell? ⟨H, 1, none⟩ = some v) (h2 : ∃ v, w3.cell? ⟨H, 2, none⟩ = some v) (h3 : ∃ v, w3.cell? ⟨H, 3, none⟩ = some v) (h4 : ∃ v, w3.cell? ⟨H, 4, none⟩ = some v)
    (hf : FreshIn intE 3 1 w1.heap.size w3.heap.size (.slice a R.1.1.args.length c) R.1.1.args w3) (hro : ActO w1.heap.size L al cl w3) (hd : ∀ k ∈ blkOf a, k ∉ acB al L) (hL : L.map (·.A) = R.1.2) (hv : v = R.2) :
    OutB R w (.pointer (some ⟨H, 0, none⟩)) (.slice al L.length cl) (.int .i64 v) (((((w3.setCell ⟨H, 0, none⟩ (.int .i64 R.1.1.state)).setCell ⟨H, 1, none⟩ (.slice a R.1.1.args.length c)).setCell ⟨H, 2, none⟩ (.bool R.1.1.priv)).setCell ⟨H, 3, none⟩ (.string R.1.1.text)).setCell ⟨H, 4, none⟩ (.string R.1.1.utf)) := by
  subst hv
  obtain ⟨v0, h0⟩ := h0
  obtain ⟨v1, h1⟩ := h1
  obtain ⟨v2, h2⟩ := h2
  obtain ⟨v3, h3⟩ := h3
  obtain ⟨v4, h4⟩ := h4
  have hlt : H < w3.heap.size := by omega
  have hc : Ch (fun k => k = H) w3 (((((w3.setCell ⟨H, 0, none⟩ (.int .i64 R.1.1.state)).setCell ⟨H, 1, none⟩ (.slice a R.1.1.args.length c)).setCell ⟨H, 2, none⟩ (.bool R.1.1.priv)).setCell ⟨H, 3, none⟩ (.string R.1.1.text)).setCell ⟨H, 4, none⟩ (.string R.1.1.utf)) := ((((Ch.set1 _ _ _ _).setB _ _).setB _ _).setB _ _).setB _ _
  have na : ∀ k ∈ blkOf a, ¬ k = H := fun k hk e => by have := (FreshIn.blks hf k hk).1; omega
  have nl : ∀ k ∈ acB al L, ¬ k = H := fun k hk e => by have := (hro.bd actL k hk).1; omega
  refine ⟨H, a, c, al, cl, L, rfl, rfl, rfl, hH, Nat.lt_of_lt_of_le hlt hc.size, ?_, ?_, ?_, ?_, ?_, (hf.ch hc na).mono (by omega) (Nat.le_refl _), (hro.ch actL hc nl).low actL (by omega), hd, fun h => ?_, hL, hb.trans (hc.below (by omega) (fun k hk => by omega))⟩
  all_goals try (simp [go_sem, h0, h1, h2, h3, h4, hlt]; done)
  rcases List.mem_append.1 h with h | h
  · exact na _ h rfl
  · exact nl _ h rfl
/-- Rows more. -/
theorem RO.pushL {R : Type} {enc : R → List Value} {T : TypeId} {sz : Nat} {own : Nat → World → R → Prop} {blk : R → List Nat} {lo : Nat} {L ys us : List R} {am am' : Option Addr} {cm cm' : Nat} {w w' : World} (hO : OwnL own blk) (h : RO enc T sz own blk lo L am cm w) (hx : ∀ x ∈ ys, own lo w x) (hn : (ys.flatMap blk).Nodup) (hd : ∀ k ∈ ys.flatMap blk, k ∉ roB blk am L)
    (hus : us = L ++ ys) (hf : FreshIn enc T sz lo w'.heap.size (.slice am' us.length cm') us w') (hc : Ch (· ∈ blkOf am) w w') (hk : ∀ k ∈ blkOf am', k ∈ blkOf am ∨ k = w.heap.size) : RO enc T sz own blk lo us am' cm' w' := by
  have hnd := h.nd
  simp only [roB, List.nodup_append] at hnd
  obtain ⟨n1, n2, n3⟩ := hnd
  have hyb : ∀ k ∈ ys.flatMap blk, k < w.heap.size := fun k hk => by
    obtain ⟨x, hx1, hx2⟩ := List.mem_flatMap.1 hk
    exact (hO.bd (hx x hx1) k hx2).2
  subst hus
  refine ⟨hf, fun r hr => ?_, ?_⟩
  · rcases List.mem_append.1 hr with hr | hr
    · exact hO.ch (h.ow r hr) hc (fun k hk1 hk2 => n3 k hk2 k (List.mem_flatMap.2 ⟨r, hr, hk1⟩) rfl)
    · exact hO.ch (hx r hr) hc (fun k hk1 hk2 => hd k (List.mem_flatMap.2 ⟨r, hr, hk1⟩) (by simp [roB, hk2]))
  · simp only [roB, List.flatMap_append, List.nodup_append]
    refine ⟨blkOf_nodup _, ⟨n2, hn, fun k hk1 j hj e => ?_⟩, fun k hk1 j hj e => ?_⟩
    · subst e
      exact hd k hj (by simp only [roB, List.mem_append]; exact .inr hk1)
    · subst e
      have hlt : k < w.heap.size := by
        rcases List.mem_append.1 hj with h2 | h2
        · obtain ⟨r, hr, hk3⟩ := List.mem_flatMap.1 h2
          exact (hO.bd (h.ow r hr) k hk3).2
        · exact hyb k h2
      rcases hk k hk1 with h1 | h1
      · rcases List.mem_append.1 hj with h2 | h2
        · exact n3 k h1 k h2 rfl
        · exact hd k h2 (by simp [roB, h1])
      · omega
theorem pb_ok {p : PV} (h : PvOK p) (l : List UInt8) (hl : l.length ≤ 65536) : pbytes p l = (prun p l, 0) := by
  unfold pbytes
  rw [if_neg (by omega), if_neg (by rw [pvB_iff.2 h]; simp)]
theorem pb1_ok {p : PV} (h : PvOK p) (b : UInt8) : pbyte p (b.toNat : Int) = (pstep p b, 0) := by
  unfold pbyte
  have hb := b.toNat_lt
  rw [if_neg (by rw [pvB_iff.2 h]; simp), if_neg (by simp [inB]; omega)]
  simp
theorem prun_split (p : PV) (l : List UInt8) (k : Nat) : prun p l = ((prun (prun p (l.take k)).1 (l.drop k)).1, (prun p (l.take k)).2 ++ (prun (prun p (l.take k)).1 (l.drop k)).2) := by
  conv => lhs; rw [← List.take_append_drop k l]
  exact prun_append p _ _
section
variable {X lo : Nat} {p : PV} {ap al al' : Option Addr} {cp cl cl' : Nat} {L ys us : List ActA} {w w' : World}
/-- The parser's box is written anew. -/
theorem PS.put {P : PV} {a5 : Option Addr} {c5 lo' : Nat} (h : PS X lo P a5 c5 L al cl w) (p : PV) {a : Option Addr} {c : Nat} (hf : FreshIn intE 3 1 lo' w.heap.size (.slice a p.args.length c) p.args w) (hlo : lo ≤ lo') (hn : ∀ k ∈ blkOf a, k ≠ X ∧ k ∉ acB al L) :
    PS X lo p a c L al cl (((((w.setCell ⟨X, 0, none⟩ (.int .i64 p.state)).setCell ⟨X, 1, none⟩ (.slice a p.args.length c)).setCell ⟨X, 2, none⟩ (.bool p.priv)).setCell ⟨X, 3, none⟩ (.string p.text)).setCell ⟨X, 4, none⟩ (.string p.utf)) := by
  have hc : Ch (fun k => k = X) w (((((w.setCell ⟨X, 0, none⟩ (.int .i64 p.state)).setCell ⟨X, 1, none⟩ (.slice a p.args.length c)).setCell ⟨X, 2, none⟩ (.bool p.priv)).setCell ⟨X, 3, none⟩ (.string p.text)).setCell ⟨X, 4, none⟩ (.string p.utf)) := ((((Ch.set1 _ _ _ _).setB _ _).setB _ _).setB _ _).setB _ _
  have k0 := h.c0
  have k1 := h.c1
  have k2 := h.c2
  have k3 := h.c3
  have k4 := h.c4
  have kf := h.fz
  have kl := h.lt
  refine ⟨?_, ?_, ?_, ?_, ?_, fun o => by simp [go_sem, kf], Nat.lt_of_lt_of_le kl hc.size, (hf.ch hc (fun k hk e => (hn k hk).1 e)).mono hlo (Nat.le_refl _), h.ro.ch actL hc (fun k hk e => h.nB (by rw [List.mem_append]; exact .inr (e ▸ hk))), fun hb => ?_, fun k hk => (hn k hk).2⟩
  all_goals try (simp [go_sem, k0, k1, k2, k3, k4, kl]; done)
  rcases List.mem_append.1 hb with hb | hb
  · exact (hn X hb).1 rfl
  · exact h.nB (by rw [List.mem_append]; exact .inr hb)
theorem PS.app (h : PS X lo p ap cp L al cl w) (hx : ∀ x ∈ ys, actOwn lo w x) (hn : (ys.flatMap actBlk).Nodup) (hd : ∀ k ∈ ys.flatMap actBlk, k ≠ X ∧ k ∉ blkOf ap ∧ k ∉ acB al L) (hus : us = L ++ ys) (hf : FreshIn actE 46 5 lo w'.heap.size (.slice al' us.length cl') us w') (hc : Ch (· ∈ blkOf al) w w')
    (hk : ∀ k ∈ blkOf al', k ∈ blkOf al ∨ k = w.heap.size) : PS X lo p ap cp us al' cl' w' ∧ ∀ k ∈ acB al' us, k ∈ acB al L ∨ k ∈ ys.flatMap actBlk ∨ k = w.heap.size := by
  have hB : X ∉ blkOf al := fun hb => h.nB (by simp [roB, hb])
  have hA : ∀ k ∈ blkOf ap, k ∉ blkOf al := fun k hk1 hk2 => h.nd k hk1 (by simp [roB, hk2])
  have hro : ActO lo us al' cl' w' := h.ro.pushL actL hx hn (fun k hk1 => (hd k hk1).2.2) hus hf hc hk
  have hin : ∀ k ∈ acB al' us, k ∈ acB al L ∨ k ∈ ys.flatMap actBlk ∨ k = w.heap.size := by
    intro k hk1
    simp only [roB, List.mem_append] at hk1 ⊢
    rcases hk1 with hk1 | hk1
    · rcases hk k hk1 with h2 | h2
      · exact .inl (.inl h2)
      · exact .inr (.inr h2)
    · rw [hus] at hk1
      simp only [List.flatMap_append, List.mem_append] at hk1
      rcases hk1 with hk1 | hk1
      · exact .inl (.inr hk1)
      · exact .inr (.inl hk1)
  refine ⟨⟨(hc.cell (p := ⟨X, 0, none⟩) h.lt hB).trans h.c0, (hc.cell (p := ⟨X, 1, none⟩) h.lt hB).trans h.c1, (hc.cell (p := ⟨X, 2, none⟩) h.lt hB).trans h.c2, (hc.cell (p := ⟨X, 3, none⟩) h.lt hB).trans h.c3, (hc.cell (p := ⟨X, 4, none⟩) h.lt hB).trans h.c4, fun o => (hc.frozen (p := ⟨X, o, none⟩) h.lt hB).trans (h.fz o), Nat.lt_of_lt_of_le h.lt hc.size, h.args.ch hc hA, hro, fun hb => ?_, fun k hk1 hk2 => ?_⟩, hin⟩
  · rcases List.mem_append.1 hb with hb | hb
    · exact h.nB (by simp [hb])
    · rcases hin X hb with h2 | h2 | h2
      · exact h.nB (List.mem_append.2 (.inr h2))
      · exact (hd X h2).1 rfl
      · have := h.lt; omega
  · rcases hin k hk2 with h2 | h2 | h2
    · exact h.nd k hk1 h2
    · exact (hd k h2).2.1 hk1
    · have := (FreshIn.blks h.args k hk1).2; omega
end
theorem ActS.ch {w w' : World} {a : Option Addr} {L : List ActA} {M : Nat → Prop} (h : ActS w a L) (hc : Ch M w w') (hd : ∀ k ∈ acB a L, ¬ M k) : ActS w' a L :=
  ⟨Sl.ch h.1 hc (fun k hk => hd k (by simp [roB, hk])), fun r hr => Sl.ch (h.2 r hr) hc (fun k hk => hd k (by simp only [roB, List.mem_append, List.mem_flatMap]; exact .inr ⟨r, hr, hk⟩))⟩
/-- A box that may be written. -/
def FzA (X : Nat) (w : World) : Prop := X < w.heap.size ∧ ∀ o, w.frozen? ⟨X, o, none⟩ = false
theorem FzA.below {X : Nat} {w w' : World} (h : FzA X w) (hb : Below w.heap.size w w') : FzA X w' := ⟨Nat.lt_of_lt_of_le h.1 hb.size, fun o => (hb.frozen (p := ⟨X, o, none⟩) h.1).trans (h.2 o)⟩
theorem FzA.alloc {X : Nat} {w : World} (h : FzA X w) (o : Obj) : FzA X (w.alloc o) := h.below ((Below.refl _ _).alloc (Nat.le_refl _) _)
/-- append onto a slice of one's own, behind a guard. -/
theorem wpList_append_gd {α : Type} {enc : α → List Value} {w : World} {P : Program} {ops : Array Oper} {rest : List Oper} {o : Oper} {a : Act} {Q : Exit → Act → World → Prop} (s x : Operand) (t tx : TypeId)
    (lo : Nat) (e : TypeId) (i : TypeInfo) (z : Value) (size bytes : Nat) (ht : P.underlying t = some (.slice e)) (hinfo : P.info? e = some i) (hz : i.zero = some z)
    (hsize : i.size = size) (hby : i.bytes = bytes) (hzs : z.cells.size = size) (hbp : 0 < bytes)
    (ad : Option Addr) (n c : Nat) (zs : List α) (hF : FreshIn enc e size lo w.heap.size (.slice ad n c) zs w)
    (xv : Value) (ys : List α) (hsrc : Src P size tx xv ys.length (ys.flatMap enc) w)
    (hbytes : (zs.length + ys.length) * bytes ≤ 140737488355328) (hlo : lo ≤ w.heap.size)
    (hgd : Region.wanted o (yielded ops a.tmps) = true) (ho : o.op = .call { callee := .builtin .append, args := #[s, x], argTypes := #[t, tx] }) (hs : a.eval s = .slice ad n c) (hx : a.eval x = xv)
    (h : ∀ a' c' w' us, Hid (us = zs ++ ys) → FreshIn enc e size lo w'.heap.size (.slice a' us.length c') us w' → Ch (· ∈ blkOf ad) w w' → (∀ k ∈ blkOf a', k ∈ blkOf ad ∨ k = w.heap.size) → wpList P ops Q rest (a.put o.dst (.slice a' us.length c')) w') : wpList P ops Q (o :: rest) a w := by
  refine wpList_step fun K hK => ?_
  rw [if_pos hgd]
  exact step_append_ch s x t tx lo e i z size bytes ht hinfo hz hsize hby hzs hbp ad n c zs hF xv ys hsrc hbytes hlo ho hs hx (fun a' c' w' us h1 h2 h3 h4 => hK _ _ (h a' c' w' us h1 h2 h3 h4))
theorem sameParser_eq (ap aq : Option Addr) (cp cq : Nat) (p q : PV) (w : World) (hq : q = p) (ha : Sl intE 1 w ap p.args) (hb : Sl intE 1 w aq q.args) (hl : p.args.length ≤ 1048576) :
    Calls Tryd.prog 10 #[.agg #[.int .i64 p.state, .slice ap p.args.length cp, .bool p.priv, .string p.text, .string p.utf], .agg #[.int .i64 q.state, .slice aq q.args.length cq, .bool q.priv, .string q.text, .string q.utf]] w fun e w' => e = .returned (.bool true) ∧ Below w.heap.size w w' := by
  subst hq
  exact sameParser_same ap aq cp cq q w ha hb hl
theorem pvsz_ok {p : PV} (h : PvOK p) : PvSz p 1048576 := by
  refine ⟨by have := h.len; omega, by have := h.tit.1; omega, ?_⟩
  by_cases h6 : p.state = 6
  · have := h.ut h6
    simp only [begB, Bool.and_eq_true, decide_eq_true_eq] at this
    have h2 : utfLen (p.utf.data.toList.headD 0).toNat ≤ 4 := by unfold utfLen; (repeat' split) <;> omega
    have h3 : p.utf.data.toList.length = p.utf.size := rfl
    omega
  · rw [h.nout h6]; decide
theorem Sl.takeK {α : Type} {enc : α → List Value} {sz : Nat} {w : World} {a : Option Addr} {xs : List α} (h : Sl enc sz w a xs) (k : Nat) : Sl enc sz w a (xs.take k) := by
  rcases h with rfl | ⟨b, off, he, hlt, hc⟩
  · exact .inl (by simp)
  · refine .inr ⟨b, off, he, hlt, fun i hi j hj => ?_⟩
    have hi' : i < xs.length := by rw [List.length_take] at hi; omega
    have h2 := hc i hi' j (by simpa using hj)
    simpa using h2
theorem Sl.dropK {α : Type} {enc : α → List Value} {sz : Nat} {w : World} {b : Nat} {xs : List α} (h : Sl enc sz w (some ⟨b, 0, none⟩) xs) (k : Nat) : Sl enc sz w (some ⟨b, k * sz, none⟩) (xs.drop k) := by
  rcases h with rfl | ⟨b', off, he, hlt, hc⟩
  · exact .inl (by simp)
  · cases he
    refine .inr ⟨b, k * sz, rfl, hlt, fun i hi j hj => ?_⟩
    have hi' : k + i < xs.length := by rw [List.length_drop] at hi; omega
    have h2 := hc (k + i) hi' j (by simpa using hj)
    rw [Nat.add_mul, ← Nat.add_assoc, Nat.zero_add] at h2
    simpa using h2
/-- Bytes in a block. -/
def ByA (g : Nat) (l : List UInt8) (w : World) : Prop := Sl byteE 1 w (some ⟨g, 0, none⟩) l
theorem ByA.below {g : Nat} {l : List UInt8} {w w' : World} (h : ByA g l w) (hb : Below w.heap.size w w') : ByA g l w' := Sl.keep h hb
theorem ByA.alloc {g : Nat} {l : List UInt8} {w : World} (h : ByA g l w) (o : Obj) : ByA g l (w.alloc o) := h.below ((Below.refl _ _).alloc (Nat.le_refl _) _)
theorem ByA.drew {g : Nat} {l : List UInt8} {w : World} (h : ByA g l w) : ByA g l w.drew := h.below ((Below.refl _ _).drew)
theorem ByA.ch {g : Nat} {l : List UInt8} {w w' : World} {M : Nat → Prop} (h : ByA g l w) (hc : Ch M w w') (hg : ¬ M g) : ByA g l w' := Sl.ch h hc (fun k hk => by simp [blkOf] at hk; subst hk; exact hg)
theorem ByA.sl {g : Nat} {l : List UInt8} {w : World} (h : ByA g l w) : Sl byteE 1 w (some ⟨g, 0, none⟩) l := h
/-- impl.ParseBytes, ParseByte of a parser that is right. -/
theorem pbI (ap : Option Addr) (cp : Nat) (p : PV) (a : Option Addr) (ca n : Nat) (l : List UInt8) (R : PV × List AV) (W : World) (ok : PvOK p) (hn : l.length = n) (hl : n ≤ 65536) (hR : prun p l = R) (ha : Sl intE 1 W ap p.args) (hb : Sl byteE 1 W a l) (hUT : UT W) :
    Calls Tryd.prog 8 #[.agg #[.int .i64 p.state, .slice ap p.args.length cp, .bool p.priv, .string p.text, .string p.utf], .slice a n ca] W (OutR (R, 0) W) := by
  subst hn hR
  have h := implParseBytes_c ap cp p a ca l W ha hb (by omega) (pvsz_ok ok) hUT
  rwa [pb_ok ok l hl] at h
theorem pbS (ap : Option Addr) (cp : Nat) (p : PV) (a : Option Addr) (ca n : Nat) (l : List UInt8) (R : PV × List AV) (W : World) (ok : PvOK p) (hn : l.length = n) (hl : n ≤ 65536) (hR : prun p l = R) (ha : Sl intE 1 W ap p.args) (hb : Sl byteE 1 W a l) :
    Calls Tryd.prog 9 #[.agg #[.int .i64 p.state, .slice ap p.args.length cp, .bool p.priv, .string p.text, .string p.utf], .slice a n ca] W (OutR (R, 0) W) := by
  subst hn hR
  have h := specParseBytes_c ap cp p a ca l W ha hb (by omega) (pvsz_ok ok)
  rwa [pb_ok ok l hl] at h
theorem pb1 (ap : Option Addr) (cp : Nat) (p : PV) (b : UInt8) (R : PV × List AV) (W : World) (ok : PvOK p) (hR : pstep p b = R) (ha : Sl intE 1 W ap p.args) (hUT : UT W) :
    Calls Tryd.prog 14 #[.agg #[.int .i64 p.state, .slice ap p.args.length cp, .bool p.priv, .string p.text, .string p.utf], .int .i64 b.toNat] W (OutR (R, 0) W) := by
  subst hR
  have h := implParseByte_c ap cp p (b.toNat : Int) W ha (pvsz_ok ok) hUT
  rwa [pb1_ok ok b] at h
theorem atI (a : Option Addr) (ca : Nat) (xs : List UInt8) (n : Nat) (W : World) (ha : Sl byteE 1 W a xs) (hl : xs.length ≤ 1048576) (h1 : 1 ≤ n) (h2 : n ≤ 1000) :
    Calls Tryd.prog 13 #[.slice a xs.length ca, .int .i64 0, .int .i64 ((n : Int) + 1)] W fun e w' => (∃ m : Nat, e = .returned (.int .i64 m) ∧ m ≤ n) ∧ Below W.heap.size W w' := by
  have h := lawAt2_c a ca xs 0 (n + 1) W ha hl (by omega) (by omega) (by omega)
  rw [show ((n + 1 : Nat) : Int) = (n : Int) + 1 from by omega, show ((0 : Nat) : Int) = 0 from rfl] at h
  refine h.mono ?_
  rintro e w' ⟨⟨m, rfl, hm⟩, hb⟩
  exact ⟨⟨m, rfl, by omega⟩, hb⟩
theorem outSz {p : PV} {R : PV × List AV} {l : List UInt8} (ok : PvOK p) (hR : prun p l = R) (hl : l.length ≤ 65536) : OutSz (R, 0) := by
  have h := pbytes_sz p l
  rwa [pb_ok ok l hl, hR] at h
end
section
open Go.RowKit
/-- What '[]byte(s)' leaves. -/
noncomputable def cvC (s : ByteArray) (w : World) : Nat := grownCap w s.size 0 5
noncomputable def cvW (s : ByteArray) (w : World) : World := w.drew.alloc (.cells (bytesRow s (cvC s w)) 5 ((bytesRow s (cvC s w)).size, (bytesRow s (cvC s w)).size + 1))
theorem cv_run (s : ByteArray) (w : World) : (convert 9 22 (.string s)).run Tryd.prog w = .ok (.slice (some ⟨w.heap.size, 0, none⟩) s.size (cvC s w)) (cvW s w) :=
  run_bytes_of_string w 9 22 5 s Tryd.underlying9 Tryd.underlying22 Tryd.underlying5
theorem cvW_below (s : ByteArray) (w : World) {B : Nat} (h : B ≤ w.heap.size) : Below B w (cvW s w) := ((Below.refl B w).drew).alloc h _
theorem cvW_sl (s : ByteArray) (w : World) : Sl byteE 1 (cvW s w) (some ⟨w.heap.size, 0, none⟩) s.data.toList := by
  refine .inr ⟨w.heap.size, 0, rfl, by simp [cvW], fun i hi j hj => ?_⟩
  obtain rfl : j = 0 := by omega
  have h1 : (cvW s w).cell? ⟨w.heap.size, 0 + i * 1 + 0, none⟩ = (bytesRow s (cvC s w))[0 + i * 1 + 0]? :=
    cell_of_row (cvW s w) w.heap.size _ _ _ _ (heap_alloc_new w.drew _)
  rw [h1]
  have h2 := bytesRow_at s (cvC s w) i (by simpa using hi)
  simp only [Nat.zero_add, Nat.mul_one, Nat.add_zero]
  rw [h2]
  simp [byteE]
end
section
open Go.RowKit
set_option maxRecDepth 100000 in
set_option maxHeartbeats 16000000 in
theorem lawPieces_c (a0 : Option Addr) (ca0 : Nat) (xs : List UInt8) (b0 : Option Addr) (cb0 : Nat) (ys : List UInt8) (w : World) (ha : Sl byteE 1 w a0 xs) (hb : Sl byteE 1 w b0 ys) (hxl : xs.length ≤ 9223372036854775807) (hyl : ys.length ≤ 9223372036854775807) (hUT : UT w) :
    Calls Tryd.prog 3 #[.slice a0 xs.length ca0, .slice b0 ys.length cb0] w fun e w' => e = .returned (.bool true) ∧ Below w.heap.size w w' := by
  obtain ⟨iA, hiA, hA0, hA1, hA2⟩ := info_parts Tryd.infoAction
  have HX0 := Lib.hid ha
  have HY0 := Lib.hid hb
  have HUT := Lib.hid hUT
  clear hUT ha hb
  by_cases hd : 1048576 < xs.length
  · have hd1 : (1048576 : Int) < (xs.length : Int) := by omega
    go_enter Tryd.func3, Tryd.ntmps3
    go_wp2_with fail
    go_ret
    exact ⟨rfl, Below.refl _ _⟩
  have hd1 : (xs.length : Int) ≤ 1048576 := by omega
  have hd2 : xs.length ≤ 1048576 := by omega
  clear hd
  by_cases he : 1048576 < ys.length
  · have he1 : (1048576 : Int) < (ys.length : Int) := by omega
    go_enter Tryd.func3, Tryd.ntmps3
    go_wp2_with fail
    go_ret
    exact ⟨rfl, Below.refl _ _⟩
  have he1 : (ys.length : Int) ≤ 1048576 := by omega
  have he2 : ys.length ≤ 1048576 := by omega
  clear he
  go_enter Tryd.func3, Tryd.ntmps3
  go_wp2_with fail
  refine (parserOf_c a0 ca0 xs _ HX0.out hd2).mono ?_
  rintro e w1 ⟨p0, a1, c1, hok, rfl, hfa, hb1⟩
  have hz1 := hb1.size
  have HOK := Lib.hid hok
  have HP1 : Hid (SpP w1.heap.size w1 p0.args a1 none []) := Lib.hid (SpP.start (FreshIn.sl (enc := intE) (fun _ => rfl) hfa) ⟨.inl rfl, by simp⟩)
  have HFA := Lib.hid hfa
  have hp8 : p0.args.length ≤ 1048576 := by have := hok.len; omega
  have HZ0 : Hid (PvSz p0 1048576) := Lib.hid (pvsz_ok hok)
  clear hok hfa
  have HB1 := Lib.hid hb1
  clear hb1
  go_wp2_with fail
  refine (outputOf_c b0 cb0 ys _ ((HY0.out.keep HB1.out).alloc _) he2).mono ?_
  rintro e w2 ⟨⟨s, rfl, hs1, hs2⟩, hb2⟩
  have hz2 := hb2.size
  simp only [World.size_alloc] at hz2
  have hsz : s.size ≤ 9223372036854775807 := by omega
  have HFZ2 : Hid (FzA w1.heap.size w2) := Lib.hid (FzA.below ⟨by simp, fun o => by simp [go_sem]⟩ hb2)
  have HP12 := Lib.hid ((HP1.out.alloc _).below hb2)
  clear HP1
  have HFA2 := Lib.hid ((HFA.out.alloc _).below hb2)
  clear HFA
  have q2_0_0 : w2.cell? ⟨w1.heap.size, 0, none⟩ = some (.int .i64 p0.state) := by
    rw [hb2.cell (p := ⟨w1.heap.size, 0, none⟩) (show w1.heap.size < _ by (try simp) <;> (try omega))]
    first | assumption | (simp [go_sem, *])
  have q2_0_1 : w2.cell? ⟨w1.heap.size, 1, none⟩ = some (.slice a1 p0.args.length c1) := by
    rw [hb2.cell (p := ⟨w1.heap.size, 1, none⟩) (show w1.heap.size < _ by (try simp) <;> (try omega))]
    first | assumption | (simp [go_sem, *])
  have q2_0_2 : w2.cell? ⟨w1.heap.size, 2, none⟩ = some (.bool p0.priv) := by
    rw [hb2.cell (p := ⟨w1.heap.size, 2, none⟩) (show w1.heap.size < _ by (try simp) <;> (try omega))]
    first | assumption | (simp [go_sem, *])
  have q2_0_3 : w2.cell? ⟨w1.heap.size, 3, none⟩ = some (.string p0.text) := by
    rw [hb2.cell (p := ⟨w1.heap.size, 3, none⟩) (show w1.heap.size < _ by (try simp) <;> (try omega))]
    first | assumption | (simp [go_sem, *])
  have q2_0_4 : w2.cell? ⟨w1.heap.size, 4, none⟩ = some (.string p0.utf) := by
    rw [hb2.cell (p := ⟨w1.heap.size, 4, none⟩) (show w1.heap.size < _ by (try simp) <;> (try omega))]
    first | assumption | (simp [go_sem, *])
  have hl2_0 : w1.heap.size < w2.heap.size := by omega
  have qf2_0 : ∀ o, w2.frozen? ⟨w1.heap.size, o, none⟩ = false := fun o => by
    rw [hb2.frozen (p := ⟨w1.heap.size, o, none⟩) (show w1.heap.size < _ by (try simp) <;> (try omega))]
    first | (simp [go_sem]; done) | (simp [go_sem, *]; done)
  have HB2 : Hid (Below w.heap.size w w2) := (HB1.out.alloc (by (try simp) <;> (try omega)) _).trans (hb2.mono (by (try simp) <;> (try omega)))
  clear hb2
  have hcv := cv_run s w2
  obtain ⟨cap, hcap⟩ : ∃ c, cvC s w2 = c := ⟨_, rfl⟩
  obtain ⟨wv, hwv⟩ : ∃ x, cvW s w2 = x := ⟨_, rfl⟩
  have hbv : Below w2.heap.size w2 wv := by rw [← hwv]; exact cvW_below s w2 (Nat.le_refl _)
  have hslv : Sl byteE 1 wv (some ⟨w2.heap.size, 0, none⟩) s.data.toList := by rw [← hwv]; exact cvW_sl s w2
  have hcapn : s.size ≤ cap := by rw [← hcap]; exact grownCap_ge _ _ _ _
  have hgb : w2.heap.size < wv.heap.size := by rw [← hwv]; simp [cvW]
  rw [hcap, hwv] at hcv
  clear hcap hwv
  obtain ⟨w3, hw3⟩ : ∃ x : World, x = wv := ⟨_, rfl⟩
  subst hw3
  obtain ⟨gb, hgbe⟩ : ∃ g, w2.heap.size = g := ⟨_, rfl⟩
  rw [hgbe] at hcv hslv hgb
  obtain ⟨l, hl⟩ : ∃ l, s.data.toList = l := ⟨_, rfl⟩
  obtain ⟨n, hn⟩ : ∃ n, s.size = n := ⟨_, rfl⟩
  have hln : l.length = n := by rw [← hl, ← hn]; rfl
  rw [hl] at hslv
  rw [hn] at hcv hs1 hs2 hcapn
  have HLN := Lib.hid hln
  have HSB : Hid (ByA gb l w3) := Lib.hid hslv
  have HGB := Lib.hid hgbe
  have hb3 := hbv
  have HPB : Hid (pbytes p0 l = (prun p0 l, 0)) := Lib.hid (pb_ok HOK.out l (by omega))
  clear hsz hl hn hln hslv hgbe hbv
  go_upto_region 5 with fail
  clear hcv
  have hz3 := hb3.size
  have HP13 := Lib.hid (HP12.out.below hb3)
  clear HP12
  have HFA3 := Lib.hid (HFA2.out.below hb3)
  clear HFA2
  have HFZ3 := Lib.hid (HFZ2.out.below hb3)
  clear HFZ2
  have q3_0_0 : w3.cell? ⟨w1.heap.size, 0, none⟩ = some (.int .i64 p0.state) := by
    rw [hb3.cell (p := ⟨w1.heap.size, 0, none⟩) (show w1.heap.size < _ by (try simp) <;> (try omega))]
    exact q2_0_0
  have q3_0_1 : w3.cell? ⟨w1.heap.size, 1, none⟩ = some (.slice a1 p0.args.length c1) := by
    rw [hb3.cell (p := ⟨w1.heap.size, 1, none⟩) (show w1.heap.size < _ by (try simp) <;> (try omega))]
    exact q2_0_1
  have q3_0_2 : w3.cell? ⟨w1.heap.size, 2, none⟩ = some (.bool p0.priv) := by
    rw [hb3.cell (p := ⟨w1.heap.size, 2, none⟩) (show w1.heap.size < _ by (try simp) <;> (try omega))]
    exact q2_0_2
  have q3_0_3 : w3.cell? ⟨w1.heap.size, 3, none⟩ = some (.string p0.text) := by
    rw [hb3.cell (p := ⟨w1.heap.size, 3, none⟩) (show w1.heap.size < _ by (try simp) <;> (try omega))]
    exact q2_0_3
  have q3_0_4 : w3.cell? ⟨w1.heap.size, 4, none⟩ = some (.string p0.utf) := by
    rw [hb3.cell (p := ⟨w1.heap.size, 4, none⟩) (show w1.heap.size < _ by (try simp) <;> (try omega))]
    exact q2_0_4
  have hl3_0 : w1.heap.size < w3.heap.size := by omega
  clear q2_0_0 q2_0_1 q2_0_2 q2_0_3 q2_0_4
  have qf3_0 : ∀ o, w3.frozen? ⟨w1.heap.size, o, none⟩ = false := fun o => by
    rw [hb3.frozen (p := ⟨w1.heap.size, o, none⟩) (show w1.heap.size < _ by (try simp) <;> (try omega))]
    first | exact qf2_0 o | (simp [go_sem, qf2_0]; done) | (rw [((Below.refl _ _).alloc (Nat.le_refl _) _ : Below _ _ _).frozen (p := ⟨w1.heap.size, o, none⟩) (by show w1.heap.size < _; omega)]; exact qf2_0 o)
  clear qf2_0
  have HB3 : Hid (Below w.heap.size w w3) := HB2.out.trans (hb3.mono (by (try simp) <;> (try omega)))
  clear hb3
  obtain ⟨R0, hR0⟩ : ∃ R, prun p0 l = R := ⟨_, rfl⟩
  have HR0 := Lib.hid hR0
  have HOK0 : Hid (PvOK R0.1) := Lib.hid (by rw [← hR0]; exact prun_ok l HOK.out)
  have HSZ0 : Hid (OutSz (R0, 0)) := Lib.hid (outSz HOK.out hR0 (by have := HLN.out; omega))
  clear hR0
  go_wp2_with fail
  refine (pbI a1 c1 p0 (some ⟨gb, 0, none⟩) cap n l R0 _ HOK.out HLN.out (by omega) HR0.out HP13.out.sl HSB.out.sl (HUT.out.keep HB3.out)).mono ?_
  rintro e w4 ⟨a4, c4, al4, cl4, rs4, rfl, hfa4, hro4, hnd4, hrs4, hb4⟩
  have hz4 := hb4.size
  have HEB : Hid (∀ j ∈ blkOf a4 ++ acB al4 rs4, w3.heap.size ≤ j) := Lib.hid (fun j hj => by
    rcases List.mem_append.1 hj with hj | hj
    · exact (FreshIn.blks hfa4 j hj).1
    · exact (hro4.bd actL j hj).1)
  have HEU0 : Hid (∀ j ∈ blkOf a4 ++ acB al4 rs4, j < w4.heap.size) := Lib.hid (fun j hj => by
    rcases List.mem_append.1 hj with hj | hj
    · exact (FreshIn.blks hfa4 j hj).2
    · exact (hro4.bd actL j hj).2)
  dsimp only at hfa4 hrs4 ⊢
  have HRS4 : Hid (rs4.map (·.A) = R0.2) := Lib.hid hrs4
  have HE4 : Hid (SpP w4.heap.size w4 R0.1.args a4 al4 rs4) := Lib.hid (SpP.start (FreshIn.sl (enc := intE) (fun _ => rfl) hfa4) ⟨hro4.row.sl (fun _ => rfl), fun r hr => FreshIn.sl (enc := intE) (fun _ => rfl) (hro4.ow r hr)⟩)
  clear hrs4 hfa4 hro4 hnd4
  have HP14 := Lib.hid (HP13.out.below hb4)
  clear HP13
  have HFA4 := Lib.hid (HFA3.out.below hb4)
  clear HFA3
  have HFZ4 := Lib.hid (HFZ3.out.below hb4)
  clear HFZ3
  have HSB4 := Lib.hid (HSB.out.below hb4)
  clear HSB
  have q4_0_0 : w4.cell? ⟨w1.heap.size, 0, none⟩ = some (.int .i64 p0.state) := by
    rw [hb4.cell (p := ⟨w1.heap.size, 0, none⟩) (show w1.heap.size < _ by (try simp) <;> (try omega))]
    exact q3_0_0
  have q4_0_1 : w4.cell? ⟨w1.heap.size, 1, none⟩ = some (.slice a1 p0.args.length c1) := by
    rw [hb4.cell (p := ⟨w1.heap.size, 1, none⟩) (show w1.heap.size < _ by (try simp) <;> (try omega))]
    exact q3_0_1
  have q4_0_2 : w4.cell? ⟨w1.heap.size, 2, none⟩ = some (.bool p0.priv) := by
    rw [hb4.cell (p := ⟨w1.heap.size, 2, none⟩) (show w1.heap.size < _ by (try simp) <;> (try omega))]
    exact q3_0_2
  have q4_0_3 : w4.cell? ⟨w1.heap.size, 3, none⟩ = some (.string p0.text) := by
    rw [hb4.cell (p := ⟨w1.heap.size, 3, none⟩) (show w1.heap.size < _ by (try simp) <;> (try omega))]
    exact q3_0_3
  have q4_0_4 : w4.cell? ⟨w1.heap.size, 4, none⟩ = some (.string p0.utf) := by
    rw [hb4.cell (p := ⟨w1.heap.size, 4, none⟩) (show w1.heap.size < _ by (try simp) <;> (try omega))]
    exact q3_0_4
  have hl4_0 : w1.heap.size < w4.heap.size := by omega
  clear q3_0_0 q3_0_1 q3_0_2 q3_0_3 q3_0_4
  have qf4_0 : ∀ o, w4.frozen? ⟨w1.heap.size, o, none⟩ = false := fun o => by
    rw [hb4.frozen (p := ⟨w1.heap.size, o, none⟩) (show w1.heap.size < _ by (try simp) <;> (try omega))]
    first | exact qf3_0 o | (simp [go_sem, qf3_0]; done) | (rw [((Below.refl _ _).alloc (Nat.le_refl _) _ : Below _ _ _).frozen (p := ⟨w1.heap.size, o, none⟩) (by show w1.heap.size < _; omega)]; exact qf3_0 o)
  clear qf3_0
  have HB4 : Hid (Below w.heap.size w w4) := HB3.out.trans (hb4.mono (by (try simp) <;> (try omega)))
  clear hb4
  go_wp2_with fail
  refine (pbS a1 c1 p0 (some ⟨gb, 0, none⟩) cap n l R0 _ HOK.out HLN.out (by omega) HR0.out (HP14.out.alloc _).sl (HSB4.out.alloc _).sl).mono ?_
  rintro e w5 ⟨a5, c5, al5, cl5, rs5, rfl, hfa5, hro5, hnd5, hrs5, hb5⟩
  have hz5 := hb5.size
  simp only [World.size_alloc] at hz5
  dsimp only at hfa5 hrs5 ⊢
  have HRS5 : Hid (rs5.map (·.A) = R0.2) := Lib.hid hrs5
  have HW5 : Hid (SpP w5.heap.size w5 R0.1.args a5 al5 rs5) := Lib.hid (SpP.start (FreshIn.sl (enc := intE) (fun _ => rfl) hfa5) ⟨hro5.row.sl (fun _ => rfl), fun r hr => FreshIn.sl (enc := intE) (fun _ => rfl) (hro5.ow r hr)⟩)
  clear hrs5 hfa5 hro5 hnd5
  have HP15 := Lib.hid ((HP14.out.alloc _).below hb5)
  clear HP14
  have HFA5 := Lib.hid ((HFA4.out.alloc _).below hb5)
  clear HFA4
  have HFZ5 := Lib.hid ((HFZ4.out.alloc _).below hb5)
  clear HFZ4
  have HSB5 := Lib.hid ((HSB4.out.alloc _).below hb5)
  clear HSB4
  have HE45 := Lib.hid ((HE4.out.alloc _).below hb5)
  clear HE4
  have q5_0_0 : w5.cell? ⟨w1.heap.size, 0, none⟩ = some (.int .i64 p0.state) := by
    rw [hb5.cell (p := ⟨w1.heap.size, 0, none⟩) (show w1.heap.size < _ by (try simp) <;> (try omega))]
    first | assumption | (simp [go_sem, *])
  have q5_0_1 : w5.cell? ⟨w1.heap.size, 1, none⟩ = some (.slice a1 p0.args.length c1) := by
    rw [hb5.cell (p := ⟨w1.heap.size, 1, none⟩) (show w1.heap.size < _ by (try simp) <;> (try omega))]
    first | assumption | (simp [go_sem, *])
  have q5_0_2 : w5.cell? ⟨w1.heap.size, 2, none⟩ = some (.bool p0.priv) := by
    rw [hb5.cell (p := ⟨w1.heap.size, 2, none⟩) (show w1.heap.size < _ by (try simp) <;> (try omega))]
    first | assumption | (simp [go_sem, *])
  have q5_0_3 : w5.cell? ⟨w1.heap.size, 3, none⟩ = some (.string p0.text) := by
    rw [hb5.cell (p := ⟨w1.heap.size, 3, none⟩) (show w1.heap.size < _ by (try simp) <;> (try omega))]
    first | assumption | (simp [go_sem, *])
  have q5_0_4 : w5.cell? ⟨w1.heap.size, 4, none⟩ = some (.string p0.utf) := by
    rw [hb5.cell (p := ⟨w1.heap.size, 4, none⟩) (show w1.heap.size < _ by (try simp) <;> (try omega))]
    first | assumption | (simp [go_sem, *])
  have hl5_0 : w1.heap.size < w5.heap.size := by omega
  clear q4_0_0 q4_0_1 q4_0_2 q4_0_3 q4_0_4
  have qf5_0 : ∀ o, w5.frozen? ⟨w1.heap.size, o, none⟩ = false := fun o => by
    rw [hb5.frozen (p := ⟨w1.heap.size, o, none⟩) (show w1.heap.size < _ by (try simp) <;> (try omega))]
    first | exact qf4_0 o | (simp [go_sem, qf4_0]; done) | (rw [((Below.refl _ _).alloc (Nat.le_refl _) _ : Below _ _ _).frozen (p := ⟨w1.heap.size, o, none⟩) (by show w1.heap.size < _; omega)]; exact qf4_0 o)
  clear qf4_0
  have q5_1_0 : w5.cell? ⟨w4.heap.size, 0, none⟩ = some (.int .i64 R0.1.state) := by
    rw [hb5.cell (p := ⟨w4.heap.size, 0, none⟩) (show w4.heap.size < _ by (try simp) <;> (try omega))]
    first | assumption | (simp [go_sem, *])
  have q5_1_1 : w5.cell? ⟨w4.heap.size, 1, none⟩ = some (.slice a4 R0.1.args.length c4) := by
    rw [hb5.cell (p := ⟨w4.heap.size, 1, none⟩) (show w4.heap.size < _ by (try simp) <;> (try omega))]
    first | assumption | (simp [go_sem, *])
  have q5_1_2 : w5.cell? ⟨w4.heap.size, 2, none⟩ = some (.bool R0.1.priv) := by
    rw [hb5.cell (p := ⟨w4.heap.size, 2, none⟩) (show w4.heap.size < _ by (try simp) <;> (try omega))]
    first | assumption | (simp [go_sem, *])
  have q5_1_3 : w5.cell? ⟨w4.heap.size, 3, none⟩ = some (.string R0.1.text) := by
    rw [hb5.cell (p := ⟨w4.heap.size, 3, none⟩) (show w4.heap.size < _ by (try simp) <;> (try omega))]
    first | assumption | (simp [go_sem, *])
  have q5_1_4 : w5.cell? ⟨w4.heap.size, 4, none⟩ = some (.string R0.1.utf) := by
    rw [hb5.cell (p := ⟨w4.heap.size, 4, none⟩) (show w4.heap.size < _ by (try simp) <;> (try omega))]
    first | assumption | (simp [go_sem, *])
  have hl5_1 : w4.heap.size < w5.heap.size := by omega
  have qf5_1 : ∀ o, w5.frozen? ⟨w4.heap.size, o, none⟩ = false := fun o => by
    rw [hb5.frozen (p := ⟨w4.heap.size, o, none⟩) (show w4.heap.size < _ by (try simp) <;> (try omega))]
    first | (simp [go_sem]; done) | (simp [go_sem, *]; done)
  have HB5 : Hid (Below w.heap.size w w5) := (HB4.out.alloc (by (try simp) <;> (try omega)) _).trans (hb5.mono (by (try simp) <;> (try omega)))
  clear hb5
  go_wp2_with fail
  refine (sameParser_same a4 a5 c4 c5 R0.1 _ (HE45.out.alloc _).sl (HW5.out.alloc _).sl (by have := HSZ0.out.args; dsimp only at this; omega)).mono ?_
  rintro e w6 ⟨rfl, hb6⟩
  have hz6 := hb6.size
  simp only [World.size_alloc] at hz6
  have HP16 := Lib.hid ((HP15.out.alloc _).below hb6)
  clear HP15
  have HFA6 := Lib.hid ((HFA5.out.alloc _).below hb6)
  clear HFA5
  have HFZ6 := Lib.hid ((HFZ5.out.alloc _).below hb6)
  clear HFZ5
  have HSB6 := Lib.hid ((HSB5.out.alloc _).below hb6)
  clear HSB5
  have HE46 := Lib.hid ((HE45.out.alloc _).below hb6)
  clear HE45
  have HW56 := Lib.hid ((HW5.out.alloc _).below hb6)
  clear HW5
  have q6_0_0 : w6.cell? ⟨w1.heap.size, 0, none⟩ = some (.int .i64 p0.state) := by
    rw [hb6.cell (p := ⟨w1.heap.size, 0, none⟩) (show w1.heap.size < _ by (try simp) <;> (try omega))]
    first | assumption | (simp [go_sem, *])
  have q6_0_1 : w6.cell? ⟨w1.heap.size, 1, none⟩ = some (.slice a1 p0.args.length c1) := by
    rw [hb6.cell (p := ⟨w1.heap.size, 1, none⟩) (show w1.heap.size < _ by (try simp) <;> (try omega))]
    first | assumption | (simp [go_sem, *])
  have q6_0_2 : w6.cell? ⟨w1.heap.size, 2, none⟩ = some (.bool p0.priv) := by
    rw [hb6.cell (p := ⟨w1.heap.size, 2, none⟩) (show w1.heap.size < _ by (try simp) <;> (try omega))]
    first | assumption | (simp [go_sem, *])
  have q6_0_3 : w6.cell? ⟨w1.heap.size, 3, none⟩ = some (.string p0.text) := by
    rw [hb6.cell (p := ⟨w1.heap.size, 3, none⟩) (show w1.heap.size < _ by (try simp) <;> (try omega))]
    first | assumption | (simp [go_sem, *])
  have q6_0_4 : w6.cell? ⟨w1.heap.size, 4, none⟩ = some (.string p0.utf) := by
    rw [hb6.cell (p := ⟨w1.heap.size, 4, none⟩) (show w1.heap.size < _ by (try simp) <;> (try omega))]
    first | assumption | (simp [go_sem, *])
  have hl6_0 : w1.heap.size < w6.heap.size := by omega
  clear q5_0_0 q5_0_1 q5_0_2 q5_0_3 q5_0_4
  have qf6_0 : ∀ o, w6.frozen? ⟨w1.heap.size, o, none⟩ = false := fun o => by
    rw [hb6.frozen (p := ⟨w1.heap.size, o, none⟩) (show w1.heap.size < _ by (try simp) <;> (try omega))]
    first | exact qf5_0 o | (simp [go_sem, qf5_0]; done) | (rw [((Below.refl _ _).alloc (Nat.le_refl _) _ : Below _ _ _).frozen (p := ⟨w1.heap.size, o, none⟩) (by show w1.heap.size < _; omega)]; exact qf5_0 o)
  clear qf5_0
  have q6_1_0 : w6.cell? ⟨w4.heap.size, 0, none⟩ = some (.int .i64 R0.1.state) := by
    rw [hb6.cell (p := ⟨w4.heap.size, 0, none⟩) (show w4.heap.size < _ by (try simp) <;> (try omega))]
    first | assumption | (simp [go_sem, *])
  have q6_1_1 : w6.cell? ⟨w4.heap.size, 1, none⟩ = some (.slice a4 R0.1.args.length c4) := by
    rw [hb6.cell (p := ⟨w4.heap.size, 1, none⟩) (show w4.heap.size < _ by (try simp) <;> (try omega))]
    first | assumption | (simp [go_sem, *])
  have q6_1_2 : w6.cell? ⟨w4.heap.size, 2, none⟩ = some (.bool R0.1.priv) := by
    rw [hb6.cell (p := ⟨w4.heap.size, 2, none⟩) (show w4.heap.size < _ by (try simp) <;> (try omega))]
    first | assumption | (simp [go_sem, *])
  have q6_1_3 : w6.cell? ⟨w4.heap.size, 3, none⟩ = some (.string R0.1.text) := by
    rw [hb6.cell (p := ⟨w4.heap.size, 3, none⟩) (show w4.heap.size < _ by (try simp) <;> (try omega))]
    first | assumption | (simp [go_sem, *])
  have q6_1_4 : w6.cell? ⟨w4.heap.size, 4, none⟩ = some (.string R0.1.utf) := by
    rw [hb6.cell (p := ⟨w4.heap.size, 4, none⟩) (show w4.heap.size < _ by (try simp) <;> (try omega))]
    first | assumption | (simp [go_sem, *])
  have hl6_1 : w4.heap.size < w6.heap.size := by omega
  clear q5_1_0 q5_1_1 q5_1_2 q5_1_3 q5_1_4
  have qf6_1 : ∀ o, w6.frozen? ⟨w4.heap.size, o, none⟩ = false := fun o => by
    rw [hb6.frozen (p := ⟨w4.heap.size, o, none⟩) (show w4.heap.size < _ by (try simp) <;> (try omega))]
    first | exact qf5_1 o | (simp [go_sem, qf5_1]; done) | (rw [((Below.refl _ _).alloc (Nat.le_refl _) _ : Below _ _ _).frozen (p := ⟨w4.heap.size, o, none⟩) (by show w4.heap.size < _; omega)]; exact qf5_1 o)
  clear qf5_1
  have q6_2_0 : w6.cell? ⟨w5.heap.size, 0, none⟩ = some (.int .i64 R0.1.state) := by
    rw [hb6.cell (p := ⟨w5.heap.size, 0, none⟩) (show w5.heap.size < _ by (try simp) <;> (try omega))]
    first | assumption | (simp [go_sem, *])
  have q6_2_1 : w6.cell? ⟨w5.heap.size, 1, none⟩ = some (.slice a5 R0.1.args.length c5) := by
    rw [hb6.cell (p := ⟨w5.heap.size, 1, none⟩) (show w5.heap.size < _ by (try simp) <;> (try omega))]
    first | assumption | (simp [go_sem, *])
  have q6_2_2 : w6.cell? ⟨w5.heap.size, 2, none⟩ = some (.bool R0.1.priv) := by
    rw [hb6.cell (p := ⟨w5.heap.size, 2, none⟩) (show w5.heap.size < _ by (try simp) <;> (try omega))]
    first | assumption | (simp [go_sem, *])
  have q6_2_3 : w6.cell? ⟨w5.heap.size, 3, none⟩ = some (.string R0.1.text) := by
    rw [hb6.cell (p := ⟨w5.heap.size, 3, none⟩) (show w5.heap.size < _ by (try simp) <;> (try omega))]
    first | assumption | (simp [go_sem, *])
  have q6_2_4 : w6.cell? ⟨w5.heap.size, 4, none⟩ = some (.string R0.1.utf) := by
    rw [hb6.cell (p := ⟨w5.heap.size, 4, none⟩) (show w5.heap.size < _ by (try simp) <;> (try omega))]
    first | assumption | (simp [go_sem, *])
  have hl6_2 : w5.heap.size < w6.heap.size := by omega
  have qf6_2 : ∀ o, w6.frozen? ⟨w5.heap.size, o, none⟩ = false := fun o => by
    rw [hb6.frozen (p := ⟨w5.heap.size, o, none⟩) (show w5.heap.size < _ by (try simp) <;> (try omega))]
    first | (simp [go_sem]; done) | (simp [go_sem, *]; done)
  have HB6 : Hid (Below w.heap.size w w6) := (HB5.out.alloc (by (try simp) <;> (try omega)) _).trans (hb6.mono (by (try simp) <;> (try omega)))
  clear hb6
  go_wp2_with fail
  refine (sameActions_same al4 al5 cl4 cl5 rs4 rs5 _ HE46.out.acts HW56.out.acts (HRS5.out.trans HRS4.out.symm) (HSZ0.out.ar HRS4.out) (HSZ0.out.ln HRS4.out)).mono ?_
  rintro e w7 ⟨rfl, hb7⟩
  have hz7 := hb7.size
  have HP17 := Lib.hid (HP16.out.below hb7)
  clear HP16
  have HFA7 := Lib.hid (HFA6.out.below hb7)
  clear HFA6
  have HFZ7 := Lib.hid (HFZ6.out.below hb7)
  clear HFZ6
  have HSB7 := Lib.hid (HSB6.out.below hb7)
  clear HSB6
  have HE47 := Lib.hid (HE46.out.below hb7)
  clear HE46
  have HW57 := Lib.hid (HW56.out.below hb7)
  clear HW56
  have q7_0_0 : w7.cell? ⟨w1.heap.size, 0, none⟩ = some (.int .i64 p0.state) := by
    rw [hb7.cell (p := ⟨w1.heap.size, 0, none⟩) (show w1.heap.size < _ by (try simp) <;> (try omega))]
    exact q6_0_0
  have q7_0_1 : w7.cell? ⟨w1.heap.size, 1, none⟩ = some (.slice a1 p0.args.length c1) := by
    rw [hb7.cell (p := ⟨w1.heap.size, 1, none⟩) (show w1.heap.size < _ by (try simp) <;> (try omega))]
    exact q6_0_1
  have q7_0_2 : w7.cell? ⟨w1.heap.size, 2, none⟩ = some (.bool p0.priv) := by
    rw [hb7.cell (p := ⟨w1.heap.size, 2, none⟩) (show w1.heap.size < _ by (try simp) <;> (try omega))]
    exact q6_0_2
  have q7_0_3 : w7.cell? ⟨w1.heap.size, 3, none⟩ = some (.string p0.text) := by
    rw [hb7.cell (p := ⟨w1.heap.size, 3, none⟩) (show w1.heap.size < _ by (try simp) <;> (try omega))]
    exact q6_0_3
  have q7_0_4 : w7.cell? ⟨w1.heap.size, 4, none⟩ = some (.string p0.utf) := by
    rw [hb7.cell (p := ⟨w1.heap.size, 4, none⟩) (show w1.heap.size < _ by (try simp) <;> (try omega))]
    exact q6_0_4
  have hl7_0 : w1.heap.size < w7.heap.size := by omega
  clear q6_0_0 q6_0_1 q6_0_2 q6_0_3 q6_0_4
  have qf7_0 : ∀ o, w7.frozen? ⟨w1.heap.size, o, none⟩ = false := fun o => by
    rw [hb7.frozen (p := ⟨w1.heap.size, o, none⟩) (show w1.heap.size < _ by (try simp) <;> (try omega))]
    first | exact qf6_0 o | (simp [go_sem, qf6_0]; done) | (rw [((Below.refl _ _).alloc (Nat.le_refl _) _ : Below _ _ _).frozen (p := ⟨w1.heap.size, o, none⟩) (by show w1.heap.size < _; omega)]; exact qf6_0 o)
  clear qf6_0
  have q7_1_0 : w7.cell? ⟨w4.heap.size, 0, none⟩ = some (.int .i64 R0.1.state) := by
    rw [hb7.cell (p := ⟨w4.heap.size, 0, none⟩) (show w4.heap.size < _ by (try simp) <;> (try omega))]
    exact q6_1_0
  have q7_1_1 : w7.cell? ⟨w4.heap.size, 1, none⟩ = some (.slice a4 R0.1.args.length c4) := by
    rw [hb7.cell (p := ⟨w4.heap.size, 1, none⟩) (show w4.heap.size < _ by (try simp) <;> (try omega))]
    exact q6_1_1
  have q7_1_2 : w7.cell? ⟨w4.heap.size, 2, none⟩ = some (.bool R0.1.priv) := by
    rw [hb7.cell (p := ⟨w4.heap.size, 2, none⟩) (show w4.heap.size < _ by (try simp) <;> (try omega))]
    exact q6_1_2
  have q7_1_3 : w7.cell? ⟨w4.heap.size, 3, none⟩ = some (.string R0.1.text) := by
    rw [hb7.cell (p := ⟨w4.heap.size, 3, none⟩) (show w4.heap.size < _ by (try simp) <;> (try omega))]
    exact q6_1_3
  have q7_1_4 : w7.cell? ⟨w4.heap.size, 4, none⟩ = some (.string R0.1.utf) := by
    rw [hb7.cell (p := ⟨w4.heap.size, 4, none⟩) (show w4.heap.size < _ by (try simp) <;> (try omega))]
    exact q6_1_4
  have hl7_1 : w4.heap.size < w7.heap.size := by omega
  clear q6_1_0 q6_1_1 q6_1_2 q6_1_3 q6_1_4
  have qf7_1 : ∀ o, w7.frozen? ⟨w4.heap.size, o, none⟩ = false := fun o => by
    rw [hb7.frozen (p := ⟨w4.heap.size, o, none⟩) (show w4.heap.size < _ by (try simp) <;> (try omega))]
    first | exact qf6_1 o | (simp [go_sem, qf6_1]; done) | (rw [((Below.refl _ _).alloc (Nat.le_refl _) _ : Below _ _ _).frozen (p := ⟨w4.heap.size, o, none⟩) (by show w4.heap.size < _; omega)]; exact qf6_1 o)
  clear qf6_1
  have q7_2_0 : w7.cell? ⟨w5.heap.size, 0, none⟩ = some (.int .i64 R0.1.state) := by
    rw [hb7.cell (p := ⟨w5.heap.size, 0, none⟩) (show w5.heap.size < _ by (try simp) <;> (try omega))]
    exact q6_2_0
  have q7_2_1 : w7.cell? ⟨w5.heap.size, 1, none⟩ = some (.slice a5 R0.1.args.length c5) := by
    rw [hb7.cell (p := ⟨w5.heap.size, 1, none⟩) (show w5.heap.size < _ by (try simp) <;> (try omega))]
    exact q6_2_1
  have q7_2_2 : w7.cell? ⟨w5.heap.size, 2, none⟩ = some (.bool R0.1.priv) := by
    rw [hb7.cell (p := ⟨w5.heap.size, 2, none⟩) (show w5.heap.size < _ by (try simp) <;> (try omega))]
    exact q6_2_2
  have q7_2_3 : w7.cell? ⟨w5.heap.size, 3, none⟩ = some (.string R0.1.text) := by
    rw [hb7.cell (p := ⟨w5.heap.size, 3, none⟩) (show w5.heap.size < _ by (try simp) <;> (try omega))]
    exact q6_2_3
  have q7_2_4 : w7.cell? ⟨w5.heap.size, 4, none⟩ = some (.string R0.1.utf) := by
    rw [hb7.cell (p := ⟨w5.heap.size, 4, none⟩) (show w5.heap.size < _ by (try simp) <;> (try omega))]
    exact q6_2_4
  have hl7_2 : w5.heap.size < w7.heap.size := by omega
  clear q6_2_0 q6_2_1 q6_2_2 q6_2_3 q6_2_4
  have qf7_2 : ∀ o, w7.frozen? ⟨w5.heap.size, o, none⟩ = false := fun o => by
    rw [hb7.frozen (p := ⟨w5.heap.size, o, none⟩) (show w5.heap.size < _ by (try simp) <;> (try omega))]
    first | exact qf6_2 o | (simp [go_sem, qf6_2]; done) | (rw [((Below.refl _ _).alloc (Nat.le_refl _) _ : Below _ _ _).frozen (p := ⟨w5.heap.size, o, none⟩) (by show w5.heap.size < _; omega)]; exact qf6_2 o)
  clear qf6_2
  have HB7 : Hid (Below w.heap.size w w7) := HB6.out.trans (hb7.mono (by (try simp) <;> (try omega)))
  clear hb7
  clear HW57
  go_wp2_with fail
  refine ((implParserOK_b a4 c4 R0.1 _ HE47.out.sl (pvsz_ok HOK0.out)).mono (R' := fun e w' => e = .returned (.bool true) ∧ Below _ _ w') (by rintro e w' ⟨h1, h2⟩; exact ⟨by rw [h1, pvB_iff.2 HOK0.out], h2⟩)).mono ?_
  rintro e w8 ⟨rfl, hb8⟩
  have hz8 := hb8.size
  have HP18 := Lib.hid (HP17.out.below hb8)
  clear HP17
  have HFA8 := Lib.hid (HFA7.out.below hb8)
  clear HFA7
  have HFZ8 := Lib.hid (HFZ7.out.below hb8)
  clear HFZ7
  have HSB8 := Lib.hid (HSB7.out.below hb8)
  clear HSB7
  have HE48 := Lib.hid (HE47.out.below hb8)
  clear HE47
  have q8_0_0 : w8.cell? ⟨w1.heap.size, 0, none⟩ = some (.int .i64 p0.state) := by
    rw [hb8.cell (p := ⟨w1.heap.size, 0, none⟩) (show w1.heap.size < _ by (try simp) <;> (try omega))]
    exact q7_0_0
  have q8_0_1 : w8.cell? ⟨w1.heap.size, 1, none⟩ = some (.slice a1 p0.args.length c1) := by
    rw [hb8.cell (p := ⟨w1.heap.size, 1, none⟩) (show w1.heap.size < _ by (try simp) <;> (try omega))]
    exact q7_0_1
  have q8_0_2 : w8.cell? ⟨w1.heap.size, 2, none⟩ = some (.bool p0.priv) := by
    rw [hb8.cell (p := ⟨w1.heap.size, 2, none⟩) (show w1.heap.size < _ by (try simp) <;> (try omega))]
    exact q7_0_2
  have q8_0_3 : w8.cell? ⟨w1.heap.size, 3, none⟩ = some (.string p0.text) := by
    rw [hb8.cell (p := ⟨w1.heap.size, 3, none⟩) (show w1.heap.size < _ by (try simp) <;> (try omega))]
    exact q7_0_3
  have q8_0_4 : w8.cell? ⟨w1.heap.size, 4, none⟩ = some (.string p0.utf) := by
    rw [hb8.cell (p := ⟨w1.heap.size, 4, none⟩) (show w1.heap.size < _ by (try simp) <;> (try omega))]
    exact q7_0_4
  have hl8_0 : w1.heap.size < w8.heap.size := by omega
  clear q7_0_0 q7_0_1 q7_0_2 q7_0_3 q7_0_4
  have qf8_0 : ∀ o, w8.frozen? ⟨w1.heap.size, o, none⟩ = false := fun o => by
    rw [hb8.frozen (p := ⟨w1.heap.size, o, none⟩) (show w1.heap.size < _ by (try simp) <;> (try omega))]
    first | exact qf7_0 o | (simp [go_sem, qf7_0]; done) | (rw [((Below.refl _ _).alloc (Nat.le_refl _) _ : Below _ _ _).frozen (p := ⟨w1.heap.size, o, none⟩) (by show w1.heap.size < _; omega)]; exact qf7_0 o)
  clear qf7_0
  have q8_1_0 : w8.cell? ⟨w4.heap.size, 0, none⟩ = some (.int .i64 R0.1.state) := by
    rw [hb8.cell (p := ⟨w4.heap.size, 0, none⟩) (show w4.heap.size < _ by (try simp) <;> (try omega))]
    exact q7_1_0
  have q8_1_1 : w8.cell? ⟨w4.heap.size, 1, none⟩ = some (.slice a4 R0.1.args.length c4) := by
    rw [hb8.cell (p := ⟨w4.heap.size, 1, none⟩) (show w4.heap.size < _ by (try simp) <;> (try omega))]
    exact q7_1_1
  have q8_1_2 : w8.cell? ⟨w4.heap.size, 2, none⟩ = some (.bool R0.1.priv) := by
    rw [hb8.cell (p := ⟨w4.heap.size, 2, none⟩) (show w4.heap.size < _ by (try simp) <;> (try omega))]
    exact q7_1_2
  have q8_1_3 : w8.cell? ⟨w4.heap.size, 3, none⟩ = some (.string R0.1.text) := by
    rw [hb8.cell (p := ⟨w4.heap.size, 3, none⟩) (show w4.heap.size < _ by (try simp) <;> (try omega))]
    exact q7_1_3
  have q8_1_4 : w8.cell? ⟨w4.heap.size, 4, none⟩ = some (.string R0.1.utf) := by
    rw [hb8.cell (p := ⟨w4.heap.size, 4, none⟩) (show w4.heap.size < _ by (try simp) <;> (try omega))]
    exact q7_1_4
  have hl8_1 : w4.heap.size < w8.heap.size := by omega
  clear q7_1_0 q7_1_1 q7_1_2 q7_1_3 q7_1_4
  have qf8_1 : ∀ o, w8.frozen? ⟨w4.heap.size, o, none⟩ = false := fun o => by
    rw [hb8.frozen (p := ⟨w4.heap.size, o, none⟩) (show w4.heap.size < _ by (try simp) <;> (try omega))]
    first | exact qf7_1 o | (simp [go_sem, qf7_1]; done) | (rw [((Below.refl _ _).alloc (Nat.le_refl _) _ : Below _ _ _).frozen (p := ⟨w4.heap.size, o, none⟩) (by show w4.heap.size < _; omega)]; exact qf7_1 o)
  clear qf7_1
  have q8_2_0 : w8.cell? ⟨w5.heap.size, 0, none⟩ = some (.int .i64 R0.1.state) := by
    rw [hb8.cell (p := ⟨w5.heap.size, 0, none⟩) (show w5.heap.size < _ by (try simp) <;> (try omega))]
    exact q7_2_0
  have q8_2_1 : w8.cell? ⟨w5.heap.size, 1, none⟩ = some (.slice a5 R0.1.args.length c5) := by
    rw [hb8.cell (p := ⟨w5.heap.size, 1, none⟩) (show w5.heap.size < _ by (try simp) <;> (try omega))]
    exact q7_2_1
  have q8_2_2 : w8.cell? ⟨w5.heap.size, 2, none⟩ = some (.bool R0.1.priv) := by
    rw [hb8.cell (p := ⟨w5.heap.size, 2, none⟩) (show w5.heap.size < _ by (try simp) <;> (try omega))]
    exact q7_2_2
  have q8_2_3 : w8.cell? ⟨w5.heap.size, 3, none⟩ = some (.string R0.1.text) := by
    rw [hb8.cell (p := ⟨w5.heap.size, 3, none⟩) (show w5.heap.size < _ by (try simp) <;> (try omega))]
    exact q7_2_3
  have q8_2_4 : w8.cell? ⟨w5.heap.size, 4, none⟩ = some (.string R0.1.utf) := by
    rw [hb8.cell (p := ⟨w5.heap.size, 4, none⟩) (show w5.heap.size < _ by (try simp) <;> (try omega))]
    exact q7_2_4
  have hl8_2 : w5.heap.size < w8.heap.size := by omega
  clear q7_2_0 q7_2_1 q7_2_2 q7_2_3 q7_2_4
  have qf8_2 : ∀ o, w8.frozen? ⟨w5.heap.size, o, none⟩ = false := fun o => by
    rw [hb8.frozen (p := ⟨w5.heap.size, o, none⟩) (show w5.heap.size < _ by (try simp) <;> (try omega))]
    first | exact qf7_2 o | (simp [go_sem, qf7_2]; done) | (rw [((Below.refl _ _).alloc (Nat.le_refl _) _ : Below _ _ _).frozen (p := ⟨w5.heap.size, o, none⟩) (by show w5.heap.size < _; omega)]; exact qf7_2 o)
  clear qf7_2
  have HB8 : Hid (Below w.heap.size w w8) := HB7.out.trans (hb8.mono (by (try simp) <;> (try omega)))
  clear hb8
  go_wp2_with fail
  refine (atI b0 cb0 ys n _ (HY0.out.keep HB8.out) he2 hs1 (by omega)).mono ?_
  rintro e w9 ⟨⟨k, rfl, hkn⟩, hb9⟩
  have hz9 := hb9.size
  have HP19 := Lib.hid (HP18.out.below hb9)
  clear HP18
  have HFA9 := Lib.hid (HFA8.out.below hb9)
  clear HFA8
  have HFZ9 := Lib.hid (HFZ8.out.below hb9)
  clear HFZ8
  have HSB9 := Lib.hid (HSB8.out.below hb9)
  clear HSB8
  have HE49 := Lib.hid (HE48.out.below hb9)
  clear HE48
  have q9_0_0 : w9.cell? ⟨w1.heap.size, 0, none⟩ = some (.int .i64 p0.state) := by
    rw [hb9.cell (p := ⟨w1.heap.size, 0, none⟩) (show w1.heap.size < _ by (try simp) <;> (try omega))]
    exact q8_0_0
  have q9_0_1 : w9.cell? ⟨w1.heap.size, 1, none⟩ = some (.slice a1 p0.args.length c1) := by
    rw [hb9.cell (p := ⟨w1.heap.size, 1, none⟩) (show w1.heap.size < _ by (try simp) <;> (try omega))]
    exact q8_0_1
  have q9_0_2 : w9.cell? ⟨w1.heap.size, 2, none⟩ = some (.bool p0.priv) := by
    rw [hb9.cell (p := ⟨w1.heap.size, 2, none⟩) (show w1.heap.size < _ by (try simp) <;> (try omega))]
    exact q8_0_2
  have q9_0_3 : w9.cell? ⟨w1.heap.size, 3, none⟩ = some (.string p0.text) := by
    rw [hb9.cell (p := ⟨w1.heap.size, 3, none⟩) (show w1.heap.size < _ by (try simp) <;> (try omega))]
    exact q8_0_3
  have q9_0_4 : w9.cell? ⟨w1.heap.size, 4, none⟩ = some (.string p0.utf) := by
    rw [hb9.cell (p := ⟨w1.heap.size, 4, none⟩) (show w1.heap.size < _ by (try simp) <;> (try omega))]
    exact q8_0_4
  have hl9_0 : w1.heap.size < w9.heap.size := by omega
  clear q8_0_0 q8_0_1 q8_0_2 q8_0_3 q8_0_4
  have qf9_0 : ∀ o, w9.frozen? ⟨w1.heap.size, o, none⟩ = false := fun o => by
    rw [hb9.frozen (p := ⟨w1.heap.size, o, none⟩) (show w1.heap.size < _ by (try simp) <;> (try omega))]
    first | exact qf8_0 o | (simp [go_sem, qf8_0]; done) | (rw [((Below.refl _ _).alloc (Nat.le_refl _) _ : Below _ _ _).frozen (p := ⟨w1.heap.size, o, none⟩) (by show w1.heap.size < _; omega)]; exact qf8_0 o)
  clear qf8_0
  have q9_1_0 : w9.cell? ⟨w4.heap.size, 0, none⟩ = some (.int .i64 R0.1.state) := by
    rw [hb9.cell (p := ⟨w4.heap.size, 0, none⟩) (show w4.heap.size < _ by (try simp) <;> (try omega))]
    exact q8_1_0
  have q9_1_1 : w9.cell? ⟨w4.heap.size, 1, none⟩ = some (.slice a4 R0.1.args.length c4) := by
    rw [hb9.cell (p := ⟨w4.heap.size, 1, none⟩) (show w4.heap.size < _ by (try simp) <;> (try omega))]
    exact q8_1_1
  have q9_1_2 : w9.cell? ⟨w4.heap.size, 2, none⟩ = some (.bool R0.1.priv) := by
    rw [hb9.cell (p := ⟨w4.heap.size, 2, none⟩) (show w4.heap.size < _ by (try simp) <;> (try omega))]
    exact q8_1_2
  have q9_1_3 : w9.cell? ⟨w4.heap.size, 3, none⟩ = some (.string R0.1.text) := by
    rw [hb9.cell (p := ⟨w4.heap.size, 3, none⟩) (show w4.heap.size < _ by (try simp) <;> (try omega))]
    exact q8_1_3
  have q9_1_4 : w9.cell? ⟨w4.heap.size, 4, none⟩ = some (.string R0.1.utf) := by
    rw [hb9.cell (p := ⟨w4.heap.size, 4, none⟩) (show w4.heap.size < _ by (try simp) <;> (try omega))]
    exact q8_1_4
  have hl9_1 : w4.heap.size < w9.heap.size := by omega
  clear q8_1_0 q8_1_1 q8_1_2 q8_1_3 q8_1_4
  have qf9_1 : ∀ o, w9.frozen? ⟨w4.heap.size, o, none⟩ = false := fun o => by
    rw [hb9.frozen (p := ⟨w4.heap.size, o, none⟩) (show w4.heap.size < _ by (try simp) <;> (try omega))]
    first | exact qf8_1 o | (simp [go_sem, qf8_1]; done) | (rw [((Below.refl _ _).alloc (Nat.le_refl _) _ : Below _ _ _).frozen (p := ⟨w4.heap.size, o, none⟩) (by show w4.heap.size < _; omega)]; exact qf8_1 o)
  clear qf8_1
  have q9_2_0 : w9.cell? ⟨w5.heap.size, 0, none⟩ = some (.int .i64 R0.1.state) := by
    rw [hb9.cell (p := ⟨w5.heap.size, 0, none⟩) (show w5.heap.size < _ by (try simp) <;> (try omega))]
    exact q8_2_0
  have q9_2_1 : w9.cell? ⟨w5.heap.size, 1, none⟩ = some (.slice a5 R0.1.args.length c5) := by
    rw [hb9.cell (p := ⟨w5.heap.size, 1, none⟩) (show w5.heap.size < _ by (try simp) <;> (try omega))]
    exact q8_2_1
  have q9_2_2 : w9.cell? ⟨w5.heap.size, 2, none⟩ = some (.bool R0.1.priv) := by
    rw [hb9.cell (p := ⟨w5.heap.size, 2, none⟩) (show w5.heap.size < _ by (try simp) <;> (try omega))]
    exact q8_2_2
  have q9_2_3 : w9.cell? ⟨w5.heap.size, 3, none⟩ = some (.string R0.1.text) := by
    rw [hb9.cell (p := ⟨w5.heap.size, 3, none⟩) (show w5.heap.size < _ by (try simp) <;> (try omega))]
    exact q8_2_3
  have q9_2_4 : w9.cell? ⟨w5.heap.size, 4, none⟩ = some (.string R0.1.utf) := by
    rw [hb9.cell (p := ⟨w5.heap.size, 4, none⟩) (show w5.heap.size < _ by (try simp) <;> (try omega))]
    exact q8_2_4
  have hl9_2 : w5.heap.size < w9.heap.size := by omega
  clear q8_2_0 q8_2_1 q8_2_2 q8_2_3 q8_2_4
  have qf9_2 : ∀ o, w9.frozen? ⟨w5.heap.size, o, none⟩ = false := fun o => by
    rw [hb9.frozen (p := ⟨w5.heap.size, o, none⟩) (show w5.heap.size < _ by (try simp) <;> (try omega))]
    first | exact qf8_2 o | (simp [go_sem, qf8_2]; done) | (rw [((Below.refl _ _).alloc (Nat.le_refl _) _ : Below _ _ _).frozen (p := ⟨w5.heap.size, o, none⟩) (by show w5.heap.size < _; omega)]; exact qf8_2 o)
  clear qf8_2
  have HB9 : Hid (Below w.heap.size w w9) := HB8.out.trans (hb9.mono (by (try simp) <;> (try omega)))
  clear hb9
  have hk0 : (0 : Int) ≤ (k : Int) := by omega
  have hkn' : (k : Int) ≤ (n : Int) := by omega
  have hkc : (k : Int) ≤ (cap : Int) := by omega
  obtain ⟨R1, hR1⟩ : ∃ R, prun p0 (l.take k) = R := ⟨_, rfl⟩
  have HR1 := Lib.hid hR1
  have HOK1 : Hid (PvOK R1.1) := Lib.hid (by rw [← hR1]; exact prun_ok _ HOK.out)
  obtain ⟨R2, hR2⟩ : ∃ R, prun R1.1 (l.drop k) = R := ⟨_, rfl⟩
  have HR2 := Lib.hid hR2
  have HSPL : Hid (R0 = (R2.1, R1.2 ++ R2.2)) := Lib.hid (by rw [← HR0.out, prun_split p0 l k, hR1, hR2])
  have HLT : Hid ((l.take k).length = k) := Lib.hid (by rw [List.length_take, HLN.out]; omega)
  have HLD : Hid ((l.drop k).length = n - k) := Lib.hid (by rw [List.length_drop, HLN.out])
  clear hR1 hR2
  go_upto_region 10 with fail
  go_cut [14, 15, 16] (fun s1 s2 s3 wx => OutB (R1, 0) w9 s1 s2 s3 wx)
  case first =>
    have hS0 : w9.cell? ⟨w1.heap.size, 0, none⟩ = some (.int .i64 p0.state) ∧ w9.cell? ⟨w1.heap.size, 1, none⟩ = some (.slice a1 p0.args.length c1) ∧ w9.cell? ⟨w1.heap.size, 2, none⟩ = some (.bool p0.priv) ∧ w9.cell? ⟨w1.heap.size, 3, none⟩ = some (.string p0.text) ∧ w9.cell? ⟨w1.heap.size, 4, none⟩ = some (.string p0.utf) := ⟨q9_0_0, q9_0_1, q9_0_2, q9_0_3, q9_0_4⟩
    refine wp_region_G (fun w' => w'.cell? ⟨w1.heap.size, 0, none⟩ = some (.int .i64 p0.state) ∧ w'.cell? ⟨w1.heap.size, 1, none⟩ = some (.slice a1 p0.args.length c1) ∧ w'.cell? ⟨w1.heap.size, 2, none⟩ = some (.bool p0.priv) ∧ w'.cell? ⟨w1.heap.size, 3, none⟩ = some (.string p0.text) ∧ w'.cell? ⟨w1.heap.size, 4, none⟩ = some (.string p0.utf)) (fun i => i == 10) (by kernel_rfl) hS0 ?_
    refine wpAnyG_take (i := 0) (v := ?_) rfl (by kernel_rfl) (by kernel_rfl) (by kernel_rfl) (by kernel_rfl) (fun _ _ _ h => h) hS0 (Or.inl ⟨by rfl, ?_⟩) ?_
    rotate_left
    · intro w' hSw
      obtain ⟨s0, s1, s2, s3, s4⟩ := hSw
      go_simp
      try (with_reducible rfl)
    try simp only [Act.put, List.getElem_toArray, List.getElem_cons_zero, List.getElem_cons_succ, List.setIfInBounds_toArray, List.set_cons_zero, List.set_cons_succ]
    refine wpAnyG_takeW (i := 1) (v := ?_) rfl (by kernel_rfl) (by kernel_rfl) (by kernel_rfl) (fun _ _ _ h => h) (Or.inl ⟨by rfl, ?_⟩) ?_
    rotate_left
    · intro w' hSw
      go_simp
      try (with_reducible rfl)
    try simp only [Act.put, List.getElem_toArray, List.getElem_cons_zero, List.getElem_cons_succ, List.setIfInBounds_toArray, List.set_cons_zero, List.set_cons_succ]
    refine wpAnyG_takeW (i := 2) (v := ?_) rfl (by kernel_rfl) (by kernel_rfl) (by kernel_rfl) (fun _ _ _ h => h) (Or.inl ⟨by rfl, ?_⟩) ?_
    rotate_left
    · intro w' hSw
      go_simp
      try (with_reducible rfl)
    try simp only [Act.put, List.getElem_toArray, List.getElem_cons_zero, List.getElem_cons_succ, List.setIfInBounds_toArray, List.set_cons_zero, List.set_cons_succ]
    refine wpAnyG_takeW (i := 3) (v := ?_) rfl (by kernel_rfl) (by kernel_rfl) (by kernel_rfl) (fun _ _ _ h => h) (Or.inl ⟨by rfl, ?_⟩) ?_
    rotate_left
    · intro w' hSw
      go_simp
      try (with_reducible rfl)
    try simp only [Act.put, List.getElem_toArray, List.getElem_cons_zero, List.getElem_cons_succ, List.setIfInBounds_toArray, List.set_cons_zero, List.set_cons_succ]
    refine wpAnyG_br (rs := [4, 9]) (by kernel_rfl) (by simp) ?_
    intro j hj
    simp only [List.mem_cons, List.not_mem_nil, or_false] at hj
    rcases hj with rfl | rfl
    · skip
      refine ⟨_, rfl, fun K' hK => ?_⟩
      simp only [List.getElem_toArray, List.getElem_cons_zero, List.getElem_cons_succ]
      go_simp
      go_at_call 8
      refine (pbI a1 c1 p0 (some ⟨gb, 0, none⟩) cap k (l.take k) R1 (w9.drew) HOK.out HLT.out (by omega) HR1.out (HP19.out.below ((Below.refl _ _).drew)).sl (Sl.takeK (HSB9.out.below ((Below.refl _ _).drew)).sl k) (HUT.out.keep (HB9.out.trans (((Below.refl _ _).drew).mono (by have := HB9.out.size; omega))))).mono ?_
      rintro e x1 ⟨a, c, al, cl, rs, rfl, hfa, hro, hnd, hrs, hb⟩
      have HBX : Hid (Below w9.heap.size w9 x1) := Lib.hid (((Below.refl _ _).drew).trans hb)
      simp only [World.size_drew] at hfa hro
      have HFA := Lib.hid hfa
      have HRO := Lib.hid hro
      have HND := Lib.hid hnd
      have HRSX := Lib.hid hrs
      have hS1 : x1.cell? ⟨w1.heap.size, 0, none⟩ = some (.int .i64 p0.state) ∧ x1.cell? ⟨w1.heap.size, 1, none⟩ = some (.slice a1 p0.args.length c1) ∧ x1.cell? ⟨w1.heap.size, 2, none⟩ = some (.bool p0.priv) ∧ x1.cell? ⟨w1.heap.size, 3, none⟩ = some (.string p0.text) ∧ x1.cell? ⟨w1.heap.size, 4, none⟩ = some (.string p0.utf) := ⟨(HBX.out.cell (p := ⟨w1.heap.size, 0, none⟩) hl9_0).trans q9_0_0, (HBX.out.cell (p := ⟨w1.heap.size, 1, none⟩) hl9_0).trans q9_0_1, (HBX.out.cell (p := ⟨w1.heap.size, 2, none⟩) hl9_0).trans q9_0_2, (HBX.out.cell (p := ⟨w1.heap.size, 3, none⟩) hl9_0).trans q9_0_3, (HBX.out.cell (p := ⟨w1.heap.size, 4, none⟩) hl9_0).trans q9_0_4⟩
      clear hfa hro hnd hrs hb
      refine hK.out _ _ (Or.inr hS1) ?_
      clear hK K'
      try simp only [Act.put, List.getElem_toArray, List.getElem_cons_zero, List.getElem_cons_succ, List.setIfInBounds_toArray, List.set_cons_zero, List.set_cons_succ]
      refine wpAnyG_takeW (i := 5) (v := ?_) rfl (by kernel_rfl) (by kernel_rfl) (by kernel_rfl) (fun _ _ _ h => h) (Or.inl ⟨by rfl, ?_⟩) ?_
      rotate_left
      · intro w' hSw
        go_simp
        try (with_reducible rfl)
      try simp only [Act.put, List.getElem_toArray, List.getElem_cons_zero, List.getElem_cons_succ, List.setIfInBounds_toArray, List.set_cons_zero, List.set_cons_succ]
      refine wpAnyG_takeW (i := 6) (v := ?_) rfl (by kernel_rfl) (by kernel_rfl) (by kernel_rfl) (fun _ _ _ h => h) (Or.inl ⟨by rfl, ?_⟩) ?_
      rotate_left
      · intro w' hSw
        go_simp
        try (with_reducible rfl)
      try simp only [Act.put, List.getElem_toArray, List.getElem_cons_zero, List.getElem_cons_succ, List.setIfInBounds_toArray, List.set_cons_zero, List.set_cons_succ]
      refine wpAnyG_takeW (i := 7) (v := ?_) rfl (by kernel_rfl) (by kernel_rfl) (by kernel_rfl) (fun _ _ _ h => h) (Or.inl ⟨by rfl, ?_⟩) ?_
      rotate_left
      · intro w' hSw
        go_simp
        try (with_reducible rfl)
      try simp only [Act.put, List.getElem_toArray, List.getElem_cons_zero, List.getElem_cons_succ, List.setIfInBounds_toArray, List.set_cons_zero, List.set_cons_succ]
      refine wpAnyG_takeW (i := 8) (v := ?_) rfl (by kernel_rfl) (by kernel_rfl) (by kernel_rfl) (fun _ _ _ h => h) (Or.inl ⟨by rfl, ?_⟩) ?_
      rotate_left
      · intro w' hSw
        go_simp
        try (with_reducible rfl)
      try simp only [Act.put, List.getElem_toArray, List.getElem_cons_zero, List.getElem_cons_succ, List.setIfInBounds_toArray, List.set_cons_zero, List.set_cons_succ]
      refine wpAnyG_one (i := 9) (by kernel_rfl) rfl hS1 (fun K' hK => ?_)
      simp only [List.getElem_toArray, List.getElem_cons_zero, List.getElem_cons_succ]
      go_simp
      refine hK.out _ _ (Or.inr ⟨(World.cell?_alloc_lt _ _ _ (Nat.lt_of_lt_of_le hl9_0 HBX.out.size)).trans hS1.1, (World.cell?_alloc_lt _ _ _ (Nat.lt_of_lt_of_le hl9_0 HBX.out.size)).trans hS1.2.1, (World.cell?_alloc_lt _ _ _ (Nat.lt_of_lt_of_le hl9_0 HBX.out.size)).trans hS1.2.2.1, (World.cell?_alloc_lt _ _ _ (Nat.lt_of_lt_of_le hl9_0 HBX.out.size)).trans hS1.2.2.2.1, (World.cell?_alloc_lt _ _ _ (Nat.lt_of_lt_of_le hl9_0 HBX.out.size)).trans hS1.2.2.2.2⟩) ?_
      clear hK K'
      try simp only [Act.put, List.getElem_toArray, List.getElem_cons_zero, List.getElem_cons_succ, List.setIfInBounds_toArray, List.set_cons_zero, List.set_cons_succ]
      refine wpAnyG_one (i := 10) (by kernel_rfl) rfl (⟨(World.cell?_alloc_lt _ _ _ (Nat.lt_of_lt_of_le hl9_0 HBX.out.size)).trans hS1.1, (World.cell?_alloc_lt _ _ _ (Nat.lt_of_lt_of_le hl9_0 HBX.out.size)).trans hS1.2.1, (World.cell?_alloc_lt _ _ _ (Nat.lt_of_lt_of_le hl9_0 HBX.out.size)).trans hS1.2.2.1, (World.cell?_alloc_lt _ _ _ (Nat.lt_of_lt_of_le hl9_0 HBX.out.size)).trans hS1.2.2.2.1, (World.cell?_alloc_lt _ _ _ (Nat.lt_of_lt_of_le hl9_0 HBX.out.size)).trans hS1.2.2.2.2⟩) (fun K' hK => ?_)
      simp only [List.getElem_toArray, List.getElem_cons_zero, List.getElem_cons_succ]
      go_simp
      refine hK.out _ _ (Or.inl rfl) ?_
      clear hK K'
      try simp only [Act.put, List.getElem_toArray, List.getElem_cons_zero, List.getElem_cons_succ, List.setIfInBounds_toArray, List.set_cons_zero, List.set_cons_succ]
      refine wpAnyG_takeW (i := 11) (v := ?_) rfl (by kernel_rfl) (by kernel_rfl) (by kernel_rfl) (fun _ _ _ h => h) (Or.inl ⟨by rfl, ?_⟩) ?_
      rotate_left
      · intro w' hSw
        go_simp
        try (with_reducible rfl)
      try simp only [Act.put, List.getElem_toArray, List.getElem_cons_zero, List.getElem_cons_succ, List.setIfInBounds_toArray, List.set_cons_zero, List.set_cons_succ]
      refine wpAnyG_takeW (i := 12) (v := ?_) rfl (by kernel_rfl) (by kernel_rfl) (by kernel_rfl) (fun _ _ _ h => h) (Or.inl ⟨by rfl, ?_⟩) ?_
      rotate_left
      · intro w' hSw
        go_simp
        try (with_reducible rfl)
      try simp only [Act.put, List.getElem_toArray, List.getElem_cons_zero, List.getElem_cons_succ, List.setIfInBounds_toArray, List.set_cons_zero, List.set_cons_succ]
      refine wpAnyG_done (by kernel_rfl) ?_ _
      go_wp2_with fail
      go_meet
      exact outB_alloc HBX.out HFA.out HRO.out HND.out HRSX.out rfl
    · skip
      refine ⟨_, rfl, fun K' hK => ?_⟩
      simp only [List.getElem_toArray, List.getElem_cons_zero, List.getElem_cons_succ]
      go_simp
      obtain ⟨x1, hx1⟩ : ∃ x, (w9.alloc (.cells #[.int .i64 0, .slice none 0 0, .bool false, .string ⟨#[]⟩, .string ⟨#[]⟩] 25)).drew = x := ⟨_, rfl⟩
      have HB1 : Hid (Below w9.heap.size w9 x1) := Lib.hid (by rw [← hx1]; exact (((Below.refl _ _).alloc (Nat.le_refl _) _).drew))
      have hz1 : w9.heap.size < x1.heap.size := by rw [← hx1]; simp
      have hS1 : x1.cell? ⟨w1.heap.size, 0, none⟩ = some (.int .i64 p0.state) ∧ x1.cell? ⟨w1.heap.size, 1, none⟩ = some (.slice a1 p0.args.length c1) ∧ x1.cell? ⟨w1.heap.size, 2, none⟩ = some (.bool p0.priv) ∧ x1.cell? ⟨w1.heap.size, 3, none⟩ = some (.string p0.text) ∧ x1.cell? ⟨w1.heap.size, 4, none⟩ = some (.string p0.utf) := ⟨(HB1.out.cell (p := ⟨w1.heap.size, 0, none⟩) hl9_0).trans q9_0_0, (HB1.out.cell (p := ⟨w1.heap.size, 1, none⟩) hl9_0).trans q9_0_1, (HB1.out.cell (p := ⟨w1.heap.size, 2, none⟩) hl9_0).trans q9_0_2, (HB1.out.cell (p := ⟨w1.heap.size, 3, none⟩) hl9_0).trans q9_0_3, (HB1.out.cell (p := ⟨w1.heap.size, 4, none⟩) hl9_0).trans q9_0_4⟩
      have b_0 : x1.cell? ⟨w9.heap.size, 0, none⟩ = some (.int .i64 0) := by rw [← hx1]; simp [go_sem]
      have b_1 : x1.cell? ⟨w9.heap.size, 1, none⟩ = some (.slice none 0 0) := by rw [← hx1]; simp [go_sem]
      have b_2 : x1.cell? ⟨w9.heap.size, 2, none⟩ = some (.bool false) := by rw [← hx1]; simp [go_sem]
      have b_3 : x1.cell? ⟨w9.heap.size, 3, none⟩ = some (.string ⟨#[]⟩) := by rw [← hx1]; simp [go_sem]
      have b_4 : x1.cell? ⟨w9.heap.size, 4, none⟩ = some (.string ⟨#[]⟩) := by rw [← hx1]; simp [go_sem]
      have bf : ∀ o, x1.frozen? ⟨w9.heap.size, o, none⟩ = false := by intro o; rw [← hx1]; simp [go_sem]
      rw [hx1]
      clear hx1
      refine hK.out _ _ (Or.inr hS1) ?_
      clear hK K'
      try simp only [Act.put, List.getElem_toArray, List.getElem_cons_zero, List.getElem_cons_succ, List.setIfInBounds_toArray, List.set_cons_zero, List.set_cons_succ]
      refine wpAnyG_one (i := 4) (by kernel_rfl) rfl hS1 (fun K' hK => ?_)
      simp only [List.getElem_toArray, List.getElem_cons_zero, List.getElem_cons_succ]
      go_simp
      go_at_call 8
      refine (pbI a1 c1 p0 (some ⟨gb, 0, none⟩) cap k (l.take k) R1 (x1) HOK.out HLT.out (by omega) HR1.out (HP19.out.below HB1.out).sl (Sl.takeK (HSB9.out.below HB1.out).sl k) (HUT.out.keep (HB9.out.trans (HB1.out.mono (by have := HB9.out.size; omega))))).mono ?_
      rintro e x3 ⟨a, c, al, cl, rs, rfl, hfa, hro, hnd, hrs, hb⟩
      have HBX : Hid (Below w9.heap.size w9 x3) := Lib.hid (HB1.out.trans (hb.mono (by omega)))
      have hz3 := hb.size
      have HFA := Lib.hid hfa
      have HRO := Lib.hid hro
      have HND := Lib.hid hnd
      have HRSX := Lib.hid hrs
      have hS3 : x3.cell? ⟨w1.heap.size, 0, none⟩ = some (.int .i64 p0.state) ∧ x3.cell? ⟨w1.heap.size, 1, none⟩ = some (.slice a1 p0.args.length c1) ∧ x3.cell? ⟨w1.heap.size, 2, none⟩ = some (.bool p0.priv) ∧ x3.cell? ⟨w1.heap.size, 3, none⟩ = some (.string p0.text) ∧ x3.cell? ⟨w1.heap.size, 4, none⟩ = some (.string p0.utf) := ⟨(HBX.out.cell (p := ⟨w1.heap.size, 0, none⟩) hl9_0).trans q9_0_0, (HBX.out.cell (p := ⟨w1.heap.size, 1, none⟩) hl9_0).trans q9_0_1, (HBX.out.cell (p := ⟨w1.heap.size, 2, none⟩) hl9_0).trans q9_0_2, (HBX.out.cell (p := ⟨w1.heap.size, 3, none⟩) hl9_0).trans q9_0_3, (HBX.out.cell (p := ⟨w1.heap.size, 4, none⟩) hl9_0).trans q9_0_4⟩
      have q_0 : x3.cell? ⟨w9.heap.size, 0, none⟩ = some (.int .i64 0) := (hb.cell (p := ⟨w9.heap.size, 0, none⟩) (by show w9.heap.size < _; omega)).trans b_0
      have q_1 : x3.cell? ⟨w9.heap.size, 1, none⟩ = some (.slice none 0 0) := (hb.cell (p := ⟨w9.heap.size, 1, none⟩) (by show w9.heap.size < _; omega)).trans b_1
      have q_2 : x3.cell? ⟨w9.heap.size, 2, none⟩ = some (.bool false) := (hb.cell (p := ⟨w9.heap.size, 2, none⟩) (by show w9.heap.size < _; omega)).trans b_2
      have q_3 : x3.cell? ⟨w9.heap.size, 3, none⟩ = some (.string ⟨#[]⟩) := (hb.cell (p := ⟨w9.heap.size, 3, none⟩) (by show w9.heap.size < _; omega)).trans b_3
      have q_4 : x3.cell? ⟨w9.heap.size, 4, none⟩ = some (.string ⟨#[]⟩) := (hb.cell (p := ⟨w9.heap.size, 4, none⟩) (by show w9.heap.size < _; omega)).trans b_4
      have qf : ∀ o, x3.frozen? ⟨w9.heap.size, o, none⟩ = false := fun o => (hb.frozen (p := ⟨w9.heap.size, o, none⟩) (by show w9.heap.size < _; omega)).trans (bf o)
      have hlq : w9.heap.size < x3.heap.size := by omega
      clear hfa hro hnd hrs hb
      refine hK.out _ _ (Or.inr hS3) ?_
      clear hK K'
      try simp only [Act.put, List.getElem_toArray, List.getElem_cons_zero, List.getElem_cons_succ, List.setIfInBounds_toArray, List.set_cons_zero, List.set_cons_succ]
      refine wpAnyG_takeW (i := 5) (v := ?_) rfl (by kernel_rfl) (by kernel_rfl) (by kernel_rfl) (fun _ _ _ h => h) (Or.inl ⟨by rfl, ?_⟩) ?_
      rotate_left
      · intro w' hSw
        go_simp
        try (with_reducible rfl)
      try simp only [Act.put, List.getElem_toArray, List.getElem_cons_zero, List.getElem_cons_succ, List.setIfInBounds_toArray, List.set_cons_zero, List.set_cons_succ]
      refine wpAnyG_takeW (i := 6) (v := ?_) rfl (by kernel_rfl) (by kernel_rfl) (by kernel_rfl) (fun _ _ _ h => h) (Or.inl ⟨by rfl, ?_⟩) ?_
      rotate_left
      · intro w' hSw
        go_simp
        try (with_reducible rfl)
      try simp only [Act.put, List.getElem_toArray, List.getElem_cons_zero, List.getElem_cons_succ, List.setIfInBounds_toArray, List.set_cons_zero, List.set_cons_succ]
      refine wpAnyG_takeW (i := 7) (v := ?_) rfl (by kernel_rfl) (by kernel_rfl) (by kernel_rfl) (fun _ _ _ h => h) (Or.inl ⟨by rfl, ?_⟩) ?_
      rotate_left
      · intro w' hSw
        go_simp
        try (with_reducible rfl)
      try simp only [Act.put, List.getElem_toArray, List.getElem_cons_zero, List.getElem_cons_succ, List.setIfInBounds_toArray, List.set_cons_zero, List.set_cons_succ]
      refine wpAnyG_takeW (i := 8) (v := ?_) rfl (by kernel_rfl) (by kernel_rfl) (by kernel_rfl) (fun _ _ _ h => h) (Or.inl ⟨by rfl, ?_⟩) ?_
      rotate_left
      · intro w' hSw
        go_simp
        try (with_reducible rfl)
      try simp only [Act.put, List.getElem_toArray, List.getElem_cons_zero, List.getElem_cons_succ, List.setIfInBounds_toArray, List.set_cons_zero, List.set_cons_succ]
      refine wpAnyG_one (i := 10) (by kernel_rfl) rfl hS3 (fun K' hK => ?_)
      simp only [List.getElem_toArray, List.getElem_cons_zero, List.getElem_cons_succ]
      go_simp
      refine hK.out _ _ (Or.inl rfl) ?_
      clear hK K'
      try simp only [Act.put, List.getElem_toArray, List.getElem_cons_zero, List.getElem_cons_succ, List.setIfInBounds_toArray, List.set_cons_zero, List.set_cons_succ]
      refine wpAnyG_takeW (i := 11) (v := ?_) rfl (by kernel_rfl) (by kernel_rfl) (by kernel_rfl) (fun _ _ _ h => h) (Or.inl ⟨by rfl, ?_⟩) ?_
      rotate_left
      · intro w' hSw
        go_simp
        try (with_reducible rfl)
      try simp only [Act.put, List.getElem_toArray, List.getElem_cons_zero, List.getElem_cons_succ, List.setIfInBounds_toArray, List.set_cons_zero, List.set_cons_succ]
      refine wpAnyG_takeW (i := 12) (v := ?_) rfl (by kernel_rfl) (by kernel_rfl) (by kernel_rfl) (fun _ _ _ h => h) (Or.inl ⟨by rfl, ?_⟩) ?_
      rotate_left
      · intro w' hSw
        go_simp
        try (with_reducible rfl)
      try simp only [Act.put, List.getElem_toArray, List.getElem_cons_zero, List.getElem_cons_succ, List.setIfInBounds_toArray, List.set_cons_zero, List.set_cons_succ]
      refine wpAnyG_done (by kernel_rfl) ?_ _
      go_wp2_with fail
      go_meet
      exact outB_store (Nat.le_refl _) hz1 hz3 HBX.out ⟨_, q_0⟩ ⟨_, q_1⟩ ⟨_, q_2⟩ ⟨_, q_3⟩ ⟨_, q_4⟩ HFA.out HRO.out HND.out HRSX.out rfl
  case rest =>
    obtain ⟨B10, a10, c10, al10, cl10, rs10, rfl, rfl, rfl, hBl10, hBu10, q10_n_0, q10_n_1, q10_n_2, q10_n_3, q10_n_4, hfa10, hro10, hnd10, hnb10, hrs10, hb10⟩ := hcut
    obtain ⟨w10, hwc⟩ : ∃ x, x = wc := ⟨_, rfl⟩
    subst hwc
    have hz10 := hb10.size
    dsimp only at hfa10 hrs10 q10_n_0 q10_n_1 q10_n_2 q10_n_3 q10_n_4 ⊢
    have HRS10 : Hid (rs10.map (·.A) = R1.2) := Lib.hid hrs10
    have HM10 : Hid (SpP w10.heap.size w10 R1.1.args a10 al10 rs10) := Lib.hid (SpP.start (FreshIn.sl (enc := intE) (fun _ => rfl) hfa10) ⟨hro10.row.sl (fun _ => rfl), fun r hr => FreshIn.sl (enc := intE) (fun _ => rfl) (hro10.ow r hr)⟩)
    clear hrs10 hfa10 hro10 hnd10
    clear hnb10
    have HP110 := Lib.hid (HP19.out.below hb10)
    clear HP19
    have HFA10 := Lib.hid (HFA9.out.below hb10)
    clear HFA9
    have HFZ10 := Lib.hid (HFZ9.out.below hb10)
    clear HFZ9
    have HSB10 := Lib.hid (HSB9.out.below hb10)
    clear HSB9
    have HE410 := Lib.hid (HE49.out.below hb10)
    clear HE49
    have q10_0_0 : w10.cell? ⟨w1.heap.size, 0, none⟩ = some (.int .i64 p0.state) := by
      rw [hb10.cell (p := ⟨w1.heap.size, 0, none⟩) (show w1.heap.size < _ by (try simp) <;> (try omega))]
      exact q9_0_0
    have q10_0_1 : w10.cell? ⟨w1.heap.size, 1, none⟩ = some (.slice a1 p0.args.length c1) := by
      rw [hb10.cell (p := ⟨w1.heap.size, 1, none⟩) (show w1.heap.size < _ by (try simp) <;> (try omega))]
      exact q9_0_1
    have q10_0_2 : w10.cell? ⟨w1.heap.size, 2, none⟩ = some (.bool p0.priv) := by
      rw [hb10.cell (p := ⟨w1.heap.size, 2, none⟩) (show w1.heap.size < _ by (try simp) <;> (try omega))]
      exact q9_0_2
    have q10_0_3 : w10.cell? ⟨w1.heap.size, 3, none⟩ = some (.string p0.text) := by
      rw [hb10.cell (p := ⟨w1.heap.size, 3, none⟩) (show w1.heap.size < _ by (try simp) <;> (try omega))]
      exact q9_0_3
    have q10_0_4 : w10.cell? ⟨w1.heap.size, 4, none⟩ = some (.string p0.utf) := by
      rw [hb10.cell (p := ⟨w1.heap.size, 4, none⟩) (show w1.heap.size < _ by (try simp) <;> (try omega))]
      exact q9_0_4
    have hl10_0 : w1.heap.size < w10.heap.size := by omega
    clear q9_0_0 q9_0_1 q9_0_2 q9_0_3 q9_0_4
    have q10_1_0 : w10.cell? ⟨w4.heap.size, 0, none⟩ = some (.int .i64 R0.1.state) := by
      rw [hb10.cell (p := ⟨w4.heap.size, 0, none⟩) (show w4.heap.size < _ by (try simp) <;> (try omega))]
      exact q9_1_0
    have q10_1_1 : w10.cell? ⟨w4.heap.size, 1, none⟩ = some (.slice a4 R0.1.args.length c4) := by
      rw [hb10.cell (p := ⟨w4.heap.size, 1, none⟩) (show w4.heap.size < _ by (try simp) <;> (try omega))]
      exact q9_1_1
    have q10_1_2 : w10.cell? ⟨w4.heap.size, 2, none⟩ = some (.bool R0.1.priv) := by
      rw [hb10.cell (p := ⟨w4.heap.size, 2, none⟩) (show w4.heap.size < _ by (try simp) <;> (try omega))]
      exact q9_1_2
    have q10_1_3 : w10.cell? ⟨w4.heap.size, 3, none⟩ = some (.string R0.1.text) := by
      rw [hb10.cell (p := ⟨w4.heap.size, 3, none⟩) (show w4.heap.size < _ by (try simp) <;> (try omega))]
      exact q9_1_3
    have q10_1_4 : w10.cell? ⟨w4.heap.size, 4, none⟩ = some (.string R0.1.utf) := by
      rw [hb10.cell (p := ⟨w4.heap.size, 4, none⟩) (show w4.heap.size < _ by (try simp) <;> (try omega))]
      exact q9_1_4
    have hl10_1 : w4.heap.size < w10.heap.size := by omega
    clear q9_1_0 q9_1_1 q9_1_2 q9_1_3 q9_1_4
    have q10_2_0 : w10.cell? ⟨w5.heap.size, 0, none⟩ = some (.int .i64 R0.1.state) := by
      rw [hb10.cell (p := ⟨w5.heap.size, 0, none⟩) (show w5.heap.size < _ by (try simp) <;> (try omega))]
      exact q9_2_0
    have q10_2_1 : w10.cell? ⟨w5.heap.size, 1, none⟩ = some (.slice a5 R0.1.args.length c5) := by
      rw [hb10.cell (p := ⟨w5.heap.size, 1, none⟩) (show w5.heap.size < _ by (try simp) <;> (try omega))]
      exact q9_2_1
    have q10_2_2 : w10.cell? ⟨w5.heap.size, 2, none⟩ = some (.bool R0.1.priv) := by
      rw [hb10.cell (p := ⟨w5.heap.size, 2, none⟩) (show w5.heap.size < _ by (try simp) <;> (try omega))]
      exact q9_2_2
    have q10_2_3 : w10.cell? ⟨w5.heap.size, 3, none⟩ = some (.string R0.1.text) := by
      rw [hb10.cell (p := ⟨w5.heap.size, 3, none⟩) (show w5.heap.size < _ by (try simp) <;> (try omega))]
      exact q9_2_3
    have q10_2_4 : w10.cell? ⟨w5.heap.size, 4, none⟩ = some (.string R0.1.utf) := by
      rw [hb10.cell (p := ⟨w5.heap.size, 4, none⟩) (show w5.heap.size < _ by (try simp) <;> (try omega))]
      exact q9_2_4
    have hl10_2 : w5.heap.size < w10.heap.size := by omega
    clear q9_2_0 q9_2_1 q9_2_2 q9_2_3 q9_2_4
    have HB10 : Hid (Below w.heap.size w w10) := HB9.out.trans (hb10.mono (by (try simp) <;> (try omega)))
    clear hb10
    have hl10_3 : B10 < w10.heap.size := hBu10
    skip
    go_upto_region 11 with fail
    go_cut [17, 18, 19] (fun s1 s2 s3 wx => OutB (R2, 0) w10 s1 s2 s3 wx)
    case first =>
      by_cases hck : cap = k
      · obtain rfl : k = cap := hck.symm
        have HDE : Hid (l.drop k = []) := Lib.hid (List.eq_nil_of_length_eq_zero (by rw [HLD.out]; omega))
        have HDL0 : Hid ((l.drop k).length = 0) := Lib.hid (by rw [HDE.out]; rfl)
        have hS0 : w10.cell? ⟨B10, 0, none⟩ = some (.int .i64 R1.1.state) ∧ w10.cell? ⟨B10, 1, none⟩ = some (.slice a10 R1.1.args.length c10) ∧ w10.cell? ⟨B10, 2, none⟩ = some (.bool R1.1.priv) ∧ w10.cell? ⟨B10, 3, none⟩ = some (.string R1.1.text) ∧ w10.cell? ⟨B10, 4, none⟩ = some (.string R1.1.utf) := ⟨q10_n_0, q10_n_1, q10_n_2, q10_n_3, q10_n_4⟩
        refine wp_region_G (fun w' => w'.cell? ⟨B10, 0, none⟩ = some (.int .i64 R1.1.state) ∧ w'.cell? ⟨B10, 1, none⟩ = some (.slice a10 R1.1.args.length c10) ∧ w'.cell? ⟨B10, 2, none⟩ = some (.bool R1.1.priv) ∧ w'.cell? ⟨B10, 3, none⟩ = some (.string R1.1.text) ∧ w'.cell? ⟨B10, 4, none⟩ = some (.string R1.1.utf)) (fun i => i == 10) (by kernel_rfl) hS0 ?_
        refine wpAnyG_take (i := 0) (v := ?_) rfl (by kernel_rfl) (by kernel_rfl) (by kernel_rfl) (by kernel_rfl) (fun _ _ _ h => h) hS0 (Or.inl ⟨by rfl, ?_⟩) ?_
        rotate_left
        · intro w' hSw
          obtain ⟨s0, s1, s2, s3, s4⟩ := hSw
          go_simp
          try (with_reducible rfl)
        try simp only [Act.put, List.getElem_toArray, List.getElem_cons_zero, List.getElem_cons_succ, List.setIfInBounds_toArray, List.set_cons_zero, List.set_cons_succ]
        refine wpAnyG_takeW (i := 1) (v := ?_) rfl (by kernel_rfl) (by kernel_rfl) (by kernel_rfl) (fun _ _ _ h => h) (Or.inl ⟨by rfl, ?_⟩) ?_
        rotate_left
        · intro w' hSw
          go_simp
          try (with_reducible rfl)
        try simp only [Act.put, List.getElem_toArray, List.getElem_cons_zero, List.getElem_cons_succ, List.setIfInBounds_toArray, List.set_cons_zero, List.set_cons_succ]
        refine wpAnyG_takeW (i := 2) (v := ?_) rfl (by kernel_rfl) (by kernel_rfl) (by kernel_rfl) (fun _ _ _ h => h) (Or.inl ⟨by rfl, ?_⟩) ?_
        rotate_left
        · intro w' hSw
          go_simp
          try (with_reducible rfl)
        try simp only [Act.put, List.getElem_toArray, List.getElem_cons_zero, List.getElem_cons_succ, List.setIfInBounds_toArray, List.set_cons_zero, List.set_cons_succ]
        refine wpAnyG_takeW (i := 3) (v := ?_) rfl (by kernel_rfl) (by kernel_rfl) (by kernel_rfl) (fun _ _ _ h => h) (Or.inl ⟨by rfl, ?_⟩) ?_
        rotate_left
        · intro w' hSw
          go_simp
          try (with_reducible rfl)
        try simp only [Act.put, List.getElem_toArray, List.getElem_cons_zero, List.getElem_cons_succ, List.setIfInBounds_toArray, List.set_cons_zero, List.set_cons_succ]
        refine wpAnyG_br (rs := [4, 9]) (by kernel_rfl) (by simp) ?_
        intro j hj
        simp only [List.mem_cons, List.not_mem_nil, or_false] at hj
        rcases hj with rfl | rfl
        · skip
          refine ⟨_, rfl, fun K' hK => ?_⟩
          simp only [List.getElem_toArray, List.getElem_cons_zero, List.getElem_cons_succ]
          go_simp
          go_at_call 8
          refine (pbI a10 c10 R1.1 (some ⟨gb, 0, none⟩) 0 0 (l.drop k) R2 (w10.drew) HOK1.out HDL0.out (by omega) HR2.out (HM10.out.below ((Below.refl _ _).drew)).sl (.inl HDE.out) (HUT.out.keep (HB10.out.trans (((Below.refl _ _).drew).mono (by have := HB10.out.size; omega))))).mono ?_
          rintro e x1 ⟨a, c, al, cl, rs, rfl, hfa, hro, hnd, hrs, hb⟩
          have HBX : Hid (Below w10.heap.size w10 x1) := Lib.hid (((Below.refl _ _).drew).trans hb)
          simp only [World.size_drew] at hfa hro
          have HFA := Lib.hid hfa
          have HRO := Lib.hid hro
          have HND := Lib.hid hnd
          have HRSX := Lib.hid hrs
          have hS1 : x1.cell? ⟨B10, 0, none⟩ = some (.int .i64 R1.1.state) ∧ x1.cell? ⟨B10, 1, none⟩ = some (.slice a10 R1.1.args.length c10) ∧ x1.cell? ⟨B10, 2, none⟩ = some (.bool R1.1.priv) ∧ x1.cell? ⟨B10, 3, none⟩ = some (.string R1.1.text) ∧ x1.cell? ⟨B10, 4, none⟩ = some (.string R1.1.utf) := ⟨(HBX.out.cell (p := ⟨B10, 0, none⟩) hl10_3).trans q10_n_0, (HBX.out.cell (p := ⟨B10, 1, none⟩) hl10_3).trans q10_n_1, (HBX.out.cell (p := ⟨B10, 2, none⟩) hl10_3).trans q10_n_2, (HBX.out.cell (p := ⟨B10, 3, none⟩) hl10_3).trans q10_n_3, (HBX.out.cell (p := ⟨B10, 4, none⟩) hl10_3).trans q10_n_4⟩
          clear hfa hro hnd hrs hb
          refine hK.out _ _ (Or.inr hS1) ?_
          clear hK K'
          try simp only [Act.put, List.getElem_toArray, List.getElem_cons_zero, List.getElem_cons_succ, List.setIfInBounds_toArray, List.set_cons_zero, List.set_cons_succ]
          refine wpAnyG_takeW (i := 5) (v := ?_) rfl (by kernel_rfl) (by kernel_rfl) (by kernel_rfl) (fun _ _ _ h => h) (Or.inl ⟨by rfl, ?_⟩) ?_
          rotate_left
          · intro w' hSw
            go_simp
            try (with_reducible rfl)
          try simp only [Act.put, List.getElem_toArray, List.getElem_cons_zero, List.getElem_cons_succ, List.setIfInBounds_toArray, List.set_cons_zero, List.set_cons_succ]
          refine wpAnyG_takeW (i := 6) (v := ?_) rfl (by kernel_rfl) (by kernel_rfl) (by kernel_rfl) (fun _ _ _ h => h) (Or.inl ⟨by rfl, ?_⟩) ?_
          rotate_left
          · intro w' hSw
            go_simp
            try (with_reducible rfl)
          try simp only [Act.put, List.getElem_toArray, List.getElem_cons_zero, List.getElem_cons_succ, List.setIfInBounds_toArray, List.set_cons_zero, List.set_cons_succ]
          refine wpAnyG_takeW (i := 7) (v := ?_) rfl (by kernel_rfl) (by kernel_rfl) (by kernel_rfl) (fun _ _ _ h => h) (Or.inl ⟨by rfl, ?_⟩) ?_
          rotate_left
          · intro w' hSw
            go_simp
            try (with_reducible rfl)
          try simp only [Act.put, List.getElem_toArray, List.getElem_cons_zero, List.getElem_cons_succ, List.setIfInBounds_toArray, List.set_cons_zero, List.set_cons_succ]
          refine wpAnyG_takeW (i := 8) (v := ?_) rfl (by kernel_rfl) (by kernel_rfl) (by kernel_rfl) (fun _ _ _ h => h) (Or.inl ⟨by rfl, ?_⟩) ?_
          rotate_left
          · intro w' hSw
            go_simp
            try (with_reducible rfl)
          try simp only [Act.put, List.getElem_toArray, List.getElem_cons_zero, List.getElem_cons_succ, List.setIfInBounds_toArray, List.set_cons_zero, List.set_cons_succ]
          refine wpAnyG_one (i := 9) (by kernel_rfl) rfl hS1 (fun K' hK => ?_)
          simp only [List.getElem_toArray, List.getElem_cons_zero, List.getElem_cons_succ]
          go_simp
          refine hK.out _ _ (Or.inr ⟨(World.cell?_alloc_lt _ _ _ (Nat.lt_of_lt_of_le hl10_3 HBX.out.size)).trans hS1.1, (World.cell?_alloc_lt _ _ _ (Nat.lt_of_lt_of_le hl10_3 HBX.out.size)).trans hS1.2.1, (World.cell?_alloc_lt _ _ _ (Nat.lt_of_lt_of_le hl10_3 HBX.out.size)).trans hS1.2.2.1, (World.cell?_alloc_lt _ _ _ (Nat.lt_of_lt_of_le hl10_3 HBX.out.size)).trans hS1.2.2.2.1, (World.cell?_alloc_lt _ _ _ (Nat.lt_of_lt_of_le hl10_3 HBX.out.size)).trans hS1.2.2.2.2⟩) ?_
          clear hK K'
          try simp only [Act.put, List.getElem_toArray, List.getElem_cons_zero, List.getElem_cons_succ, List.setIfInBounds_toArray, List.set_cons_zero, List.set_cons_succ]
          refine wpAnyG_one (i := 10) (by kernel_rfl) rfl (⟨(World.cell?_alloc_lt _ _ _ (Nat.lt_of_lt_of_le hl10_3 HBX.out.size)).trans hS1.1, (World.cell?_alloc_lt _ _ _ (Nat.lt_of_lt_of_le hl10_3 HBX.out.size)).trans hS1.2.1, (World.cell?_alloc_lt _ _ _ (Nat.lt_of_lt_of_le hl10_3 HBX.out.size)).trans hS1.2.2.1, (World.cell?_alloc_lt _ _ _ (Nat.lt_of_lt_of_le hl10_3 HBX.out.size)).trans hS1.2.2.2.1, (World.cell?_alloc_lt _ _ _ (Nat.lt_of_lt_of_le hl10_3 HBX.out.size)).trans hS1.2.2.2.2⟩) (fun K' hK => ?_)
          simp only [List.getElem_toArray, List.getElem_cons_zero, List.getElem_cons_succ]
          go_simp
          refine hK.out _ _ (Or.inl rfl) ?_
          clear hK K'
          try simp only [Act.put, List.getElem_toArray, List.getElem_cons_zero, List.getElem_cons_succ, List.setIfInBounds_toArray, List.set_cons_zero, List.set_cons_succ]
          refine wpAnyG_takeW (i := 11) (v := ?_) rfl (by kernel_rfl) (by kernel_rfl) (by kernel_rfl) (fun _ _ _ h => h) (Or.inl ⟨by rfl, ?_⟩) ?_
          rotate_left
          · intro w' hSw
            go_simp
            try (with_reducible rfl)
          try simp only [Act.put, List.getElem_toArray, List.getElem_cons_zero, List.getElem_cons_succ, List.setIfInBounds_toArray, List.set_cons_zero, List.set_cons_succ]
          refine wpAnyG_takeW (i := 12) (v := ?_) rfl (by kernel_rfl) (by kernel_rfl) (by kernel_rfl) (fun _ _ _ h => h) (Or.inl ⟨by rfl, ?_⟩) ?_
          rotate_left
          · intro w' hSw
            go_simp
            try (with_reducible rfl)
          try simp only [Act.put, List.getElem_toArray, List.getElem_cons_zero, List.getElem_cons_succ, List.setIfInBounds_toArray, List.set_cons_zero, List.set_cons_succ]
          refine wpAnyG_done (by kernel_rfl) ?_ _
          go_wp2_with fail
          go_meet
          exact outB_alloc HBX.out HFA.out HRO.out HND.out HRSX.out rfl
        · skip
          refine ⟨_, rfl, fun K' hK => ?_⟩
          simp only [List.getElem_toArray, List.getElem_cons_zero, List.getElem_cons_succ]
          go_simp
          obtain ⟨x1, hx1⟩ : ∃ x, (w10.alloc (.cells #[.int .i64 0, .slice none 0 0, .bool false, .string ⟨#[]⟩, .string ⟨#[]⟩] 25)).drew = x := ⟨_, rfl⟩
          have HB1 : Hid (Below w10.heap.size w10 x1) := Lib.hid (by rw [← hx1]; exact (((Below.refl _ _).alloc (Nat.le_refl _) _).drew))
          have hz1 : w10.heap.size < x1.heap.size := by rw [← hx1]; simp
          have hS1 : x1.cell? ⟨B10, 0, none⟩ = some (.int .i64 R1.1.state) ∧ x1.cell? ⟨B10, 1, none⟩ = some (.slice a10 R1.1.args.length c10) ∧ x1.cell? ⟨B10, 2, none⟩ = some (.bool R1.1.priv) ∧ x1.cell? ⟨B10, 3, none⟩ = some (.string R1.1.text) ∧ x1.cell? ⟨B10, 4, none⟩ = some (.string R1.1.utf) := ⟨(HB1.out.cell (p := ⟨B10, 0, none⟩) hl10_3).trans q10_n_0, (HB1.out.cell (p := ⟨B10, 1, none⟩) hl10_3).trans q10_n_1, (HB1.out.cell (p := ⟨B10, 2, none⟩) hl10_3).trans q10_n_2, (HB1.out.cell (p := ⟨B10, 3, none⟩) hl10_3).trans q10_n_3, (HB1.out.cell (p := ⟨B10, 4, none⟩) hl10_3).trans q10_n_4⟩
          have b_0 : x1.cell? ⟨w10.heap.size, 0, none⟩ = some (.int .i64 0) := by rw [← hx1]; simp [go_sem]
          have b_1 : x1.cell? ⟨w10.heap.size, 1, none⟩ = some (.slice none 0 0) := by rw [← hx1]; simp [go_sem]
          have b_2 : x1.cell? ⟨w10.heap.size, 2, none⟩ = some (.bool false) := by rw [← hx1]; simp [go_sem]
          have b_3 : x1.cell? ⟨w10.heap.size, 3, none⟩ = some (.string ⟨#[]⟩) := by rw [← hx1]; simp [go_sem]
          have b_4 : x1.cell? ⟨w10.heap.size, 4, none⟩ = some (.string ⟨#[]⟩) := by rw [← hx1]; simp [go_sem]
          have bf : ∀ o, x1.frozen? ⟨w10.heap.size, o, none⟩ = false := by intro o; rw [← hx1]; simp [go_sem]
          rw [hx1]
          clear hx1
          refine hK.out _ _ (Or.inr hS1) ?_
          clear hK K'
          try simp only [Act.put, List.getElem_toArray, List.getElem_cons_zero, List.getElem_cons_succ, List.setIfInBounds_toArray, List.set_cons_zero, List.set_cons_succ]
          refine wpAnyG_one (i := 4) (by kernel_rfl) rfl hS1 (fun K' hK => ?_)
          simp only [List.getElem_toArray, List.getElem_cons_zero, List.getElem_cons_succ]
          go_simp
          go_at_call 8
          refine (pbI a10 c10 R1.1 (some ⟨gb, 0, none⟩) 0 0 (l.drop k) R2 (x1) HOK1.out HDL0.out (by omega) HR2.out (HM10.out.below HB1.out).sl (.inl HDE.out) (HUT.out.keep (HB10.out.trans (HB1.out.mono (by have := HB10.out.size; omega))))).mono ?_
          rintro e x3 ⟨a, c, al, cl, rs, rfl, hfa, hro, hnd, hrs, hb⟩
          have HBX : Hid (Below w10.heap.size w10 x3) := Lib.hid (HB1.out.trans (hb.mono (by omega)))
          have hz3 := hb.size
          have HFA := Lib.hid hfa
          have HRO := Lib.hid hro
          have HND := Lib.hid hnd
          have HRSX := Lib.hid hrs
          have hS3 : x3.cell? ⟨B10, 0, none⟩ = some (.int .i64 R1.1.state) ∧ x3.cell? ⟨B10, 1, none⟩ = some (.slice a10 R1.1.args.length c10) ∧ x3.cell? ⟨B10, 2, none⟩ = some (.bool R1.1.priv) ∧ x3.cell? ⟨B10, 3, none⟩ = some (.string R1.1.text) ∧ x3.cell? ⟨B10, 4, none⟩ = some (.string R1.1.utf) := ⟨(HBX.out.cell (p := ⟨B10, 0, none⟩) hl10_3).trans q10_n_0, (HBX.out.cell (p := ⟨B10, 1, none⟩) hl10_3).trans q10_n_1, (HBX.out.cell (p := ⟨B10, 2, none⟩) hl10_3).trans q10_n_2, (HBX.out.cell (p := ⟨B10, 3, none⟩) hl10_3).trans q10_n_3, (HBX.out.cell (p := ⟨B10, 4, none⟩) hl10_3).trans q10_n_4⟩
          have q_0 : x3.cell? ⟨w10.heap.size, 0, none⟩ = some (.int .i64 0) := (hb.cell (p := ⟨w10.heap.size, 0, none⟩) (by show w10.heap.size < _; omega)).trans b_0
          have q_1 : x3.cell? ⟨w10.heap.size, 1, none⟩ = some (.slice none 0 0) := (hb.cell (p := ⟨w10.heap.size, 1, none⟩) (by show w10.heap.size < _; omega)).trans b_1
          have q_2 : x3.cell? ⟨w10.heap.size, 2, none⟩ = some (.bool false) := (hb.cell (p := ⟨w10.heap.size, 2, none⟩) (by show w10.heap.size < _; omega)).trans b_2
          have q_3 : x3.cell? ⟨w10.heap.size, 3, none⟩ = some (.string ⟨#[]⟩) := (hb.cell (p := ⟨w10.heap.size, 3, none⟩) (by show w10.heap.size < _; omega)).trans b_3
          have q_4 : x3.cell? ⟨w10.heap.size, 4, none⟩ = some (.string ⟨#[]⟩) := (hb.cell (p := ⟨w10.heap.size, 4, none⟩) (by show w10.heap.size < _; omega)).trans b_4
          have qf : ∀ o, x3.frozen? ⟨w10.heap.size, o, none⟩ = false := fun o => (hb.frozen (p := ⟨w10.heap.size, o, none⟩) (by show w10.heap.size < _; omega)).trans (bf o)
          have hlq : w10.heap.size < x3.heap.size := by omega
          clear hfa hro hnd hrs hb
          refine hK.out _ _ (Or.inr hS3) ?_
          clear hK K'
          try simp only [Act.put, List.getElem_toArray, List.getElem_cons_zero, List.getElem_cons_succ, List.setIfInBounds_toArray, List.set_cons_zero, List.set_cons_succ]
          refine wpAnyG_takeW (i := 5) (v := ?_) rfl (by kernel_rfl) (by kernel_rfl) (by kernel_rfl) (fun _ _ _ h => h) (Or.inl ⟨by rfl, ?_⟩) ?_
          rotate_left
          · intro w' hSw
            go_simp
            try (with_reducible rfl)
          try simp only [Act.put, List.getElem_toArray, List.getElem_cons_zero, List.getElem_cons_succ, List.setIfInBounds_toArray, List.set_cons_zero, List.set_cons_succ]
          refine wpAnyG_takeW (i := 6) (v := ?_) rfl (by kernel_rfl) (by kernel_rfl) (by kernel_rfl) (fun _ _ _ h => h) (Or.inl ⟨by rfl, ?_⟩) ?_
          rotate_left
          · intro w' hSw
            go_simp
            try (with_reducible rfl)
          try simp only [Act.put, List.getElem_toArray, List.getElem_cons_zero, List.getElem_cons_succ, List.setIfInBounds_toArray, List.set_cons_zero, List.set_cons_succ]
          refine wpAnyG_takeW (i := 7) (v := ?_) rfl (by kernel_rfl) (by kernel_rfl) (by kernel_rfl) (fun _ _ _ h => h) (Or.inl ⟨by rfl, ?_⟩) ?_
          rotate_left
          · intro w' hSw
            go_simp
            try (with_reducible rfl)
          try simp only [Act.put, List.getElem_toArray, List.getElem_cons_zero, List.getElem_cons_succ, List.setIfInBounds_toArray, List.set_cons_zero, List.set_cons_succ]
          refine wpAnyG_takeW (i := 8) (v := ?_) rfl (by kernel_rfl) (by kernel_rfl) (by kernel_rfl) (fun _ _ _ h => h) (Or.inl ⟨by rfl, ?_⟩) ?_
          rotate_left
          · intro w' hSw
            go_simp
            try (with_reducible rfl)
          try simp only [Act.put, List.getElem_toArray, List.getElem_cons_zero, List.getElem_cons_succ, List.setIfInBounds_toArray, List.set_cons_zero, List.set_cons_succ]
          refine wpAnyG_one (i := 10) (by kernel_rfl) rfl hS3 (fun K' hK => ?_)
          simp only [List.getElem_toArray, List.getElem_cons_zero, List.getElem_cons_succ]
          go_simp
          refine hK.out _ _ (Or.inl rfl) ?_
          clear hK K'
          try simp only [Act.put, List.getElem_toArray, List.getElem_cons_zero, List.getElem_cons_succ, List.setIfInBounds_toArray, List.set_cons_zero, List.set_cons_succ]
          refine wpAnyG_takeW (i := 11) (v := ?_) rfl (by kernel_rfl) (by kernel_rfl) (by kernel_rfl) (fun _ _ _ h => h) (Or.inl ⟨by rfl, ?_⟩) ?_
          rotate_left
          · intro w' hSw
            go_simp
            try (with_reducible rfl)
          try simp only [Act.put, List.getElem_toArray, List.getElem_cons_zero, List.getElem_cons_succ, List.setIfInBounds_toArray, List.set_cons_zero, List.set_cons_succ]
          refine wpAnyG_takeW (i := 12) (v := ?_) rfl (by kernel_rfl) (by kernel_rfl) (by kernel_rfl) (fun _ _ _ h => h) (Or.inl ⟨by rfl, ?_⟩) ?_
          rotate_left
          · intro w' hSw
            go_simp
            try (with_reducible rfl)
          try simp only [Act.put, List.getElem_toArray, List.getElem_cons_zero, List.getElem_cons_succ, List.setIfInBounds_toArray, List.set_cons_zero, List.set_cons_succ]
          refine wpAnyG_done (by kernel_rfl) ?_ _
          go_wp2_with fail
          go_meet
          exact outB_store (Nat.le_refl _) hz1 hz3 HBX.out ⟨_, q_0⟩ ⟨_, q_1⟩ ⟨_, q_2⟩ ⟨_, q_3⟩ ⟨_, q_4⟩ HFA.out HRO.out HND.out HRSX.out rfl
      have hck2 : ¬ k = cap := fun e => hck e.symm
      have hS0 : w10.cell? ⟨B10, 0, none⟩ = some (.int .i64 R1.1.state) ∧ w10.cell? ⟨B10, 1, none⟩ = some (.slice a10 R1.1.args.length c10) ∧ w10.cell? ⟨B10, 2, none⟩ = some (.bool R1.1.priv) ∧ w10.cell? ⟨B10, 3, none⟩ = some (.string R1.1.text) ∧ w10.cell? ⟨B10, 4, none⟩ = some (.string R1.1.utf) := ⟨q10_n_0, q10_n_1, q10_n_2, q10_n_3, q10_n_4⟩
      refine wp_region_G (fun w' => w'.cell? ⟨B10, 0, none⟩ = some (.int .i64 R1.1.state) ∧ w'.cell? ⟨B10, 1, none⟩ = some (.slice a10 R1.1.args.length c10) ∧ w'.cell? ⟨B10, 2, none⟩ = some (.bool R1.1.priv) ∧ w'.cell? ⟨B10, 3, none⟩ = some (.string R1.1.text) ∧ w'.cell? ⟨B10, 4, none⟩ = some (.string R1.1.utf)) (fun i => i == 10) (by kernel_rfl) hS0 ?_
      refine wpAnyG_take (i := 0) (v := ?_) rfl (by kernel_rfl) (by kernel_rfl) (by kernel_rfl) (by kernel_rfl) (fun _ _ _ h => h) hS0 (Or.inl ⟨by rfl, ?_⟩) ?_
      rotate_left
      · intro w' hSw
        obtain ⟨s0, s1, s2, s3, s4⟩ := hSw
        go_simp
        try (with_reducible rfl)
      try simp only [Act.put, List.getElem_toArray, List.getElem_cons_zero, List.getElem_cons_succ, List.setIfInBounds_toArray, List.set_cons_zero, List.set_cons_succ]
      refine wpAnyG_takeW (i := 1) (v := ?_) rfl (by kernel_rfl) (by kernel_rfl) (by kernel_rfl) (fun _ _ _ h => h) (Or.inl ⟨by rfl, ?_⟩) ?_
      rotate_left
      · intro w' hSw
        go_simp
        try (with_reducible rfl)
      try simp only [Act.put, List.getElem_toArray, List.getElem_cons_zero, List.getElem_cons_succ, List.setIfInBounds_toArray, List.set_cons_zero, List.set_cons_succ]
      refine wpAnyG_takeW (i := 2) (v := ?_) rfl (by kernel_rfl) (by kernel_rfl) (by kernel_rfl) (fun _ _ _ h => h) (Or.inl ⟨by rfl, ?_⟩) ?_
      rotate_left
      · intro w' hSw
        go_simp
        try (with_reducible rfl)
      try simp only [Act.put, List.getElem_toArray, List.getElem_cons_zero, List.getElem_cons_succ, List.setIfInBounds_toArray, List.set_cons_zero, List.set_cons_succ]
      refine wpAnyG_takeW (i := 3) (v := ?_) rfl (by kernel_rfl) (by kernel_rfl) (by kernel_rfl) (fun _ _ _ h => h) (Or.inl ⟨by rfl, ?_⟩) ?_
      rotate_left
      · intro w' hSw
        go_simp
        try (with_reducible rfl)
      try simp only [Act.put, List.getElem_toArray, List.getElem_cons_zero, List.getElem_cons_succ, List.setIfInBounds_toArray, List.set_cons_zero, List.set_cons_succ]
      refine wpAnyG_br (rs := [4, 9]) (by kernel_rfl) (by simp) ?_
      intro j hj
      simp only [List.mem_cons, List.not_mem_nil, or_false] at hj
      rcases hj with rfl | rfl
      · skip
        refine ⟨_, rfl, fun K' hK => ?_⟩
        simp only [List.getElem_toArray, List.getElem_cons_zero, List.getElem_cons_succ]
        go_simp
        go_at_call 8
        refine (pbI a10 c10 R1.1 (some ⟨gb, k, none⟩) (cap - k) (n - k) (l.drop k) R2 (w10.drew) HOK1.out HLD.out (by omega) HR2.out (HM10.out.below ((Below.refl _ _).drew)).sl (by simpa using Sl.dropK (HSB10.out.below ((Below.refl _ _).drew)).sl k) (HUT.out.keep (HB10.out.trans (((Below.refl _ _).drew).mono (by have := HB10.out.size; omega))))).mono ?_
        rintro e x1 ⟨a, c, al, cl, rs, rfl, hfa, hro, hnd, hrs, hb⟩
        have HBX : Hid (Below w10.heap.size w10 x1) := Lib.hid (((Below.refl _ _).drew).trans hb)
        simp only [World.size_drew] at hfa hro
        have HFA := Lib.hid hfa
        have HRO := Lib.hid hro
        have HND := Lib.hid hnd
        have HRSX := Lib.hid hrs
        have hS1 : x1.cell? ⟨B10, 0, none⟩ = some (.int .i64 R1.1.state) ∧ x1.cell? ⟨B10, 1, none⟩ = some (.slice a10 R1.1.args.length c10) ∧ x1.cell? ⟨B10, 2, none⟩ = some (.bool R1.1.priv) ∧ x1.cell? ⟨B10, 3, none⟩ = some (.string R1.1.text) ∧ x1.cell? ⟨B10, 4, none⟩ = some (.string R1.1.utf) := ⟨(HBX.out.cell (p := ⟨B10, 0, none⟩) hl10_3).trans q10_n_0, (HBX.out.cell (p := ⟨B10, 1, none⟩) hl10_3).trans q10_n_1, (HBX.out.cell (p := ⟨B10, 2, none⟩) hl10_3).trans q10_n_2, (HBX.out.cell (p := ⟨B10, 3, none⟩) hl10_3).trans q10_n_3, (HBX.out.cell (p := ⟨B10, 4, none⟩) hl10_3).trans q10_n_4⟩
        clear hfa hro hnd hrs hb
        refine hK.out _ _ (Or.inr hS1) ?_
        clear hK K'
        try simp only [Act.put, List.getElem_toArray, List.getElem_cons_zero, List.getElem_cons_succ, List.setIfInBounds_toArray, List.set_cons_zero, List.set_cons_succ]
        refine wpAnyG_takeW (i := 5) (v := ?_) rfl (by kernel_rfl) (by kernel_rfl) (by kernel_rfl) (fun _ _ _ h => h) (Or.inl ⟨by rfl, ?_⟩) ?_
        rotate_left
        · intro w' hSw
          go_simp
          try (with_reducible rfl)
        try simp only [Act.put, List.getElem_toArray, List.getElem_cons_zero, List.getElem_cons_succ, List.setIfInBounds_toArray, List.set_cons_zero, List.set_cons_succ]
        refine wpAnyG_takeW (i := 6) (v := ?_) rfl (by kernel_rfl) (by kernel_rfl) (by kernel_rfl) (fun _ _ _ h => h) (Or.inl ⟨by rfl, ?_⟩) ?_
        rotate_left
        · intro w' hSw
          go_simp
          try (with_reducible rfl)
        try simp only [Act.put, List.getElem_toArray, List.getElem_cons_zero, List.getElem_cons_succ, List.setIfInBounds_toArray, List.set_cons_zero, List.set_cons_succ]
        refine wpAnyG_takeW (i := 7) (v := ?_) rfl (by kernel_rfl) (by kernel_rfl) (by kernel_rfl) (fun _ _ _ h => h) (Or.inl ⟨by rfl, ?_⟩) ?_
        rotate_left
        · intro w' hSw
          go_simp
          try (with_reducible rfl)
        try simp only [Act.put, List.getElem_toArray, List.getElem_cons_zero, List.getElem_cons_succ, List.setIfInBounds_toArray, List.set_cons_zero, List.set_cons_succ]
        refine wpAnyG_takeW (i := 8) (v := ?_) rfl (by kernel_rfl) (by kernel_rfl) (by kernel_rfl) (fun _ _ _ h => h) (Or.inl ⟨by rfl, ?_⟩) ?_
        rotate_left
        · intro w' hSw
          go_simp
          try (with_reducible rfl)
        try simp only [Act.put, List.getElem_toArray, List.getElem_cons_zero, List.getElem_cons_succ, List.setIfInBounds_toArray, List.set_cons_zero, List.set_cons_succ]
        refine wpAnyG_one (i := 9) (by kernel_rfl) rfl hS1 (fun K' hK => ?_)
        simp only [List.getElem_toArray, List.getElem_cons_zero, List.getElem_cons_succ]
        go_simp
        refine hK.out _ _ (Or.inr ⟨(World.cell?_alloc_lt _ _ _ (Nat.lt_of_lt_of_le hl10_3 HBX.out.size)).trans hS1.1, (World.cell?_alloc_lt _ _ _ (Nat.lt_of_lt_of_le hl10_3 HBX.out.size)).trans hS1.2.1, (World.cell?_alloc_lt _ _ _ (Nat.lt_of_lt_of_le hl10_3 HBX.out.size)).trans hS1.2.2.1, (World.cell?_alloc_lt _ _ _ (Nat.lt_of_lt_of_le hl10_3 HBX.out.size)).trans hS1.2.2.2.1, (World.cell?_alloc_lt _ _ _ (Nat.lt_of_lt_of_le hl10_3 HBX.out.size)).trans hS1.2.2.2.2⟩) ?_
        clear hK K'
        try simp only [Act.put, List.getElem_toArray, List.getElem_cons_zero, List.getElem_cons_succ, List.setIfInBounds_toArray, List.set_cons_zero, List.set_cons_succ]
        refine wpAnyG_one (i := 10) (by kernel_rfl) rfl (⟨(World.cell?_alloc_lt _ _ _ (Nat.lt_of_lt_of_le hl10_3 HBX.out.size)).trans hS1.1, (World.cell?_alloc_lt _ _ _ (Nat.lt_of_lt_of_le hl10_3 HBX.out.size)).trans hS1.2.1, (World.cell?_alloc_lt _ _ _ (Nat.lt_of_lt_of_le hl10_3 HBX.out.size)).trans hS1.2.2.1, (World.cell?_alloc_lt _ _ _ (Nat.lt_of_lt_of_le hl10_3 HBX.out.size)).trans hS1.2.2.2.1, (World.cell?_alloc_lt _ _ _ (Nat.lt_of_lt_of_le hl10_3 HBX.out.size)).trans hS1.2.2.2.2⟩) (fun K' hK => ?_)
        simp only [List.getElem_toArray, List.getElem_cons_zero, List.getElem_cons_succ]
        go_simp
        refine hK.out _ _ (Or.inl rfl) ?_
        clear hK K'
        try simp only [Act.put, List.getElem_toArray, List.getElem_cons_zero, List.getElem_cons_succ, List.setIfInBounds_toArray, List.set_cons_zero, List.set_cons_succ]
        refine wpAnyG_takeW (i := 11) (v := ?_) rfl (by kernel_rfl) (by kernel_rfl) (by kernel_rfl) (fun _ _ _ h => h) (Or.inl ⟨by rfl, ?_⟩) ?_
        rotate_left
        · intro w' hSw
          go_simp
          try (with_reducible rfl)
        try simp only [Act.put, List.getElem_toArray, List.getElem_cons_zero, List.getElem_cons_succ, List.setIfInBounds_toArray, List.set_cons_zero, List.set_cons_succ]
        refine wpAnyG_takeW (i := 12) (v := ?_) rfl (by kernel_rfl) (by kernel_rfl) (by kernel_rfl) (fun _ _ _ h => h) (Or.inl ⟨by rfl, ?_⟩) ?_
        rotate_left
        · intro w' hSw
          go_simp
          try (with_reducible rfl)
        try simp only [Act.put, List.getElem_toArray, List.getElem_cons_zero, List.getElem_cons_succ, List.setIfInBounds_toArray, List.set_cons_zero, List.set_cons_succ]
        refine wpAnyG_done (by kernel_rfl) ?_ _
        go_wp2_with fail
        go_meet
        exact outB_alloc HBX.out HFA.out HRO.out HND.out HRSX.out rfl
      · skip
        refine ⟨_, rfl, fun K' hK => ?_⟩
        simp only [List.getElem_toArray, List.getElem_cons_zero, List.getElem_cons_succ]
        go_simp
        obtain ⟨x1, hx1⟩ : ∃ x, (w10.alloc (.cells #[.int .i64 0, .slice none 0 0, .bool false, .string ⟨#[]⟩, .string ⟨#[]⟩] 25)).drew = x := ⟨_, rfl⟩
        have HB1 : Hid (Below w10.heap.size w10 x1) := Lib.hid (by rw [← hx1]; exact (((Below.refl _ _).alloc (Nat.le_refl _) _).drew))
        have hz1 : w10.heap.size < x1.heap.size := by rw [← hx1]; simp
        have hS1 : x1.cell? ⟨B10, 0, none⟩ = some (.int .i64 R1.1.state) ∧ x1.cell? ⟨B10, 1, none⟩ = some (.slice a10 R1.1.args.length c10) ∧ x1.cell? ⟨B10, 2, none⟩ = some (.bool R1.1.priv) ∧ x1.cell? ⟨B10, 3, none⟩ = some (.string R1.1.text) ∧ x1.cell? ⟨B10, 4, none⟩ = some (.string R1.1.utf) := ⟨(HB1.out.cell (p := ⟨B10, 0, none⟩) hl10_3).trans q10_n_0, (HB1.out.cell (p := ⟨B10, 1, none⟩) hl10_3).trans q10_n_1, (HB1.out.cell (p := ⟨B10, 2, none⟩) hl10_3).trans q10_n_2, (HB1.out.cell (p := ⟨B10, 3, none⟩) hl10_3).trans q10_n_3, (HB1.out.cell (p := ⟨B10, 4, none⟩) hl10_3).trans q10_n_4⟩
        have b_0 : x1.cell? ⟨w10.heap.size, 0, none⟩ = some (.int .i64 0) := by rw [← hx1]; simp [go_sem]
        have b_1 : x1.cell? ⟨w10.heap.size, 1, none⟩ = some (.slice none 0 0) := by rw [← hx1]; simp [go_sem]
        have b_2 : x1.cell? ⟨w10.heap.size, 2, none⟩ = some (.bool false) := by rw [← hx1]; simp [go_sem]
        have b_3 : x1.cell? ⟨w10.heap.size, 3, none⟩ = some (.string ⟨#[]⟩) := by rw [← hx1]; simp [go_sem]
        have b_4 : x1.cell? ⟨w10.heap.size, 4, none⟩ = some (.string ⟨#[]⟩) := by rw [← hx1]; simp [go_sem]
        have bf : ∀ o, x1.frozen? ⟨w10.heap.size, o, none⟩ = false := by intro o; rw [← hx1]; simp [go_sem]
        rw [hx1]
        clear hx1
        refine hK.out _ _ (Or.inr hS1) ?_
        clear hK K'
        try simp only [Act.put, List.getElem_toArray, List.getElem_cons_zero, List.getElem_cons_succ, List.setIfInBounds_toArray, List.set_cons_zero, List.set_cons_succ]
        refine wpAnyG_one (i := 4) (by kernel_rfl) rfl hS1 (fun K' hK => ?_)
        simp only [List.getElem_toArray, List.getElem_cons_zero, List.getElem_cons_succ]
        go_simp
        go_at_call 8
        refine (pbI a10 c10 R1.1 (some ⟨gb, k, none⟩) (cap - k) (n - k) (l.drop k) R2 (x1) HOK1.out HLD.out (by omega) HR2.out (HM10.out.below HB1.out).sl (by simpa using Sl.dropK (HSB10.out.below HB1.out).sl k) (HUT.out.keep (HB10.out.trans (HB1.out.mono (by have := HB10.out.size; omega))))).mono ?_
        rintro e x3 ⟨a, c, al, cl, rs, rfl, hfa, hro, hnd, hrs, hb⟩
        have HBX : Hid (Below w10.heap.size w10 x3) := Lib.hid (HB1.out.trans (hb.mono (by omega)))
        have hz3 := hb.size
        have HFA := Lib.hid hfa
        have HRO := Lib.hid hro
        have HND := Lib.hid hnd
        have HRSX := Lib.hid hrs
        have hS3 : x3.cell? ⟨B10, 0, none⟩ = some (.int .i64 R1.1.state) ∧ x3.cell? ⟨B10, 1, none⟩ = some (.slice a10 R1.1.args.length c10) ∧ x3.cell? ⟨B10, 2, none⟩ = some (.bool R1.1.priv) ∧ x3.cell? ⟨B10, 3, none⟩ = some (.string R1.1.text) ∧ x3.cell? ⟨B10, 4, none⟩ = some (.string R1.1.utf) := ⟨(HBX.out.cell (p := ⟨B10, 0, none⟩) hl10_3).trans q10_n_0, (HBX.out.cell (p := ⟨B10, 1, none⟩) hl10_3).trans q10_n_1, (HBX.out.cell (p := ⟨B10, 2, none⟩) hl10_3).trans q10_n_2, (HBX.out.cell (p := ⟨B10, 3, none⟩) hl10_3).trans q10_n_3, (HBX.out.cell (p := ⟨B10, 4, none⟩) hl10_3).trans q10_n_4⟩
        have q_0 : x3.cell? ⟨w10.heap.size, 0, none⟩ = some (.int .i64 0) := (hb.cell (p := ⟨w10.heap.size, 0, none⟩) (by show w10.heap.size < _; omega)).trans b_0
        have q_1 : x3.cell? ⟨w10.heap.size, 1, none⟩ = some (.slice none 0 0) := (hb.cell (p := ⟨w10.heap.size, 1, none⟩) (by show w10.heap.size < _; omega)).trans b_1
        have q_2 : x3.cell? ⟨w10.heap.size, 2, none⟩ = some (.bool false) := (hb.cell (p := ⟨w10.heap.size, 2, none⟩) (by show w10.heap.size < _; omega)).trans b_2
        have q_3 : x3.cell? ⟨w10.heap.size, 3, none⟩ = some (.string ⟨#[]⟩) := (hb.cell (p := ⟨w10.heap.size, 3, none⟩) (by show w10.heap.size < _; omega)).trans b_3
        have q_4 : x3.cell? ⟨w10.heap.size, 4, none⟩ = some (.string ⟨#[]⟩) := (hb.cell (p := ⟨w10.heap.size, 4, none⟩) (by show w10.heap.size < _; omega)).trans b_4
        have qf : ∀ o, x3.frozen? ⟨w10.heap.size, o, none⟩ = false := fun o => (hb.frozen (p := ⟨w10.heap.size, o, none⟩) (by show w10.heap.size < _; omega)).trans (bf o)
        have hlq : w10.heap.size < x3.heap.size := by omega
        clear hfa hro hnd hrs hb
        refine hK.out _ _ (Or.inr hS3) ?_
        clear hK K'
        try simp only [Act.put, List.getElem_toArray, List.getElem_cons_zero, List.getElem_cons_succ, List.setIfInBounds_toArray, List.set_cons_zero, List.set_cons_succ]
        refine wpAnyG_takeW (i := 5) (v := ?_) rfl (by kernel_rfl) (by kernel_rfl) (by kernel_rfl) (fun _ _ _ h => h) (Or.inl ⟨by rfl, ?_⟩) ?_
        rotate_left
        · intro w' hSw
          go_simp
          try (with_reducible rfl)
        try simp only [Act.put, List.getElem_toArray, List.getElem_cons_zero, List.getElem_cons_succ, List.setIfInBounds_toArray, List.set_cons_zero, List.set_cons_succ]
        refine wpAnyG_takeW (i := 6) (v := ?_) rfl (by kernel_rfl) (by kernel_rfl) (by kernel_rfl) (fun _ _ _ h => h) (Or.inl ⟨by rfl, ?_⟩) ?_
        rotate_left
        · intro w' hSw
          go_simp
          try (with_reducible rfl)
        try simp only [Act.put, List.getElem_toArray, List.getElem_cons_zero, List.getElem_cons_succ, List.setIfInBounds_toArray, List.set_cons_zero, List.set_cons_succ]
        refine wpAnyG_takeW (i := 7) (v := ?_) rfl (by kernel_rfl) (by kernel_rfl) (by kernel_rfl) (fun _ _ _ h => h) (Or.inl ⟨by rfl, ?_⟩) ?_
        rotate_left
        · intro w' hSw
          go_simp
          try (with_reducible rfl)
        try simp only [Act.put, List.getElem_toArray, List.getElem_cons_zero, List.getElem_cons_succ, List.setIfInBounds_toArray, List.set_cons_zero, List.set_cons_succ]
        refine wpAnyG_takeW (i := 8) (v := ?_) rfl (by kernel_rfl) (by kernel_rfl) (by kernel_rfl) (fun _ _ _ h => h) (Or.inl ⟨by rfl, ?_⟩) ?_
        rotate_left
        · intro w' hSw
          go_simp
          try (with_reducible rfl)
        try simp only [Act.put, List.getElem_toArray, List.getElem_cons_zero, List.getElem_cons_succ, List.setIfInBounds_toArray, List.set_cons_zero, List.set_cons_succ]
        refine wpAnyG_one (i := 10) (by kernel_rfl) rfl hS3 (fun K' hK => ?_)
        simp only [List.getElem_toArray, List.getElem_cons_zero, List.getElem_cons_succ]
        go_simp
        refine hK.out _ _ (Or.inl rfl) ?_
        clear hK K'
        try simp only [Act.put, List.getElem_toArray, List.getElem_cons_zero, List.getElem_cons_succ, List.setIfInBounds_toArray, List.set_cons_zero, List.set_cons_succ]
        refine wpAnyG_takeW (i := 11) (v := ?_) rfl (by kernel_rfl) (by kernel_rfl) (by kernel_rfl) (fun _ _ _ h => h) (Or.inl ⟨by rfl, ?_⟩) ?_
        rotate_left
        · intro w' hSw
          go_simp
          try (with_reducible rfl)
        try simp only [Act.put, List.getElem_toArray, List.getElem_cons_zero, List.getElem_cons_succ, List.setIfInBounds_toArray, List.set_cons_zero, List.set_cons_succ]
        refine wpAnyG_takeW (i := 12) (v := ?_) rfl (by kernel_rfl) (by kernel_rfl) (by kernel_rfl) (fun _ _ _ h => h) (Or.inl ⟨by rfl, ?_⟩) ?_
        rotate_left
        · intro w' hSw
          go_simp
          try (with_reducible rfl)
        try simp only [Act.put, List.getElem_toArray, List.getElem_cons_zero, List.getElem_cons_succ, List.setIfInBounds_toArray, List.set_cons_zero, List.set_cons_succ]
        refine wpAnyG_done (by kernel_rfl) ?_ _
        go_wp2_with fail
        go_meet
        exact outB_store (Nat.le_refl _) hz1 hz3 HBX.out ⟨_, q_0⟩ ⟨_, q_1⟩ ⟨_, q_2⟩ ⟨_, q_3⟩ ⟨_, q_4⟩ HFA.out HRO.out HND.out HRSX.out rfl
    case rest =>
      obtain ⟨B11, a11, c11, al11, cl11, rs11, rfl, rfl, rfl, hBl11, hBu11, q11_n_0, q11_n_1, q11_n_2, q11_n_3, q11_n_4, hfa11, hro11, hnd11, hnb11, hrs11, hb11⟩ := hcut
      obtain ⟨w11, hwc⟩ : ∃ x, x = wc := ⟨_, rfl⟩
      subst hwc
      have hz11 := hb11.size
      dsimp only at hfa11 hrs11 q11_n_0 q11_n_1 q11_n_2 q11_n_3 q11_n_4 ⊢
      have HRS11 : Hid (rs11.map (·.A) = R2.2) := Lib.hid hrs11
      have HT11 : Hid (SpP w11.heap.size w11 R2.1.args a11 al11 rs11) := Lib.hid (SpP.start (FreshIn.sl (enc := intE) (fun _ => rfl) hfa11) ⟨hro11.row.sl (fun _ => rfl), fun r hr => FreshIn.sl (enc := intE) (fun _ => rfl) (hro11.ow r hr)⟩)
      clear hrs11 hfa11 hro11 hnd11
      clear hnb11
      have HP111 := Lib.hid (HP110.out.below hb11)
      clear HP110
      have HFA11 := Lib.hid (HFA10.out.below hb11)
      clear HFA10
      have HFZ11 := Lib.hid (HFZ10.out.below hb11)
      clear HFZ10
      have HSB11 := Lib.hid (HSB10.out.below hb11)
      clear HSB10
      have HE411 := Lib.hid (HE410.out.below hb11)
      clear HE410
      have HM1011 := Lib.hid (HM10.out.below hb11)
      clear HM10
      have q11_0_0 : w11.cell? ⟨w1.heap.size, 0, none⟩ = some (.int .i64 p0.state) := by
        rw [hb11.cell (p := ⟨w1.heap.size, 0, none⟩) (show w1.heap.size < _ by (try simp) <;> (try omega))]
        exact q10_0_0
      have q11_0_1 : w11.cell? ⟨w1.heap.size, 1, none⟩ = some (.slice a1 p0.args.length c1) := by
        rw [hb11.cell (p := ⟨w1.heap.size, 1, none⟩) (show w1.heap.size < _ by (try simp) <;> (try omega))]
        exact q10_0_1
      have q11_0_2 : w11.cell? ⟨w1.heap.size, 2, none⟩ = some (.bool p0.priv) := by
        rw [hb11.cell (p := ⟨w1.heap.size, 2, none⟩) (show w1.heap.size < _ by (try simp) <;> (try omega))]
        exact q10_0_2
      have q11_0_3 : w11.cell? ⟨w1.heap.size, 3, none⟩ = some (.string p0.text) := by
        rw [hb11.cell (p := ⟨w1.heap.size, 3, none⟩) (show w1.heap.size < _ by (try simp) <;> (try omega))]
        exact q10_0_3
      have q11_0_4 : w11.cell? ⟨w1.heap.size, 4, none⟩ = some (.string p0.utf) := by
        rw [hb11.cell (p := ⟨w1.heap.size, 4, none⟩) (show w1.heap.size < _ by (try simp) <;> (try omega))]
        exact q10_0_4
      have hl11_0 : w1.heap.size < w11.heap.size := by omega
      clear q10_0_0 q10_0_1 q10_0_2 q10_0_3 q10_0_4
      have q11_1_0 : w11.cell? ⟨w4.heap.size, 0, none⟩ = some (.int .i64 R0.1.state) := by
        rw [hb11.cell (p := ⟨w4.heap.size, 0, none⟩) (show w4.heap.size < _ by (try simp) <;> (try omega))]
        exact q10_1_0
      have q11_1_1 : w11.cell? ⟨w4.heap.size, 1, none⟩ = some (.slice a4 R0.1.args.length c4) := by
        rw [hb11.cell (p := ⟨w4.heap.size, 1, none⟩) (show w4.heap.size < _ by (try simp) <;> (try omega))]
        exact q10_1_1
      have q11_1_2 : w11.cell? ⟨w4.heap.size, 2, none⟩ = some (.bool R0.1.priv) := by
        rw [hb11.cell (p := ⟨w4.heap.size, 2, none⟩) (show w4.heap.size < _ by (try simp) <;> (try omega))]
        exact q10_1_2
      have q11_1_3 : w11.cell? ⟨w4.heap.size, 3, none⟩ = some (.string R0.1.text) := by
        rw [hb11.cell (p := ⟨w4.heap.size, 3, none⟩) (show w4.heap.size < _ by (try simp) <;> (try omega))]
        exact q10_1_3
      have q11_1_4 : w11.cell? ⟨w4.heap.size, 4, none⟩ = some (.string R0.1.utf) := by
        rw [hb11.cell (p := ⟨w4.heap.size, 4, none⟩) (show w4.heap.size < _ by (try simp) <;> (try omega))]
        exact q10_1_4
      have hl11_1 : w4.heap.size < w11.heap.size := by omega
      clear q10_1_0 q10_1_1 q10_1_2 q10_1_3 q10_1_4
      have q11_2_0 : w11.cell? ⟨w5.heap.size, 0, none⟩ = some (.int .i64 R0.1.state) := by
        rw [hb11.cell (p := ⟨w5.heap.size, 0, none⟩) (show w5.heap.size < _ by (try simp) <;> (try omega))]
        exact q10_2_0
      have q11_2_1 : w11.cell? ⟨w5.heap.size, 1, none⟩ = some (.slice a5 R0.1.args.length c5) := by
        rw [hb11.cell (p := ⟨w5.heap.size, 1, none⟩) (show w5.heap.size < _ by (try simp) <;> (try omega))]
        exact q10_2_1
      have q11_2_2 : w11.cell? ⟨w5.heap.size, 2, none⟩ = some (.bool R0.1.priv) := by
        rw [hb11.cell (p := ⟨w5.heap.size, 2, none⟩) (show w5.heap.size < _ by (try simp) <;> (try omega))]
        exact q10_2_2
      have q11_2_3 : w11.cell? ⟨w5.heap.size, 3, none⟩ = some (.string R0.1.text) := by
        rw [hb11.cell (p := ⟨w5.heap.size, 3, none⟩) (show w5.heap.size < _ by (try simp) <;> (try omega))]
        exact q10_2_3
      have q11_2_4 : w11.cell? ⟨w5.heap.size, 4, none⟩ = some (.string R0.1.utf) := by
        rw [hb11.cell (p := ⟨w5.heap.size, 4, none⟩) (show w5.heap.size < _ by (try simp) <;> (try omega))]
        exact q10_2_4
      have hl11_2 : w5.heap.size < w11.heap.size := by omega
      clear q10_2_0 q10_2_1 q10_2_2 q10_2_3 q10_2_4
      have q11_3_0 : w11.cell? ⟨B10, 0, none⟩ = some (.int .i64 R1.1.state) := by
        rw [hb11.cell (p := ⟨B10, 0, none⟩) (show B10 < _ by (try simp) <;> (try omega))]
        exact q10_n_0
      have q11_3_1 : w11.cell? ⟨B10, 1, none⟩ = some (.slice a10 R1.1.args.length c10) := by
        rw [hb11.cell (p := ⟨B10, 1, none⟩) (show B10 < _ by (try simp) <;> (try omega))]
        exact q10_n_1
      have q11_3_2 : w11.cell? ⟨B10, 2, none⟩ = some (.bool R1.1.priv) := by
        rw [hb11.cell (p := ⟨B10, 2, none⟩) (show B10 < _ by (try simp) <;> (try omega))]
        exact q10_n_2
      have q11_3_3 : w11.cell? ⟨B10, 3, none⟩ = some (.string R1.1.text) := by
        rw [hb11.cell (p := ⟨B10, 3, none⟩) (show B10 < _ by (try simp) <;> (try omega))]
        exact q10_n_3
      have q11_3_4 : w11.cell? ⟨B10, 4, none⟩ = some (.string R1.1.utf) := by
        rw [hb11.cell (p := ⟨B10, 4, none⟩) (show B10 < _ by (try simp) <;> (try omega))]
        exact q10_n_4
      have hl11_3 : B10 < w11.heap.size := by omega
      clear q10_n_0 q10_n_1 q10_n_2 q10_n_3 q10_n_4
      have HB11 : Hid (Below w.heap.size w w11) := HB10.out.trans (hb11.mono (by (try simp) <;> (try omega)))
      clear hb11
      have hl11_4 : B11 < w11.heap.size := hBu11
      have HE1 : Hid (R0.1 = R2.1) := Lib.hid (by rw [HSPL.out])
      have HE2 : Hid (R0.2 = R1.2 ++ R2.2) := Lib.hid (by rw [HSPL.out])
      go_wp2_with fail
      refine (sameParser_eq a11 a4 c11 c4 R2.1 R0.1 _ HE1.out HT11.out.sl HE411.out.sl (by rw [← HE1.out]; have := HSZ0.out.args; dsimp only at this; omega)).mono ?_
      rintro e w12 ⟨rfl, hb12⟩
      have hz12 := hb12.size
      have HP112 := Lib.hid (HP111.out.below hb12)
      clear HP111
      have HFA12 := Lib.hid (HFA11.out.below hb12)
      clear HFA11
      have HFZ12 := Lib.hid (HFZ11.out.below hb12)
      clear HFZ11
      have HSB12 := Lib.hid (HSB11.out.below hb12)
      clear HSB11
      have HE412 := Lib.hid (HE411.out.below hb12)
      clear HE411
      have HM1012 := Lib.hid (HM1011.out.below hb12)
      clear HM1011
      have HT1112 := Lib.hid (HT11.out.below hb12)
      clear HT11
      have q12_0_0 : w12.cell? ⟨w1.heap.size, 0, none⟩ = some (.int .i64 p0.state) := by
        rw [hb12.cell (p := ⟨w1.heap.size, 0, none⟩) (show w1.heap.size < _ by (try simp) <;> (try omega))]
        exact q11_0_0
      have q12_0_1 : w12.cell? ⟨w1.heap.size, 1, none⟩ = some (.slice a1 p0.args.length c1) := by
        rw [hb12.cell (p := ⟨w1.heap.size, 1, none⟩) (show w1.heap.size < _ by (try simp) <;> (try omega))]
        exact q11_0_1
      have q12_0_2 : w12.cell? ⟨w1.heap.size, 2, none⟩ = some (.bool p0.priv) := by
        rw [hb12.cell (p := ⟨w1.heap.size, 2, none⟩) (show w1.heap.size < _ by (try simp) <;> (try omega))]
        exact q11_0_2
      have q12_0_3 : w12.cell? ⟨w1.heap.size, 3, none⟩ = some (.string p0.text) := by
        rw [hb12.cell (p := ⟨w1.heap.size, 3, none⟩) (show w1.heap.size < _ by (try simp) <;> (try omega))]
        exact q11_0_3
      have q12_0_4 : w12.cell? ⟨w1.heap.size, 4, none⟩ = some (.string p0.utf) := by
        rw [hb12.cell (p := ⟨w1.heap.size, 4, none⟩) (show w1.heap.size < _ by (try simp) <;> (try omega))]
        exact q11_0_4
      have hl12_0 : w1.heap.size < w12.heap.size := by omega
      clear q11_0_0 q11_0_1 q11_0_2 q11_0_3 q11_0_4
      have q12_1_0 : w12.cell? ⟨w4.heap.size, 0, none⟩ = some (.int .i64 R0.1.state) := by
        rw [hb12.cell (p := ⟨w4.heap.size, 0, none⟩) (show w4.heap.size < _ by (try simp) <;> (try omega))]
        exact q11_1_0
      have q12_1_1 : w12.cell? ⟨w4.heap.size, 1, none⟩ = some (.slice a4 R0.1.args.length c4) := by
        rw [hb12.cell (p := ⟨w4.heap.size, 1, none⟩) (show w4.heap.size < _ by (try simp) <;> (try omega))]
        exact q11_1_1
      have q12_1_2 : w12.cell? ⟨w4.heap.size, 2, none⟩ = some (.bool R0.1.priv) := by
        rw [hb12.cell (p := ⟨w4.heap.size, 2, none⟩) (show w4.heap.size < _ by (try simp) <;> (try omega))]
        exact q11_1_2
      have q12_1_3 : w12.cell? ⟨w4.heap.size, 3, none⟩ = some (.string R0.1.text) := by
        rw [hb12.cell (p := ⟨w4.heap.size, 3, none⟩) (show w4.heap.size < _ by (try simp) <;> (try omega))]
        exact q11_1_3
      have q12_1_4 : w12.cell? ⟨w4.heap.size, 4, none⟩ = some (.string R0.1.utf) := by
        rw [hb12.cell (p := ⟨w4.heap.size, 4, none⟩) (show w4.heap.size < _ by (try simp) <;> (try omega))]
        exact q11_1_4
      have hl12_1 : w4.heap.size < w12.heap.size := by omega
      clear q11_1_0 q11_1_1 q11_1_2 q11_1_3 q11_1_4
      have q12_2_0 : w12.cell? ⟨w5.heap.size, 0, none⟩ = some (.int .i64 R0.1.state) := by
        rw [hb12.cell (p := ⟨w5.heap.size, 0, none⟩) (show w5.heap.size < _ by (try simp) <;> (try omega))]
        exact q11_2_0
      have q12_2_1 : w12.cell? ⟨w5.heap.size, 1, none⟩ = some (.slice a5 R0.1.args.length c5) := by
        rw [hb12.cell (p := ⟨w5.heap.size, 1, none⟩) (show w5.heap.size < _ by (try simp) <;> (try omega))]
        exact q11_2_1
      have q12_2_2 : w12.cell? ⟨w5.heap.size, 2, none⟩ = some (.bool R0.1.priv) := by
        rw [hb12.cell (p := ⟨w5.heap.size, 2, none⟩) (show w5.heap.size < _ by (try simp) <;> (try omega))]
        exact q11_2_2
      have q12_2_3 : w12.cell? ⟨w5.heap.size, 3, none⟩ = some (.string R0.1.text) := by
        rw [hb12.cell (p := ⟨w5.heap.size, 3, none⟩) (show w5.heap.size < _ by (try simp) <;> (try omega))]
        exact q11_2_3
      have q12_2_4 : w12.cell? ⟨w5.heap.size, 4, none⟩ = some (.string R0.1.utf) := by
        rw [hb12.cell (p := ⟨w5.heap.size, 4, none⟩) (show w5.heap.size < _ by (try simp) <;> (try omega))]
        exact q11_2_4
      have hl12_2 : w5.heap.size < w12.heap.size := by omega
      clear q11_2_0 q11_2_1 q11_2_2 q11_2_3 q11_2_4
      have q12_3_0 : w12.cell? ⟨B10, 0, none⟩ = some (.int .i64 R1.1.state) := by
        rw [hb12.cell (p := ⟨B10, 0, none⟩) (show B10 < _ by (try simp) <;> (try omega))]
        exact q11_3_0
      have q12_3_1 : w12.cell? ⟨B10, 1, none⟩ = some (.slice a10 R1.1.args.length c10) := by
        rw [hb12.cell (p := ⟨B10, 1, none⟩) (show B10 < _ by (try simp) <;> (try omega))]
        exact q11_3_1
      have q12_3_2 : w12.cell? ⟨B10, 2, none⟩ = some (.bool R1.1.priv) := by
        rw [hb12.cell (p := ⟨B10, 2, none⟩) (show B10 < _ by (try simp) <;> (try omega))]
        exact q11_3_2
      have q12_3_3 : w12.cell? ⟨B10, 3, none⟩ = some (.string R1.1.text) := by
        rw [hb12.cell (p := ⟨B10, 3, none⟩) (show B10 < _ by (try simp) <;> (try omega))]
        exact q11_3_3
      have q12_3_4 : w12.cell? ⟨B10, 4, none⟩ = some (.string R1.1.utf) := by
        rw [hb12.cell (p := ⟨B10, 4, none⟩) (show B10 < _ by (try simp) <;> (try omega))]
        exact q11_3_4
      have hl12_3 : B10 < w12.heap.size := by omega
      clear q11_3_0 q11_3_1 q11_3_2 q11_3_3 q11_3_4
      have q12_4_0 : w12.cell? ⟨B11, 0, none⟩ = some (.int .i64 R2.1.state) := by
        rw [hb12.cell (p := ⟨B11, 0, none⟩) (show B11 < _ by (try simp) <;> (try omega))]
        exact q11_n_0
      have q12_4_1 : w12.cell? ⟨B11, 1, none⟩ = some (.slice a11 R2.1.args.length c11) := by
        rw [hb12.cell (p := ⟨B11, 1, none⟩) (show B11 < _ by (try simp) <;> (try omega))]
        exact q11_n_1
      have q12_4_2 : w12.cell? ⟨B11, 2, none⟩ = some (.bool R2.1.priv) := by
        rw [hb12.cell (p := ⟨B11, 2, none⟩) (show B11 < _ by (try simp) <;> (try omega))]
        exact q11_n_2
      have q12_4_3 : w12.cell? ⟨B11, 3, none⟩ = some (.string R2.1.text) := by
        rw [hb12.cell (p := ⟨B11, 3, none⟩) (show B11 < _ by (try simp) <;> (try omega))]
        exact q11_n_3
      have q12_4_4 : w12.cell? ⟨B11, 4, none⟩ = some (.string R2.1.utf) := by
        rw [hb12.cell (p := ⟨B11, 4, none⟩) (show B11 < _ by (try simp) <;> (try omega))]
        exact q11_n_4
      have hl12_4 : B11 < w12.heap.size := by omega
      clear q11_n_0 q11_n_1 q11_n_2 q11_n_3 q11_n_4
      have HB12 : Hid (Below w.heap.size w w12) := HB11.out.trans (hb12.mono (by (try simp) <;> (try omega)))
      clear hb12
      have hln10 : rs10.length ≤ 1048576 := by have h1 := HSZ0.out.acts; have h2 := congrArg List.length HRS10.out; have h3 := congrArg List.length HE2.out; simp only [List.length_append, List.length_map] at h2 h3; dsimp only at h1; omega
      have hln11 : rs11.length ≤ 1048576 := by have h1 := HSZ0.out.acts; have h2 := congrArg List.length HRS11.out; have h3 := congrArg List.length HE2.out; simp only [List.length_append, List.length_map] at h2 h3; dsimp only at h1; omega
      have HZA : Hid (FreshIn actE 46 5 w12.heap.size (w12.alloc (.cells #[] 46)).heap.size (.slice (some ⟨w12.heap.size, 0, none⟩) 0 0) ([] : List ActA) (w12.alloc (.cells #[] 46))) := Lib.hid (fresh_zeroA _ _ _ rfl (Nat.le_refl _))
      have HSM : Hid (Src Tryd.prog 5 28 (.slice al10 rs10.length cl10) rs10.length (rs10.flatMap actE) (w12.alloc (.cells #[] 46))) := Lib.hid (Src.ofSl (enc := actE) (sz := 5) Tryd.underlying28 (fun _ => rfl) actOne (HM1012.out.alloc _).acts.1 _)
      go_wp2_with (at_builtin; refine wpList_append_gd (.tmp 107) (.tmp 108) 28 28 w12.heap.size 46 iA (.agg #[.int .i64 0, .int .i64 0, .bool false, .slice none 0 0, .string ⟨#[]⟩]) 5 64 Tryd.underlying28 hiA hA0 hA1 hA2 rfl (by decide) (some ⟨w12.heap.size, 0, none⟩) 0 0 ([] : List ActA) HZA.out (.slice al10 rs10.length cl10) rs10 HSM.out (by simp; omega) (by simp) rfl rfl rfl rfl ?_)
      intro ax cx wx ux hux hfx hcx hkx
      have HUX : Hid (ux = rs10) := Lib.hid (by simpa using hux.out)
      have HFX := Lib.hid hfx
      have hbx : Below w12.heap.size w12 wx := (Ch.below ((Ch.refl.alloc _).trans hcx (fun i hi => .inl hi)) (Nat.le_refl _) (fun i hi => by simp [blkOf] at hi; omega))
      have HBX := Lib.hid hbx
      have HST : Hid (Src Tryd.prog 5 28 (.slice al11 rs11.length cl11) rs11.length (rs11.flatMap actE) wx) := Lib.hid (Src.ofSl (enc := actE) (sz := 5) Tryd.underlying28 (fun _ => rfl) actOne (HT1112.out.below hbx).acts.1 _)
      have hux2 : ux.length ≤ 1048576 := by rw [HUX.out]; exact hln10
      clear hux hfx hcx hkx
      go_wp2_with (at_builtin; refine wpList_append_gd (.tmp 109) (.tmp 110) 28 28 w12.heap.size 46 iA (.agg #[.int .i64 0, .int .i64 0, .bool false, .slice none 0 0, .string ⟨#[]⟩]) 5 64 Tryd.underlying28 hiA hA0 hA1 hA2 rfl (by decide) ax ux.length cx ux HFX.out (.slice al11 rs11.length cl11) rs11 HST.out (by omega) hbx.size rfl rfl rfl rfl ?_)
      intro ay cy wy uy huy hfy hcy hky
      have HUY : Hid (uy = rs10 ++ rs11) := Lib.hid (by rw [huy.out, HUX.out])
      have hfxb := FreshIn.blks HFX.out
      have hby : Below w12.heap.size w12 wy := hbx.trans (hcy.below hbx.size (fun i hi => (hfxb i hi).1))
      have HACY : Hid (ActS wy ay uy) := Lib.hid ⟨hfy.sl (fun _ => rfl), fun r hr => by
        rw [HUY.out] at hr
        rcases List.mem_append.1 hr with hr | hr
        · exact (HM1012.out.below hby).acts.2 r hr
        · exact (HT1112.out.below hby).acts.2 r hr⟩
      have HMY : Hid (rs4.map (·.A) = uy.map (·.A)) := Lib.hid (by rw [HUY.out, HRS4.out, HE2.out, List.map_append, HRS10.out, HRS11.out])
      have hmx := hby.size
      clear huy hfy hcy hky hfxb hux2
      obtain ⟨w13, hwn⟩ : ∃ x, x = wy := ⟨_, rfl⟩
      subst hwn
      have hb13 := hby
      clear HM1012
      skip
      have hz13 := hb13.size
      clear HZA HSM HST HBX hbx hby hmx
      have HP113 := Lib.hid (HP112.out.below hb13)
      clear HP112
      have HFA13 := Lib.hid (HFA12.out.below hb13)
      clear HFA12
      have HFZ13 := Lib.hid (HFZ12.out.below hb13)
      clear HFZ12
      have HSB13 := Lib.hid (HSB12.out.below hb13)
      clear HSB12
      have HE413 := Lib.hid (HE412.out.below hb13)
      clear HE412
      have HT1113 := Lib.hid (HT1112.out.below hb13)
      clear HT1112
      have q13_0_0 : w13.cell? ⟨w1.heap.size, 0, none⟩ = some (.int .i64 p0.state) := by
        rw [hb13.cell (p := ⟨w1.heap.size, 0, none⟩) (show w1.heap.size < _ by (try simp) <;> (try omega))]
        exact q12_0_0
      have q13_0_1 : w13.cell? ⟨w1.heap.size, 1, none⟩ = some (.slice a1 p0.args.length c1) := by
        rw [hb13.cell (p := ⟨w1.heap.size, 1, none⟩) (show w1.heap.size < _ by (try simp) <;> (try omega))]
        exact q12_0_1
      have q13_0_2 : w13.cell? ⟨w1.heap.size, 2, none⟩ = some (.bool p0.priv) := by
        rw [hb13.cell (p := ⟨w1.heap.size, 2, none⟩) (show w1.heap.size < _ by (try simp) <;> (try omega))]
        exact q12_0_2
      have q13_0_3 : w13.cell? ⟨w1.heap.size, 3, none⟩ = some (.string p0.text) := by
        rw [hb13.cell (p := ⟨w1.heap.size, 3, none⟩) (show w1.heap.size < _ by (try simp) <;> (try omega))]
        exact q12_0_3
      have q13_0_4 : w13.cell? ⟨w1.heap.size, 4, none⟩ = some (.string p0.utf) := by
        rw [hb13.cell (p := ⟨w1.heap.size, 4, none⟩) (show w1.heap.size < _ by (try simp) <;> (try omega))]
        exact q12_0_4
      have hl13_0 : w1.heap.size < w13.heap.size := by omega
      clear q12_0_0 q12_0_1 q12_0_2 q12_0_3 q12_0_4
      have q13_1_0 : w13.cell? ⟨w4.heap.size, 0, none⟩ = some (.int .i64 R0.1.state) := by
        rw [hb13.cell (p := ⟨w4.heap.size, 0, none⟩) (show w4.heap.size < _ by (try simp) <;> (try omega))]
        exact q12_1_0
      have q13_1_1 : w13.cell? ⟨w4.heap.size, 1, none⟩ = some (.slice a4 R0.1.args.length c4) := by
        rw [hb13.cell (p := ⟨w4.heap.size, 1, none⟩) (show w4.heap.size < _ by (try simp) <;> (try omega))]
        exact q12_1_1
      have q13_1_2 : w13.cell? ⟨w4.heap.size, 2, none⟩ = some (.bool R0.1.priv) := by
        rw [hb13.cell (p := ⟨w4.heap.size, 2, none⟩) (show w4.heap.size < _ by (try simp) <;> (try omega))]
        exact q12_1_2
      have q13_1_3 : w13.cell? ⟨w4.heap.size, 3, none⟩ = some (.string R0.1.text) := by
        rw [hb13.cell (p := ⟨w4.heap.size, 3, none⟩) (show w4.heap.size < _ by (try simp) <;> (try omega))]
        exact q12_1_3
      have q13_1_4 : w13.cell? ⟨w4.heap.size, 4, none⟩ = some (.string R0.1.utf) := by
        rw [hb13.cell (p := ⟨w4.heap.size, 4, none⟩) (show w4.heap.size < _ by (try simp) <;> (try omega))]
        exact q12_1_4
      have hl13_1 : w4.heap.size < w13.heap.size := by omega
      clear q12_1_0 q12_1_1 q12_1_2 q12_1_3 q12_1_4
      have q13_2_0 : w13.cell? ⟨w5.heap.size, 0, none⟩ = some (.int .i64 R0.1.state) := by
        rw [hb13.cell (p := ⟨w5.heap.size, 0, none⟩) (show w5.heap.size < _ by (try simp) <;> (try omega))]
        exact q12_2_0
      have q13_2_1 : w13.cell? ⟨w5.heap.size, 1, none⟩ = some (.slice a5 R0.1.args.length c5) := by
        rw [hb13.cell (p := ⟨w5.heap.size, 1, none⟩) (show w5.heap.size < _ by (try simp) <;> (try omega))]
        exact q12_2_1
      have q13_2_2 : w13.cell? ⟨w5.heap.size, 2, none⟩ = some (.bool R0.1.priv) := by
        rw [hb13.cell (p := ⟨w5.heap.size, 2, none⟩) (show w5.heap.size < _ by (try simp) <;> (try omega))]
        exact q12_2_2
      have q13_2_3 : w13.cell? ⟨w5.heap.size, 3, none⟩ = some (.string R0.1.text) := by
        rw [hb13.cell (p := ⟨w5.heap.size, 3, none⟩) (show w5.heap.size < _ by (try simp) <;> (try omega))]
        exact q12_2_3
      have q13_2_4 : w13.cell? ⟨w5.heap.size, 4, none⟩ = some (.string R0.1.utf) := by
        rw [hb13.cell (p := ⟨w5.heap.size, 4, none⟩) (show w5.heap.size < _ by (try simp) <;> (try omega))]
        exact q12_2_4
      have hl13_2 : w5.heap.size < w13.heap.size := by omega
      clear q12_2_0 q12_2_1 q12_2_2 q12_2_3 q12_2_4
      have q13_3_0 : w13.cell? ⟨B10, 0, none⟩ = some (.int .i64 R1.1.state) := by
        rw [hb13.cell (p := ⟨B10, 0, none⟩) (show B10 < _ by (try simp) <;> (try omega))]
        exact q12_3_0
      have q13_3_1 : w13.cell? ⟨B10, 1, none⟩ = some (.slice a10 R1.1.args.length c10) := by
        rw [hb13.cell (p := ⟨B10, 1, none⟩) (show B10 < _ by (try simp) <;> (try omega))]
        exact q12_3_1
      have q13_3_2 : w13.cell? ⟨B10, 2, none⟩ = some (.bool R1.1.priv) := by
        rw [hb13.cell (p := ⟨B10, 2, none⟩) (show B10 < _ by (try simp) <;> (try omega))]
        exact q12_3_2
      have q13_3_3 : w13.cell? ⟨B10, 3, none⟩ = some (.string R1.1.text) := by
        rw [hb13.cell (p := ⟨B10, 3, none⟩) (show B10 < _ by (try simp) <;> (try omega))]
        exact q12_3_3
      have q13_3_4 : w13.cell? ⟨B10, 4, none⟩ = some (.string R1.1.utf) := by
        rw [hb13.cell (p := ⟨B10, 4, none⟩) (show B10 < _ by (try simp) <;> (try omega))]
        exact q12_3_4
      have hl13_3 : B10 < w13.heap.size := by omega
      clear q12_3_0 q12_3_1 q12_3_2 q12_3_3 q12_3_4
      have q13_4_0 : w13.cell? ⟨B11, 0, none⟩ = some (.int .i64 R2.1.state) := by
        rw [hb13.cell (p := ⟨B11, 0, none⟩) (show B11 < _ by (try simp) <;> (try omega))]
        exact q12_4_0
      have q13_4_1 : w13.cell? ⟨B11, 1, none⟩ = some (.slice a11 R2.1.args.length c11) := by
        rw [hb13.cell (p := ⟨B11, 1, none⟩) (show B11 < _ by (try simp) <;> (try omega))]
        exact q12_4_1
      have q13_4_2 : w13.cell? ⟨B11, 2, none⟩ = some (.bool R2.1.priv) := by
        rw [hb13.cell (p := ⟨B11, 2, none⟩) (show B11 < _ by (try simp) <;> (try omega))]
        exact q12_4_2
      have q13_4_3 : w13.cell? ⟨B11, 3, none⟩ = some (.string R2.1.text) := by
        rw [hb13.cell (p := ⟨B11, 3, none⟩) (show B11 < _ by (try simp) <;> (try omega))]
        exact q12_4_3
      have q13_4_4 : w13.cell? ⟨B11, 4, none⟩ = some (.string R2.1.utf) := by
        rw [hb13.cell (p := ⟨B11, 4, none⟩) (show B11 < _ by (try simp) <;> (try omega))]
        exact q12_4_4
      have hl13_4 : B11 < w13.heap.size := by omega
      clear q12_4_0 q12_4_1 q12_4_2 q12_4_3 q12_4_4
      have HB13 : Hid (Below w.heap.size w w13) := HB12.out.trans (hb13.mono (by (try simp) <;> (try omega)))
      clear hb13
      go_wp2_with fail
      refine (sameActions_same ay al4 cy cl4 uy rs4 _ HACY.out HE413.out.acts HMY.out (fun r hr => HSZ0.out.ar (by rw [← HMY.out]; exact HRS4.out) r hr) (by rw [← mapA_len HMY.out]; exact HSZ0.out.ln HRS4.out)).mono ?_
      rintro e w14 ⟨rfl, hb14⟩
      have hz14 := hb14.size
      have HP114 := Lib.hid (HP113.out.below hb14)
      clear HP113
      have HFA14 := Lib.hid (HFA13.out.below hb14)
      clear HFA13
      have HFZ14 := Lib.hid (HFZ13.out.below hb14)
      clear HFZ13
      have HSB14 := Lib.hid (HSB13.out.below hb14)
      clear HSB13
      have HE414 := Lib.hid (HE413.out.below hb14)
      clear HE413
      have HT1114 := Lib.hid (HT1113.out.below hb14)
      clear HT1113
      have q14_0_0 : w14.cell? ⟨w1.heap.size, 0, none⟩ = some (.int .i64 p0.state) := by
        rw [hb14.cell (p := ⟨w1.heap.size, 0, none⟩) (show w1.heap.size < _ by (try simp) <;> (try omega))]
        exact q13_0_0
      have q14_0_1 : w14.cell? ⟨w1.heap.size, 1, none⟩ = some (.slice a1 p0.args.length c1) := by
        rw [hb14.cell (p := ⟨w1.heap.size, 1, none⟩) (show w1.heap.size < _ by (try simp) <;> (try omega))]
        exact q13_0_1
      have q14_0_2 : w14.cell? ⟨w1.heap.size, 2, none⟩ = some (.bool p0.priv) := by
        rw [hb14.cell (p := ⟨w1.heap.size, 2, none⟩) (show w1.heap.size < _ by (try simp) <;> (try omega))]
        exact q13_0_2
      have q14_0_3 : w14.cell? ⟨w1.heap.size, 3, none⟩ = some (.string p0.text) := by
        rw [hb14.cell (p := ⟨w1.heap.size, 3, none⟩) (show w1.heap.size < _ by (try simp) <;> (try omega))]
        exact q13_0_3
      have q14_0_4 : w14.cell? ⟨w1.heap.size, 4, none⟩ = some (.string p0.utf) := by
        rw [hb14.cell (p := ⟨w1.heap.size, 4, none⟩) (show w1.heap.size < _ by (try simp) <;> (try omega))]
        exact q13_0_4
      have hl14_0 : w1.heap.size < w14.heap.size := by omega
      clear q13_0_0 q13_0_1 q13_0_2 q13_0_3 q13_0_4
      have q14_1_0 : w14.cell? ⟨w4.heap.size, 0, none⟩ = some (.int .i64 R0.1.state) := by
        rw [hb14.cell (p := ⟨w4.heap.size, 0, none⟩) (show w4.heap.size < _ by (try simp) <;> (try omega))]
        exact q13_1_0
      have q14_1_1 : w14.cell? ⟨w4.heap.size, 1, none⟩ = some (.slice a4 R0.1.args.length c4) := by
        rw [hb14.cell (p := ⟨w4.heap.size, 1, none⟩) (show w4.heap.size < _ by (try simp) <;> (try omega))]
        exact q13_1_1
      have q14_1_2 : w14.cell? ⟨w4.heap.size, 2, none⟩ = some (.bool R0.1.priv) := by
        rw [hb14.cell (p := ⟨w4.heap.size, 2, none⟩) (show w4.heap.size < _ by (try simp) <;> (try omega))]
        exact q13_1_2
      have q14_1_3 : w14.cell? ⟨w4.heap.size, 3, none⟩ = some (.string R0.1.text) := by
        rw [hb14.cell (p := ⟨w4.heap.size, 3, none⟩) (show w4.heap.size < _ by (try simp) <;> (try omega))]
        exact q13_1_3
      have q14_1_4 : w14.cell? ⟨w4.heap.size, 4, none⟩ = some (.string R0.1.utf) := by
        rw [hb14.cell (p := ⟨w4.heap.size, 4, none⟩) (show w4.heap.size < _ by (try simp) <;> (try omega))]
        exact q13_1_4
      have hl14_1 : w4.heap.size < w14.heap.size := by omega
      clear q13_1_0 q13_1_1 q13_1_2 q13_1_3 q13_1_4
      have q14_2_0 : w14.cell? ⟨w5.heap.size, 0, none⟩ = some (.int .i64 R0.1.state) := by
        rw [hb14.cell (p := ⟨w5.heap.size, 0, none⟩) (show w5.heap.size < _ by (try simp) <;> (try omega))]
        exact q13_2_0
      have q14_2_1 : w14.cell? ⟨w5.heap.size, 1, none⟩ = some (.slice a5 R0.1.args.length c5) := by
        rw [hb14.cell (p := ⟨w5.heap.size, 1, none⟩) (show w5.heap.size < _ by (try simp) <;> (try omega))]
        exact q13_2_1
      have q14_2_2 : w14.cell? ⟨w5.heap.size, 2, none⟩ = some (.bool R0.1.priv) := by
        rw [hb14.cell (p := ⟨w5.heap.size, 2, none⟩) (show w5.heap.size < _ by (try simp) <;> (try omega))]
        exact q13_2_2
      have q14_2_3 : w14.cell? ⟨w5.heap.size, 3, none⟩ = some (.string R0.1.text) := by
        rw [hb14.cell (p := ⟨w5.heap.size, 3, none⟩) (show w5.heap.size < _ by (try simp) <;> (try omega))]
        exact q13_2_3
      have q14_2_4 : w14.cell? ⟨w5.heap.size, 4, none⟩ = some (.string R0.1.utf) := by
        rw [hb14.cell (p := ⟨w5.heap.size, 4, none⟩) (show w5.heap.size < _ by (try simp) <;> (try omega))]
        exact q13_2_4
      have hl14_2 : w5.heap.size < w14.heap.size := by omega
      clear q13_2_0 q13_2_1 q13_2_2 q13_2_3 q13_2_4
      have q14_3_0 : w14.cell? ⟨B10, 0, none⟩ = some (.int .i64 R1.1.state) := by
        rw [hb14.cell (p := ⟨B10, 0, none⟩) (show B10 < _ by (try simp) <;> (try omega))]
        exact q13_3_0
      have q14_3_1 : w14.cell? ⟨B10, 1, none⟩ = some (.slice a10 R1.1.args.length c10) := by
        rw [hb14.cell (p := ⟨B10, 1, none⟩) (show B10 < _ by (try simp) <;> (try omega))]
        exact q13_3_1
      have q14_3_2 : w14.cell? ⟨B10, 2, none⟩ = some (.bool R1.1.priv) := by
        rw [hb14.cell (p := ⟨B10, 2, none⟩) (show B10 < _ by (try simp) <;> (try omega))]
        exact q13_3_2
      have q14_3_3 : w14.cell? ⟨B10, 3, none⟩ = some (.string R1.1.text) := by
        rw [hb14.cell (p := ⟨B10, 3, none⟩) (show B10 < _ by (try simp) <;> (try omega))]
        exact q13_3_3
      have q14_3_4 : w14.cell? ⟨B10, 4, none⟩ = some (.string R1.1.utf) := by
        rw [hb14.cell (p := ⟨B10, 4, none⟩) (show B10 < _ by (try simp) <;> (try omega))]
        exact q13_3_4
      have hl14_3 : B10 < w14.heap.size := by omega
      clear q13_3_0 q13_3_1 q13_3_2 q13_3_3 q13_3_4
      have q14_4_0 : w14.cell? ⟨B11, 0, none⟩ = some (.int .i64 R2.1.state) := by
        rw [hb14.cell (p := ⟨B11, 0, none⟩) (show B11 < _ by (try simp) <;> (try omega))]
        exact q13_4_0
      have q14_4_1 : w14.cell? ⟨B11, 1, none⟩ = some (.slice a11 R2.1.args.length c11) := by
        rw [hb14.cell (p := ⟨B11, 1, none⟩) (show B11 < _ by (try simp) <;> (try omega))]
        exact q13_4_1
      have q14_4_2 : w14.cell? ⟨B11, 2, none⟩ = some (.bool R2.1.priv) := by
        rw [hb14.cell (p := ⟨B11, 2, none⟩) (show B11 < _ by (try simp) <;> (try omega))]
        exact q13_4_2
      have q14_4_3 : w14.cell? ⟨B11, 3, none⟩ = some (.string R2.1.text) := by
        rw [hb14.cell (p := ⟨B11, 3, none⟩) (show B11 < _ by (try simp) <;> (try omega))]
        exact q13_4_3
      have q14_4_4 : w14.cell? ⟨B11, 4, none⟩ = some (.string R2.1.utf) := by
        rw [hb14.cell (p := ⟨B11, 4, none⟩) (show B11 < _ by (try simp) <;> (try omega))]
        exact q13_4_4
      have hl14_4 : B11 < w14.heap.size := by omega
      clear q13_4_0 q13_4_1 q13_4_2 q13_4_3 q13_4_4
      have HB14 : Hid (Below w.heap.size w w14) := HB13.out.trans (hb14.mono (by (try simp) <;> (try omega)))
      clear hb14
      go_upto_region 14 with fail
      have hX0 := HFZ14.out.1
      have hXf := HFZ14.out.2
      have HPS0 : Hid (PS w1.heap.size w.heap.size p0 a1 c1 [] (some ⟨w14.heap.size, 0, none⟩) 0 (w14.alloc (.cells #[] 46))) := Lib.hid (by
        have hb := (Below.refl w14.heap.size w14).alloc (Nat.le_refl _) (.cells #[] 46)
        have hfa := (HFA14.out.below hb).mono (lo' := w.heap.size) (hi' := (w14.alloc (.cells #[] 46)).heap.size) (Nat.le_refl _) (by have := HB14.out.size; simp; omega)
        have hfb := FreshIn.blks HFA14.out
        refine ⟨(hb.cell (p := ⟨w1.heap.size, 0, none⟩) hX0).trans q14_0_0, (hb.cell (p := ⟨w1.heap.size, 1, none⟩) hX0).trans q14_0_1, (hb.cell (p := ⟨w1.heap.size, 2, none⟩) hX0).trans q14_0_2, (hb.cell (p := ⟨w1.heap.size, 3, none⟩) hX0).trans q14_0_3, (hb.cell (p := ⟨w1.heap.size, 4, none⟩) hX0).trans q14_0_4, fun o => (hb.frozen (p := ⟨w1.heap.size, o, none⟩) hX0).trans (hXf o), by simp; omega, hfa, actZero w.heap.size w14 _ rfl (HB14.out.size), fun h => ?_, fun k hk h => ?_⟩
        · rcases List.mem_append.1 h with h | h
          · have := (hfb _ h).2; omega
          · simp [acB, roB, blkOf] at h; omega
        · have := (hfb _ hk).2
          simp [acB, roB, blkOf] at h
          omega)
      have hXlo : w.heap.size ≤ w1.heap.size := by have := HB1.out.size; omega
      have hgX : ¬ gb = w1.heap.size := by have := HGB.out; omega
      have HEU : Hid (∀ j ∈ blkOf a4 ++ acB al4 rs4, j < w14.heap.size) := Lib.hid (fun j hj => by have := HEU0.out j hj; omega)
      have hgW : gb < w14.heap.size := by
        have := HGB.out
        omega
      go_wp2_with fail
      go_loopw [20, 21] (fun lv iv wr => ∃ (k2 : Nat) (a5 : Option Addr) (c5 : Nat) (L5 : List ActA) (al5 : Option Addr) (cl5 : Nat), k2 ≤ n ∧ iv = .int .i64 k2 ∧ lv = .slice al5 L5.length cl5 ∧ Hid (PS w1.heap.size w.heap.size (prun p0 (l.take k2)).1 a5 c5 L5 al5 cl5 wr ∧ L5.map (·.A) = (prun p0 (l.take k2)).2 ∧ (∀ j ∈ acB al5 L5, w14.heap.size ≤ j) ∧ Ch (fun j => j = w1.heap.size ∨ w14.heap.size ≤ j) w14 wr)) (fun _ iv _ => n - (intOf iv).toNat)
      case atStart => exact ⟨0, a1, c1, [], some ⟨w14.heap.size, 0, none⟩, 0, Nat.zero_le _, rfl, rfl, Lib.hid ⟨HPS0.out, rfl, by simp [acB, roB, blkOf], Ch.refl.alloc _⟩⟩
      case round =>
      obtain ⟨k2, a5, c5, L5, al5, cl5, hk2, rfl, rfl, HPP⟩ := hrel
      have hszr := HPP.out.2.2.2.size
      have hXr : w1.heap.size < wr.heap.size := by omega
      by_cases hlt : k2 < n
      · have hlt' : k2 < l.length := by rw [HLN.out]; exact hlt
        have HSBr : Hid (ByA gb l wr) := Lib.hid (HSB14.out.ch HPP.out.2.2.2 (fun h => by rcases h with h | h; exact hgX h; omega))
        obtain ⟨b1, o1, hb1e, hb1, hc1⟩ := HSBr.out.sl.at hlt'
        cases hb1e
        have c1b := hc1 k2 hlt' 0 (by omega)
        simp only [byteE, Nat.mul_one, Nat.add_zero, Nat.zero_add, List.getElem?_cons_zero] at c1b
        clear hc1
        obtain ⟨b, hbk⟩ : ∃ b, l[k2] = b := ⟨_, rfl⟩
        have HBK := Lib.hid hbk
        rw [hbk] at c1b
        clear hbk
        have h256 := b.toNat_lt
        have hu8 : IntKind.i64.wrap (b.toNat : Int) = (b.toNat : Int) := IntWalk.i64_in _ ⟨by omega, by omega⟩
        obtain ⟨P, hP⟩ : ∃ P, prun p0 (l.take k2) = P := ⟨_, rfl⟩
        have HPK := Lib.hid hP
        have HOKP : Hid (PvOK P.1) := Lib.hid (by rw [← hP]; exact prun_ok _ HOK.out)
        rw [hP] at HPP
        clear hP
        obtain ⟨R, hR⟩ : ∃ R, pstep P.1 b = R := ⟨_, rfl⟩
        have HRS := Lib.hid hR
        clear hR
        have HUTr : Hid (UT wr) := Lib.hid ((HUT.out.keep HB14.out).ch HPP.out.2.2.2 (by have := HUT.out.l1; have := HB14.out.size; omega) (by have := HUT.out.l2; have := HB14.out.size; omega))
        have x_0 := HPP.out.1.c0
        have x_1 := HPP.out.1.c1
        have x_2 := HPP.out.1.c2
        have x_3 := HPP.out.1.c3
        have x_4 := HPP.out.1.c4
        have HA5 : Hid (Sl intE 1 wr a5 P.1.args) := Lib.hid (FreshIn.sl (enc := intE) (fun _ => rfl) HPP.out.1.args)
        go_upto_region 18 with fail
        go_cut [22, 23, 24] (fun s1 s2 s3 wx => OutB (R, 0) wr s1 s2 s3 wx)
        case first =>
          have hS0 : wr.cell? ⟨w1.heap.size, 0, none⟩ = some (.int .i64 P.1.state) ∧ wr.cell? ⟨w1.heap.size, 1, none⟩ = some (.slice a5 P.1.args.length c5) ∧ wr.cell? ⟨w1.heap.size, 2, none⟩ = some (.bool P.1.priv) ∧ wr.cell? ⟨w1.heap.size, 3, none⟩ = some (.string P.1.text) ∧ wr.cell? ⟨w1.heap.size, 4, none⟩ = some (.string P.1.utf) ∧ wr.cell? ⟨gb, k2, none⟩ = some (.int .u8 b.toNat) := ⟨x_0, x_1, x_2, x_3, x_4, c1b⟩
          refine wp_region_G (fun w' => w'.cell? ⟨w1.heap.size, 0, none⟩ = some (.int .i64 P.1.state) ∧ w'.cell? ⟨w1.heap.size, 1, none⟩ = some (.slice a5 P.1.args.length c5) ∧ w'.cell? ⟨w1.heap.size, 2, none⟩ = some (.bool P.1.priv) ∧ w'.cell? ⟨w1.heap.size, 3, none⟩ = some (.string P.1.text) ∧ w'.cell? ⟨w1.heap.size, 4, none⟩ = some (.string P.1.utf) ∧ w'.cell? ⟨gb, k2, none⟩ = some (.int .u8 b.toNat)) (fun i => i == 12) (by kernel_rfl) hS0 ?_
          refine wpAnyG_take (i := 0) (v := ?_) rfl (by kernel_rfl) (by kernel_rfl) (by kernel_rfl) (by kernel_rfl) (fun _ _ _ h => h) hS0 (Or.inl ⟨by rfl, ?_⟩) ?_
          rotate_left
          · intro w' hSw
            obtain ⟨s0, s1, s2, s3, s4, s5⟩ := hSw
            go_simp
            try (with_reducible rfl)
          try simp only [Act.put, List.getElem_toArray, List.getElem_cons_zero, List.getElem_cons_succ, List.setIfInBounds_toArray, List.set_cons_zero, List.set_cons_succ]
          refine wpAnyG_takeW (i := 1) (v := ?_) rfl (by kernel_rfl) (by kernel_rfl) (by kernel_rfl) (fun _ _ _ h => h) (Or.inl ⟨by rfl, ?_⟩) ?_
          rotate_left
          · intro w' hSw
            go_simp
            try (with_reducible rfl)
          try simp only [Act.put, List.getElem_toArray, List.getElem_cons_zero, List.getElem_cons_succ, List.setIfInBounds_toArray, List.set_cons_zero, List.set_cons_succ]
          refine wpAnyG_takeW (i := 2) (v := ?_) rfl (by kernel_rfl) (by kernel_rfl) (by kernel_rfl) (fun _ _ _ h => h) (Or.inl ⟨by rfl, ?_⟩) ?_
          rotate_left
          · intro w' hSw
            go_simp
            try (with_reducible rfl)
          try simp only [Act.put, List.getElem_toArray, List.getElem_cons_zero, List.getElem_cons_succ, List.setIfInBounds_toArray, List.set_cons_zero, List.set_cons_succ]
          refine wpAnyG_takeW (i := 3) (v := ?_) rfl (by kernel_rfl) (by kernel_rfl) (by kernel_rfl) (fun _ _ _ h => h) (Or.inl ⟨by rfl, ?_⟩) ?_
          rotate_left
          · intro w' hSw
            go_simp
            try (with_reducible rfl)
          try simp only [Act.put, List.getElem_toArray, List.getElem_cons_zero, List.getElem_cons_succ, List.setIfInBounds_toArray, List.set_cons_zero, List.set_cons_succ]
          refine wpAnyG_take (i := 4) (v := ?_) rfl (by kernel_rfl) (by kernel_rfl) (by kernel_rfl) (by kernel_rfl) (fun _ _ _ h => h) hS0 (Or.inl ⟨by rfl, ?_⟩) ?_
          rotate_left
          · intro w' hSw
            obtain ⟨s0, s1, s2, s3, s4, s5⟩ := hSw
            go_simp
            try (with_reducible rfl)
          try simp only [Act.put, List.getElem_toArray, List.getElem_cons_zero, List.getElem_cons_succ, List.setIfInBounds_toArray, List.set_cons_zero, List.set_cons_succ]
          refine wpAnyG_takeW (i := 5) (v := ?_) rfl (by kernel_rfl) (by kernel_rfl) (by kernel_rfl) (fun _ _ _ h => h) (Or.inl ⟨by rfl, ?_⟩) ?_
          rotate_left
          · intro w' hSw
            go_simp
            try (with_reducible rfl)
          try simp only [Act.put, List.getElem_toArray, List.getElem_cons_zero, List.getElem_cons_succ, List.setIfInBounds_toArray, List.set_cons_zero, List.set_cons_succ]
          refine wpAnyG_br (rs := [6, 11]) (by kernel_rfl) (by simp) ?_
          intro j hj
          simp only [List.mem_cons, List.not_mem_nil, or_false] at hj
          rcases hj with rfl | rfl
          · skip
            refine ⟨_, rfl, fun K' hK => ?_⟩
            simp only [List.getElem_toArray, List.getElem_cons_zero, List.getElem_cons_succ]
            go_simp
            go_at_call 14
            refine (pb1 a5 c5 P.1 b R (wr.drew) HOKP.out HRS.out (HA5.out.keep ((Below.refl _ _).drew)) (HUTr.out.keep ((Below.refl _ _).drew))).mono ?_
            rintro e x1 ⟨a, c, al, cl, rs, rfl, hfa, hro, hnd, hrs, hb⟩
            have HBX : Hid (Below wr.heap.size wr x1) := Lib.hid (((Below.refl _ _).drew).trans hb)
            simp only [World.size_drew] at hfa hro
            have HFA := Lib.hid hfa
            have HRO := Lib.hid hro
            have HND := Lib.hid hnd
            have HRSX := Lib.hid hrs
            have hS1 : x1.cell? ⟨w1.heap.size, 0, none⟩ = some (.int .i64 P.1.state) ∧ x1.cell? ⟨w1.heap.size, 1, none⟩ = some (.slice a5 P.1.args.length c5) ∧ x1.cell? ⟨w1.heap.size, 2, none⟩ = some (.bool P.1.priv) ∧ x1.cell? ⟨w1.heap.size, 3, none⟩ = some (.string P.1.text) ∧ x1.cell? ⟨w1.heap.size, 4, none⟩ = some (.string P.1.utf) ∧ x1.cell? ⟨gb, k2, none⟩ = some (.int .u8 b.toNat) := ⟨(HBX.out.cell (p := ⟨w1.heap.size, 0, none⟩) hXr).trans x_0, (HBX.out.cell (p := ⟨w1.heap.size, 1, none⟩) hXr).trans x_1, (HBX.out.cell (p := ⟨w1.heap.size, 2, none⟩) hXr).trans x_2, (HBX.out.cell (p := ⟨w1.heap.size, 3, none⟩) hXr).trans x_3, (HBX.out.cell (p := ⟨w1.heap.size, 4, none⟩) hXr).trans x_4, (HBX.out.cell (p := ⟨gb, k2, none⟩) (by show gb < wr.heap.size; omega)).trans c1b⟩
            clear hfa hro hnd hrs hb
            refine hK.out _ _ (Or.inr hS1) ?_
            clear hK K'
            try simp only [Act.put, List.getElem_toArray, List.getElem_cons_zero, List.getElem_cons_succ, List.setIfInBounds_toArray, List.set_cons_zero, List.set_cons_succ]
            refine wpAnyG_takeW (i := 7) (v := ?_) rfl (by kernel_rfl) (by kernel_rfl) (by kernel_rfl) (fun _ _ _ h => h) (Or.inl ⟨by rfl, ?_⟩) ?_
            rotate_left
            · intro w' hSw
              go_simp
              try (with_reducible rfl)
            try simp only [Act.put, List.getElem_toArray, List.getElem_cons_zero, List.getElem_cons_succ, List.setIfInBounds_toArray, List.set_cons_zero, List.set_cons_succ]
            refine wpAnyG_takeW (i := 8) (v := ?_) rfl (by kernel_rfl) (by kernel_rfl) (by kernel_rfl) (fun _ _ _ h => h) (Or.inl ⟨by rfl, ?_⟩) ?_
            rotate_left
            · intro w' hSw
              go_simp
              try (with_reducible rfl)
            try simp only [Act.put, List.getElem_toArray, List.getElem_cons_zero, List.getElem_cons_succ, List.setIfInBounds_toArray, List.set_cons_zero, List.set_cons_succ]
            refine wpAnyG_takeW (i := 9) (v := ?_) rfl (by kernel_rfl) (by kernel_rfl) (by kernel_rfl) (fun _ _ _ h => h) (Or.inl ⟨by rfl, ?_⟩) ?_
            rotate_left
            · intro w' hSw
              go_simp
              try (with_reducible rfl)
            try simp only [Act.put, List.getElem_toArray, List.getElem_cons_zero, List.getElem_cons_succ, List.setIfInBounds_toArray, List.set_cons_zero, List.set_cons_succ]
            refine wpAnyG_takeW (i := 10) (v := ?_) rfl (by kernel_rfl) (by kernel_rfl) (by kernel_rfl) (fun _ _ _ h => h) (Or.inl ⟨by rfl, ?_⟩) ?_
            rotate_left
            · intro w' hSw
              go_simp
              try (with_reducible rfl)
            try simp only [Act.put, List.getElem_toArray, List.getElem_cons_zero, List.getElem_cons_succ, List.setIfInBounds_toArray, List.set_cons_zero, List.set_cons_succ]
            refine wpAnyG_one (i := 11) (by kernel_rfl) rfl hS1 (fun K' hK => ?_)
            simp only [List.getElem_toArray, List.getElem_cons_zero, List.getElem_cons_succ]
            go_simp
            refine hK.out _ _ (Or.inr ⟨(World.cell?_alloc_lt _ _ _ (Nat.lt_of_lt_of_le hXr HBX.out.size)).trans hS1.1, (World.cell?_alloc_lt _ _ _ (Nat.lt_of_lt_of_le hXr HBX.out.size)).trans hS1.2.1, (World.cell?_alloc_lt _ _ _ (Nat.lt_of_lt_of_le hXr HBX.out.size)).trans hS1.2.2.1, (World.cell?_alloc_lt _ _ _ (Nat.lt_of_lt_of_le hXr HBX.out.size)).trans hS1.2.2.2.1, (World.cell?_alloc_lt _ _ _ (Nat.lt_of_lt_of_le hXr HBX.out.size)).trans hS1.2.2.2.2.1, (World.cell?_alloc_lt _ _ _ (Nat.lt_of_lt_of_le (show gb < wr.heap.size by omega) HBX.out.size)).trans hS1.2.2.2.2.2⟩) ?_
            clear hK K'
            try simp only [Act.put, List.getElem_toArray, List.getElem_cons_zero, List.getElem_cons_succ, List.setIfInBounds_toArray, List.set_cons_zero, List.set_cons_succ]
            refine wpAnyG_one (i := 12) (by kernel_rfl) rfl (⟨(World.cell?_alloc_lt _ _ _ (Nat.lt_of_lt_of_le hXr HBX.out.size)).trans hS1.1, (World.cell?_alloc_lt _ _ _ (Nat.lt_of_lt_of_le hXr HBX.out.size)).trans hS1.2.1, (World.cell?_alloc_lt _ _ _ (Nat.lt_of_lt_of_le hXr HBX.out.size)).trans hS1.2.2.1, (World.cell?_alloc_lt _ _ _ (Nat.lt_of_lt_of_le hXr HBX.out.size)).trans hS1.2.2.2.1, (World.cell?_alloc_lt _ _ _ (Nat.lt_of_lt_of_le hXr HBX.out.size)).trans hS1.2.2.2.2.1, (World.cell?_alloc_lt _ _ _ (Nat.lt_of_lt_of_le (show gb < wr.heap.size by omega) HBX.out.size)).trans hS1.2.2.2.2.2⟩) (fun K' hK => ?_)
            simp only [List.getElem_toArray, List.getElem_cons_zero, List.getElem_cons_succ]
            go_simp
            refine hK.out _ _ (Or.inl rfl) ?_
            clear hK K'
            try simp only [Act.put, List.getElem_toArray, List.getElem_cons_zero, List.getElem_cons_succ, List.setIfInBounds_toArray, List.set_cons_zero, List.set_cons_succ]
            refine wpAnyG_takeW (i := 13) (v := ?_) rfl (by kernel_rfl) (by kernel_rfl) (by kernel_rfl) (fun _ _ _ h => h) (Or.inl ⟨by rfl, ?_⟩) ?_
            rotate_left
            · intro w' hSw
              go_simp
              try (with_reducible rfl)
            try simp only [Act.put, List.getElem_toArray, List.getElem_cons_zero, List.getElem_cons_succ, List.setIfInBounds_toArray, List.set_cons_zero, List.set_cons_succ]
            refine wpAnyG_takeW (i := 14) (v := ?_) rfl (by kernel_rfl) (by kernel_rfl) (by kernel_rfl) (fun _ _ _ h => h) (Or.inl ⟨by rfl, ?_⟩) ?_
            rotate_left
            · intro w' hSw
              go_simp
              try (with_reducible rfl)
            try simp only [Act.put, List.getElem_toArray, List.getElem_cons_zero, List.getElem_cons_succ, List.setIfInBounds_toArray, List.set_cons_zero, List.set_cons_succ]
            refine wpAnyG_done (by kernel_rfl) ?_ _
            go_wp2_with fail
            go_meet
            exact outB_alloc HBX.out HFA.out HRO.out HND.out HRSX.out rfl
          · skip
            refine ⟨_, rfl, fun K' hK => ?_⟩
            simp only [List.getElem_toArray, List.getElem_cons_zero, List.getElem_cons_succ]
            go_simp
            obtain ⟨x1, hx1⟩ : ∃ x, (wr.alloc (.cells #[.int .i64 0, .slice none 0 0, .bool false, .string ⟨#[]⟩, .string ⟨#[]⟩] 25)).drew = x := ⟨_, rfl⟩
            have HB1 : Hid (Below wr.heap.size wr x1) := Lib.hid (by rw [← hx1]; exact (((Below.refl _ _).alloc (Nat.le_refl _) _).drew))
            have hz1 : wr.heap.size < x1.heap.size := by rw [← hx1]; simp
            have hS1 : x1.cell? ⟨w1.heap.size, 0, none⟩ = some (.int .i64 P.1.state) ∧ x1.cell? ⟨w1.heap.size, 1, none⟩ = some (.slice a5 P.1.args.length c5) ∧ x1.cell? ⟨w1.heap.size, 2, none⟩ = some (.bool P.1.priv) ∧ x1.cell? ⟨w1.heap.size, 3, none⟩ = some (.string P.1.text) ∧ x1.cell? ⟨w1.heap.size, 4, none⟩ = some (.string P.1.utf) ∧ x1.cell? ⟨gb, k2, none⟩ = some (.int .u8 b.toNat) := ⟨(HB1.out.cell (p := ⟨w1.heap.size, 0, none⟩) hXr).trans x_0, (HB1.out.cell (p := ⟨w1.heap.size, 1, none⟩) hXr).trans x_1, (HB1.out.cell (p := ⟨w1.heap.size, 2, none⟩) hXr).trans x_2, (HB1.out.cell (p := ⟨w1.heap.size, 3, none⟩) hXr).trans x_3, (HB1.out.cell (p := ⟨w1.heap.size, 4, none⟩) hXr).trans x_4, (HB1.out.cell (p := ⟨gb, k2, none⟩) (by show gb < wr.heap.size; omega)).trans c1b⟩
            have b_0 : x1.cell? ⟨wr.heap.size, 0, none⟩ = some (.int .i64 0) := by rw [← hx1]; simp [go_sem]
            have b_1 : x1.cell? ⟨wr.heap.size, 1, none⟩ = some (.slice none 0 0) := by rw [← hx1]; simp [go_sem]
            have b_2 : x1.cell? ⟨wr.heap.size, 2, none⟩ = some (.bool false) := by rw [← hx1]; simp [go_sem]
            have b_3 : x1.cell? ⟨wr.heap.size, 3, none⟩ = some (.string ⟨#[]⟩) := by rw [← hx1]; simp [go_sem]
            have b_4 : x1.cell? ⟨wr.heap.size, 4, none⟩ = some (.string ⟨#[]⟩) := by rw [← hx1]; simp [go_sem]
            have bf : ∀ o, x1.frozen? ⟨wr.heap.size, o, none⟩ = false := by intro o; rw [← hx1]; simp [go_sem]
            rw [hx1]
            clear hx1
            refine hK.out _ _ (Or.inr hS1) ?_
            clear hK K'
            try simp only [Act.put, List.getElem_toArray, List.getElem_cons_zero, List.getElem_cons_succ, List.setIfInBounds_toArray, List.set_cons_zero, List.set_cons_succ]
            refine wpAnyG_one (i := 6) (by kernel_rfl) rfl hS1 (fun K' hK => ?_)
            simp only [List.getElem_toArray, List.getElem_cons_zero, List.getElem_cons_succ]
            go_simp
            go_at_call 14
            refine (pb1 a5 c5 P.1 b R (x1) HOKP.out HRS.out (HA5.out.keep HB1.out) (HUTr.out.keep HB1.out)).mono ?_
            rintro e x3 ⟨a, c, al, cl, rs, rfl, hfa, hro, hnd, hrs, hb⟩
            have HBX : Hid (Below wr.heap.size wr x3) := Lib.hid (HB1.out.trans (hb.mono (by omega)))
            have hz3 := hb.size
            have HFA := Lib.hid hfa
            have HRO := Lib.hid hro
            have HND := Lib.hid hnd
            have HRSX := Lib.hid hrs
            have hS3 : x3.cell? ⟨w1.heap.size, 0, none⟩ = some (.int .i64 P.1.state) ∧ x3.cell? ⟨w1.heap.size, 1, none⟩ = some (.slice a5 P.1.args.length c5) ∧ x3.cell? ⟨w1.heap.size, 2, none⟩ = some (.bool P.1.priv) ∧ x3.cell? ⟨w1.heap.size, 3, none⟩ = some (.string P.1.text) ∧ x3.cell? ⟨w1.heap.size, 4, none⟩ = some (.string P.1.utf) ∧ x3.cell? ⟨gb, k2, none⟩ = some (.int .u8 b.toNat) := ⟨(HBX.out.cell (p := ⟨w1.heap.size, 0, none⟩) hXr).trans x_0, (HBX.out.cell (p := ⟨w1.heap.size, 1, none⟩) hXr).trans x_1, (HBX.out.cell (p := ⟨w1.heap.size, 2, none⟩) hXr).trans x_2, (HBX.out.cell (p := ⟨w1.heap.size, 3, none⟩) hXr).trans x_3, (HBX.out.cell (p := ⟨w1.heap.size, 4, none⟩) hXr).trans x_4, (HBX.out.cell (p := ⟨gb, k2, none⟩) (by show gb < wr.heap.size; omega)).trans c1b⟩
            have q_0 : x3.cell? ⟨wr.heap.size, 0, none⟩ = some (.int .i64 0) := (hb.cell (p := ⟨wr.heap.size, 0, none⟩) (by show wr.heap.size < _; omega)).trans b_0
            have q_1 : x3.cell? ⟨wr.heap.size, 1, none⟩ = some (.slice none 0 0) := (hb.cell (p := ⟨wr.heap.size, 1, none⟩) (by show wr.heap.size < _; omega)).trans b_1
            have q_2 : x3.cell? ⟨wr.heap.size, 2, none⟩ = some (.bool false) := (hb.cell (p := ⟨wr.heap.size, 2, none⟩) (by show wr.heap.size < _; omega)).trans b_2
            have q_3 : x3.cell? ⟨wr.heap.size, 3, none⟩ = some (.string ⟨#[]⟩) := (hb.cell (p := ⟨wr.heap.size, 3, none⟩) (by show wr.heap.size < _; omega)).trans b_3
            have q_4 : x3.cell? ⟨wr.heap.size, 4, none⟩ = some (.string ⟨#[]⟩) := (hb.cell (p := ⟨wr.heap.size, 4, none⟩) (by show wr.heap.size < _; omega)).trans b_4
            have qf : ∀ o, x3.frozen? ⟨wr.heap.size, o, none⟩ = false := fun o => (hb.frozen (p := ⟨wr.heap.size, o, none⟩) (by show wr.heap.size < _; omega)).trans (bf o)
            have hlq : wr.heap.size < x3.heap.size := by omega
            clear hfa hro hnd hrs hb
            refine hK.out _ _ (Or.inr hS3) ?_
            clear hK K'
            try simp only [Act.put, List.getElem_toArray, List.getElem_cons_zero, List.getElem_cons_succ, List.setIfInBounds_toArray, List.set_cons_zero, List.set_cons_succ]
            refine wpAnyG_takeW (i := 7) (v := ?_) rfl (by kernel_rfl) (by kernel_rfl) (by kernel_rfl) (fun _ _ _ h => h) (Or.inl ⟨by rfl, ?_⟩) ?_
            rotate_left
            · intro w' hSw
              go_simp
              try (with_reducible rfl)
            try simp only [Act.put, List.getElem_toArray, List.getElem_cons_zero, List.getElem_cons_succ, List.setIfInBounds_toArray, List.set_cons_zero, List.set_cons_succ]
            refine wpAnyG_takeW (i := 8) (v := ?_) rfl (by kernel_rfl) (by kernel_rfl) (by kernel_rfl) (fun _ _ _ h => h) (Or.inl ⟨by rfl, ?_⟩) ?_
            rotate_left
            · intro w' hSw
              go_simp
              try (with_reducible rfl)
            try simp only [Act.put, List.getElem_toArray, List.getElem_cons_zero, List.getElem_cons_succ, List.setIfInBounds_toArray, List.set_cons_zero, List.set_cons_succ]
            refine wpAnyG_takeW (i := 9) (v := ?_) rfl (by kernel_rfl) (by kernel_rfl) (by kernel_rfl) (fun _ _ _ h => h) (Or.inl ⟨by rfl, ?_⟩) ?_
            rotate_left
            · intro w' hSw
              go_simp
              try (with_reducible rfl)
            try simp only [Act.put, List.getElem_toArray, List.getElem_cons_zero, List.getElem_cons_succ, List.setIfInBounds_toArray, List.set_cons_zero, List.set_cons_succ]
            refine wpAnyG_takeW (i := 10) (v := ?_) rfl (by kernel_rfl) (by kernel_rfl) (by kernel_rfl) (fun _ _ _ h => h) (Or.inl ⟨by rfl, ?_⟩) ?_
            rotate_left
            · intro w' hSw
              go_simp
              try (with_reducible rfl)
            try simp only [Act.put, List.getElem_toArray, List.getElem_cons_zero, List.getElem_cons_succ, List.setIfInBounds_toArray, List.set_cons_zero, List.set_cons_succ]
            refine wpAnyG_one (i := 12) (by kernel_rfl) rfl hS3 (fun K' hK => ?_)
            simp only [List.getElem_toArray, List.getElem_cons_zero, List.getElem_cons_succ]
            go_simp
            refine hK.out _ _ (Or.inl rfl) ?_
            clear hK K'
            try simp only [Act.put, List.getElem_toArray, List.getElem_cons_zero, List.getElem_cons_succ, List.setIfInBounds_toArray, List.set_cons_zero, List.set_cons_succ]
            refine wpAnyG_takeW (i := 13) (v := ?_) rfl (by kernel_rfl) (by kernel_rfl) (by kernel_rfl) (fun _ _ _ h => h) (Or.inl ⟨by rfl, ?_⟩) ?_
            rotate_left
            · intro w' hSw
              go_simp
              try (with_reducible rfl)
            try simp only [Act.put, List.getElem_toArray, List.getElem_cons_zero, List.getElem_cons_succ, List.setIfInBounds_toArray, List.set_cons_zero, List.set_cons_succ]
            refine wpAnyG_takeW (i := 14) (v := ?_) rfl (by kernel_rfl) (by kernel_rfl) (by kernel_rfl) (fun _ _ _ h => h) (Or.inl ⟨by rfl, ?_⟩) ?_
            rotate_left
            · intro w' hSw
              go_simp
              try (with_reducible rfl)
            try simp only [Act.put, List.getElem_toArray, List.getElem_cons_zero, List.getElem_cons_succ, List.setIfInBounds_toArray, List.set_cons_zero, List.set_cons_succ]
            refine wpAnyG_done (by kernel_rfl) ?_ _
            go_wp2_with fail
            go_meet
            exact outB_store (Nat.le_refl _) hz1 hz3 HBX.out ⟨_, q_0⟩ ⟨_, q_1⟩ ⟨_, q_2⟩ ⟨_, q_3⟩ ⟨_, q_4⟩ HFA.out HRO.out HND.out HRSX.out rfl
        case rest =>
          obtain ⟨B6, a6, c6, al6, cl6, rs6, rfl, rfl, rfl, hBl6, hBu6, n_0, n_1, n_2, n_3, n_4, hfa6, hro6, hnd6, hnb6, hrs6, hb6⟩ := hcut
          obtain ⟨w6, hwc⟩ : ∃ x, x = wc := ⟨_, rfl⟩
          subst hwc
          dsimp only at n_0 n_1 n_2 n_3 n_4 hfa6 hrs6 ⊢
          have HF6 := Lib.hid hfa6
          have HRO6 := Lib.hid hro6
          have HND6 := Lib.hid hnd6
          have HRS6 := Lib.hid hrs6
          have HB6 := Lib.hid hb6
          have HNB6 := Lib.hid hnb6
          have hz6 := hb6.size
          have hXB : ¬ w1.heap.size = B6 := by omega
          have hBX : ¬ B6 = w1.heap.size := by omega
          have hX6 : w1.heap.size < w6.heap.size := by omega
          have HPS6 := Lib.hid (HPP.out.1.keep hb6)
          have y_0 := HPS6.out.c0
          have y_1 := HPS6.out.c1
          have y_2 := HPS6.out.c2
          have y_3 := HPS6.out.c3
          have y_4 := HPS6.out.c4
          have yf := HPS6.out.fz
          have hL5 : L5.length ≤ 131072 := by
            have h1 := congrArg List.length HPP.out.2.1
            have h2 := run_len (l.take k2) p0
            have h3 := HLN.out
            rw [HPK.out] at h2
            simp only [List.length_map, List.length_take] at h1 h2
            omega
          have hr6l : rs6.length ≤ 2 := by
            have h1 := congrArg List.length HRS6.out
            have h2 := step_len P.1 b
            rw [HRS.out] at h2
            simp only [List.length_map] at h1
            omega
          clear hfa6 hro6 hnd6 hnb6 hrs6 hb6 x_0 x_1 x_2 x_3 x_4 c1b
          go_upto_region 22 with fail
          have hps7 := HPS6.out.put R.1 HF6.out (by omega) (fun j hj => by
            have h1 := (FreshIn.blks HF6.out j hj).1
            refine ⟨by omega, fun h => ?_⟩
            have := (HPP.out.1.ro.bd actL j h).2
            omega)
          have hc7 : Ch (fun j => j = w1.heap.size) w6 (((((w6.setCell ⟨w1.heap.size, 0, none⟩ (.int .i64 R.1.state)).setCell ⟨w1.heap.size, 1, none⟩ (.slice a6 R.1.args.length c6)).setCell ⟨w1.heap.size, 2, none⟩ (.bool R.1.priv)).setCell ⟨w1.heap.size, 3, none⟩ (.string R.1.text)).setCell ⟨w1.heap.size, 4, none⟩ (.string R.1.utf)) := ((((Ch.set1 _ _ _ _).setB _ _).setB _ _).setB _ _).setB _ _
          have hro7 := HRO6.out.ch actL hc7 (fun j hj e => by have := (HRO6.out.bd actL j hj).1; omega)
          obtain ⟨w7, hw7⟩ : ∃ x, (((((w6.setCell ⟨w1.heap.size, 0, none⟩ (.int .i64 R.1.state)).setCell ⟨w1.heap.size, 1, none⟩ (.slice a6 R.1.args.length c6)).setCell ⟨w1.heap.size, 2, none⟩ (.bool R.1.priv)).setCell ⟨w1.heap.size, 3, none⟩ (.string R.1.text)).setCell ⟨w1.heap.size, 4, none⟩ (.string R.1.utf)) = x := ⟨_, rfl⟩
          rw [hw7] at hps7 hc7 hro7 ⊢
          clear hw7 y_0 y_1 y_2 y_3 y_4 yf
          have HPS7 := Lib.hid hps7
          have HC7 := Lib.hid hc7
          have HRO7 := Lib.hid hro7
          have HSR7 : Hid (Src Tryd.prog 5 28 (.slice al6 rs6.length cl6) rs6.length (rs6.flatMap actE) w7) := Lib.hid (Src.ofSl (enc := actE) (sz := 5) Tryd.underlying28 (fun _ => rfl) actOne (hro7.row.sl (fun _ => rfl)) _)
          have hz7 := hc7.size
          clear hps7 hc7 hro7
          go_wp2_with (at_builtin; refine wpList_append_ch (.tmp 137) (.tmp 138) 28 28 w.heap.size 46 iA (.agg #[.int .i64 0, .int .i64 0, .bool false, .slice none 0 0, .string ⟨#[]⟩]) 5 64 Tryd.underlying28 hiA hA0 hA1 hA2 rfl (by decide) al5 L5.length cl5 L5 HPS7.out.ro.row (.slice al6 rs6.length cl6) rs6 HSR7.out (by omega) (by omega) rfl rfl rfl rfl ?_)
          intro a8 c8 w8 us hus hf8 hc8 hk8
          have HUS := hus
          have hps8 := HPS7.out.app (fun x hx => actL.low (by omega) (HRO7.out.ow x hx)) (by have := HRO7.out.nd; simp only [roB, List.nodup_append] at this; exact this.2.1) (fun j hj => by
            have hj2 : j ∈ acB al6 rs6 := by simp only [roB, List.mem_append]; exact .inr hj
            have h1 := (HRO6.out.bd actL j hj2).1
            refine ⟨by omega, fun h => HND6.out j h hj2, fun h => ?_⟩
            have := (HPP.out.1.ro.bd actL j h).2
            omega) hus.out hf8 hc8 hk8
          have HPS8 := Lib.hid hps8.1
          have HIN8 := Lib.hid hps8.2
          have HC8 := Lib.hid hc8
          clear hus hf8 hc8 hk8 hps8
          go_wp2_with fail
          go_roundw
          case rel =>
            have hs : prun p0 (l.take (k2 + 1)) = ((pstep P.1 b).1, P.2 ++ (pstep P.1 b).2) := by
              rw [List.take_succ_eq_append_getElem hlt', prun_snoc, HPK.out, HBK.out]
            rw [HRS.out] at hs
            refine ⟨k2 + 1, a6, c6, us, a8, c8, by omega, by go_num, rfl, Lib.hid ⟨by rw [hs]; exact HPS8.out, by rw [hs, HUS.out, List.map_append, HPP.out.2.1, HRS6.out], fun j hj => ?_, ?_⟩⟩
            · rcases HIN8.out j hj with h | h | h
              · exact HPP.out.2.2.1 j h
              · have hj2 : j ∈ acB al6 rs6 := by simp only [roB, List.mem_append]; exact .inr h
                have h1 := (HRO6.out.bd actL j hj2).1
                omega
              · omega
            · refine ((HPP.out.2.2.2.trans (Ch.of_below (M := fun _ => False) HB6.out) (fun j h => h.elim)).trans HC7.out (fun j h => .inl (.inl h))).trans HC8.out (fun j h => .inl (.inr ?_))
              exact HPP.out.2.2.1 j (by simp [roB, h])
          case measure => simp [intOf]; omega
      · obtain rfl : k2 = n := by omega
        have htk : l.take k2 = l := List.take_of_length_le (by rw [HLN.out]; exact Nat.le_refl _)
        rw [htk, HR0.out] at HPP
        clear htk
        have hM : ∀ j, w3.heap.size ≤ j → j < w14.heap.size → ¬ (j = w1.heap.size ∨ w14.heap.size ≤ j) := fun j h1 h2 h => by omega
        have HEs : Hid (Sl intE 1 wr a4 R0.1.args) := Lib.hid (Sl.ch HE414.out.sl HPP.out.2.2.2 (fun j hj h => by
          have h1 := HEB.out j (by simp [hj])
          have h2 := HEU.out j (by simp [hj])
          omega))
        have HEa : Hid (ActS wr al4 rs4) := Lib.hid (ActS.ch HE414.out.acts HPP.out.2.2.2 (fun j hj h => by
          have h1 := HEB.out j (by rw [List.mem_append]; exact .inr hj)
          have h2 := HEU.out j (by rw [List.mem_append]; exact .inr hj)
          omega))
        have z_0 : wr.cell? ⟨w4.heap.size, 0, none⟩ = some (.int .i64 R0.1.state) := (HPP.out.2.2.2.cell (p := ⟨w4.heap.size, 0, none⟩) (by show w4.heap.size < _; omega) (by show ¬ (w4.heap.size = w1.heap.size ∨ _ ≤ w4.heap.size); omega)).trans q14_1_0
        have z_1 : wr.cell? ⟨w4.heap.size, 1, none⟩ = some (.slice a4 R0.1.args.length c4) := (HPP.out.2.2.2.cell (p := ⟨w4.heap.size, 1, none⟩) (by show w4.heap.size < _; omega) (by show ¬ (w4.heap.size = w1.heap.size ∨ _ ≤ w4.heap.size); omega)).trans q14_1_1
        have z_2 : wr.cell? ⟨w4.heap.size, 2, none⟩ = some (.bool R0.1.priv) := (HPP.out.2.2.2.cell (p := ⟨w4.heap.size, 2, none⟩) (by show w4.heap.size < _; omega) (by show ¬ (w4.heap.size = w1.heap.size ∨ _ ≤ w4.heap.size); omega)).trans q14_1_2
        have z_3 : wr.cell? ⟨w4.heap.size, 3, none⟩ = some (.string R0.1.text) := (HPP.out.2.2.2.cell (p := ⟨w4.heap.size, 3, none⟩) (by show w4.heap.size < _; omega) (by show ¬ (w4.heap.size = w1.heap.size ∨ _ ≤ w4.heap.size); omega)).trans q14_1_3
        have z_4 : wr.cell? ⟨w4.heap.size, 4, none⟩ = some (.string R0.1.utf) := (HPP.out.2.2.2.cell (p := ⟨w4.heap.size, 4, none⟩) (by show w4.heap.size < _; omega) (by show ¬ (w4.heap.size = w1.heap.size ∨ _ ≤ w4.heap.size); omega)).trans q14_1_4
        have v_0 := HPP.out.1.c0
        have v_1 := HPP.out.1.c1
        have v_2 := HPP.out.1.c2
        have v_3 := HPP.out.1.c3
        have v_4 := HPP.out.1.c4
        have HBW : Hid (Below w.heap.size w wr) := Lib.hid (HB14.out.trans (HPP.out.2.2.2.below (by have := HB14.out.size; omega) (fun j h => by have := HB14.out.size; omega)))
        have HA5 : Hid (Sl intE 1 wr a5 R0.1.args) := Lib.hid (FreshIn.sl (enc := intE) (fun _ => rfl) HPP.out.1.args)
        have HAC5 : Hid (ActS wr al5 L5) := Lib.hid ⟨HPP.out.1.ro.row.sl (fun _ => rfl), fun r hr => FreshIn.sl (enc := intE) (fun _ => rfl) (HPP.out.1.ro.ow r hr)⟩
        have HM5 : Hid (L5.map (·.A) = R0.2) := Lib.hid HPP.out.2.1
        go_wp2_with fail
        refine (sameParser_same a5 a4 c5 c4 R0.1 wr HA5.out HEs.out (by have := HSZ0.out.args; dsimp only at this; omega)).mono ?_
        rintro e w9 ⟨rfl, hb9⟩
        have HB9 := Lib.hid hb9
        have hz9 := hb9.size
        clear hb9
        go_wp2_with fail
        refine (sameActions_same al5 al4 cl5 cl4 L5 rs4 w9 (HAC5.out.keep HB9.out) (HEa.out.keep HB9.out) (HRS4.out.trans HM5.out.symm) (HSZ0.out.ar HM5.out) (HSZ0.out.ln HM5.out)).mono ?_
        rintro e w10' ⟨rfl, hb10⟩
        have HB10 := Lib.hid hb10
        clear hb10
        go_wp2_with fail
        go_ret
        exact ⟨rfl, (HBW.out.trans (HB9.out.mono (by have := HBW.out.size; omega))).trans (HB10.out.mono (by have := HBW.out.size; omega))⟩
end
section
open Go.ChangeShapes Go.WideShapes Go.ChangeAt Go.RowKit Go.Lib Go.Shelf
theorem u8types : U8Types Tryd.prog Tryd.lays197_ren := { Tryd.lays197 with }
theorem u8extra : U8Extra Tryd.prog Tryd.lays197_ren := ⟨by kernel_rfl, by kernel_rfl, by kernel_rfl, by kernel_rfl, by kernel_rfl, by kernel_rfl, by kernel_rfl⟩
theorem acceptEq : (Rows.laid_unicode_utf8_acceptRanges : DataW Unit) = acceptData := by kernel_rfl
theorem utLaid {W : World} {l : List (String × DataW Unit)} (h : laidMet Tryd.prog l W) (h1 : ("unicode/utf8.first", (Rows.laid_unicode_utf8_first : DataW Unit)) ∈ l) (h2 : ("unicode/utf8.acceptRanges", (Rows.laid_unicode_utf8_acceptRanges : DataW Unit)) ∈ l) : UT W := by
  have t := utf8Tabs_of_readsT u8types u8extra (w := W) (Pinned.utf8First_eq ▸ Lib.laidMet.reads h h1) (acceptEq ▸ Lib.laidMet.reads h h2)
  have lt : ∀ (g o : Nat) (v : Value), W.cell? ⟨g, o, none⟩ = some v → g < W.heap.size := fun g o v hv => by
    rcases Nat.lt_or_ge g W.heap.size with h | h
    · exact h
    · simp [World.cell?, Array.getElem?_eq_none h] at hv
  exact ⟨t, lt _ 0 _ (t.1 0 (by decide)), lt _ 0 _ (t.2 0 (by decide)).1⟩
theorem Tryd.cellsParser : Tryd.prog.cellsOf 37 = 5 := by kernel_rfl
set_option maxRecDepth 100000 in
theorem openParser {H : Type} {enc' : TypeId × Value → H} {W : World} {base : Nat} {vv : Value} {d : DataW H} {p : List MemPlace} (hv : Value.okWide Tryd.prog W .any base 37 vv)
    (h : DataW.Trod enc' Tryd.prog W 0 (fun _ => true) true 37 vv d p) : ∃ (st : Int) (axs : Option Addr) (cxs : Nat) (xs : List (Int)) (pr : Bool) (tx : ByteArray) (ut : ByteArray), vv = .agg #[.int .i64 st, .slice axs xs.length cxs, .bool pr, .string tx, .string ut] ∧ xs.length ≤ 9223372036854775807 ∧ Sl intE 1 W axs xs ∧ tx.size ≤ 9223372036854775807 ∧ ut.size ≤ 9223372036854775807 := by
  obtain ⟨cs, rfl, hsz⟩ := okWide_struct Tryd.underlying37 hv
  rw [Tryd.cellsParser] at hsz
  obtain ⟨fuel, hf⟩ := h
  obtain ⟨cs⟩ := cs
  obtain ⟨ys, n, _, _, _, hyl, hfs⟩ := DataW.trod_struct Tryd.underlying37 hf
  match cs, hsz with
  | [v0, v1, v2, v3, v4], _ =>
    obtain ⟨x0, hx0⟩ : ∃ x, ys[0]? = some x := ⟨_, List.getElem?_eq_getElem (by simp [hyl])⟩
    have g0 : DataW.trod enc' Tryd.prog W 0 (fun _ => true) true n 3 [v0] = some x0 := (hfs 0 _ rfl).trans hx0
    obtain ⟨st, e0, _, _⟩ := DataW.trod_int Tryd.underlying3 g0
    simp only [List.cons.injEq, and_true] at e0
    subst e0
    obtain ⟨x1, hx1⟩ : ∃ x, ys[1]? = some x := ⟨_, List.getElem?_eq_getElem (by simp [hyl])⟩
    have g1 : DataW.trod enc' Tryd.prog W 0 (fun _ => true) true n 23 [v1] = some x1 := (hfs 1 _ rfl).trans hx1
    obtain ⟨axs, cxs, xs, e1, q1a, q1b, q1c⟩ := open_intSlc g1
    simp only [List.cons.injEq, and_true] at e1
    subst e1
    obtain ⟨x2, hx2⟩ : ∃ x, ys[2]? = some x := ⟨_, List.getElem?_eq_getElem (by simp [hyl])⟩
    have g2 : DataW.trod enc' Tryd.prog W 0 (fun _ => true) true n 4 [v2] = some x2 := (hfs 2 _ rfl).trans hx2
    obtain ⟨pr, e2, _⟩ := DataW.trod_bool Tryd.underlying4 g2
    simp only [List.cons.injEq, and_true] at e2
    subst e2
    obtain ⟨x3, hx3⟩ : ∃ x, ys[3]? = some x := ⟨_, List.getElem?_eq_getElem (by simp [hyl])⟩
    have g3 : DataW.trod enc' Tryd.prog W 0 (fun _ => true) true n 9 [v3] = some x3 := (hfs 3 _ rfl).trans hx3
    obtain ⟨tx, e3, _, q3⟩ := DataW.trod_string Tryd.underlying9 g3
    simp only [List.cons.injEq, and_true] at e3
    subst e3
    obtain ⟨x4, hx4⟩ : ∃ x, ys[4]? = some x := ⟨_, List.getElem?_eq_getElem (by simp [hyl])⟩
    have g4 : DataW.trod enc' Tryd.prog W 0 (fun _ => true) true n 9 [v4] = some x4 := (hfs 4 _ rfl).trans hx4
    obtain ⟨ut, e4, _, q4⟩ := DataW.trod_string Tryd.underlying9 g4
    simp only [List.cons.injEq, and_true] at e4
    subst e4
    exact ⟨st, axs, cxs, xs, pr, tx, ut, rfl, q1a, q1c, (by unfold maxLen at q3; omega), (by unfold maxLen at q4; omega)⟩
end
section
open Go.ChangeShapes Go.WideShapes Go.ChangeAt Go.RowKit
set_option maxRecDepth 100000 in
theorem fnPieces_lifted (os : Os) (started : os.Started) (H : Type) (enc : TypeId × Value → H) :
    ReturnsInHanded {} Tryd.checked os 3 .any (fun w args => (Rows.fnPiecesSpec.pre enc Tryd.prog Tryd.f3 [] false w args ∧ laidMetH Tryd.prog Rows.fnPiecesRow.laid w) ∧ sizedMet enc Tryd.prog Tryd.f3 (OpenSpec.ofChange Rows.fnPiecesSpec) false w args)
      (Rows.fnPiecesSpec.post enc Tryd.prog Tryd.f3 false true false false) := by
  refine returnsInHanded_of_change_and (C := Tryd.checked) (X := fun w _ => laidMetH Tryd.prog Rows.fnPiecesRow.laid w) (fun _ _ _ hh h => h.of_heap hh) Tryd.own started (by kernel_rfl) Tryd.func3
    (ChangeSpec.witness_shaped (enc := enc) (C := Tryd.checked) (os := os) (X := fun w _ => laidMetH Tryd.prog Rows.fnPiecesRow.laid w) false (World.laidAll Tryd.prog os Rows.fnPiecesRow.laid) #[.slice none 0 0, .slice none 0 0] 8 (World.laidAll_os _ _ _)
      (World.shaped_of_ZipB (by kernel_rfl) (by kernel_rfl)) (by kernel_rfl) (by kernel_rfl) (by kernel_rfl)
      (by rw [MakeChecks.laidMetH_plain _ _ _ (by kernel_rfl)]; exact laidMet_laidAll _ (by kernel_rfl) (by kernel_rfl))) ?_
  intro W base args ds gs before hval0 hW hc _ hL0 _
  have hval : ∀ (j : Nat) t v, Tryd.f3.params[j]? = some t → args[j]? = some v → Value.okWide Tryd.prog W .any base t v := hval0
  have hW' := hW
  obtain ⟨p, q, hA0, hV, rfl, _, _⟩ := hW
  have hA : DataW.TrodAll enc Tryd.prog W 0 (fun _ => true) true Tryd.f3.params.toList args.toList ds p := hA0
  rw [Tryd.params3] at hA hval
  rw [MakeChecks.laidMetH_plain _ _ _ (by kernel_rfl)] at hL0
  have hL : laidMet Tryd.prog Rows.fnPiecesRow.laid W := hL0
  obtain ⟨v0, v1, d0, d1, p0, p1, rfl, rfl, rfl, h0, h1⟩ := trodAll_two hA
  obtain ⟨rfl, rfl⟩ := trodVars_none hV
  obtain ⟨a, ca, xs, rfl, la, _, ha⟩ := open_byteSl (hval 0 22 v0 rfl rfl) h0
  obtain ⟨b, cb, ys, rfl, lb, _, hb⟩ := open_byteSl (hval 1 22 v1 rfl rfl) h1
  have hut : UT W := utLaid hL (.tail _ (.head _)) (.head _)
  exact law_calls rfl rfl (by kernel_rfl) hW' rfl (lawPieces_c a ca xs b cb ys W ha hb la lb hut)
theorem fnPieces_said : Rows.FnPiecesSaid :=
  OpenClaim.holds_of_wide 3 Tryd.f3 rfl rfl rfl rfl rfl rfl rfl ⟨rfl, rfl, rfl, rfl, rfl⟩ rfl rfl rfl rfl rfl (by kernel_rfl) Tryd.func3 (by kernel_rfl)
    (of_decide_eq_true (by kernel_rfl)) (by unfold Func.isWrapper; first | (rw [if_pos (by decide +kernel)]; kernel_rfl) | (rw [if_neg (by decide +kernel)]; exact ⟨rfl, rfl⟩))
    (fun os started H enc _ => fnPieces_lifted os started H enc)
theorem fnPieces_holds : Rows.FnPiecesCardSaid :=
  Claim7.holds_tied_plain_at .later [] [.data, .pinned] true (true, "05846fea5c9a64b9555df6302008e22e854597f0c8f584b587de17cee55c3bbd") false fnPieces_said (fun _ h => by cases h) (by kernel_rfl) (fun _ h => by cases h) fnPieces_row_tie rfl ⟨rfl, rfl⟩ (by kernel_rfl) rfl
    (fun f fn hf hfn => by
      obtain rfl : f = 3 := Option.some.inj ((show Tryd.prog.funcNamed "loop.example/g00308/laws.FnPieces" = some 3 by kernel_rfl).symm.trans hf) |>.symm
      obtain rfl : fn = Tryd.f3 := (Option.some.inj (Tryd.func3.symm.trans hfn)).symm
      exact ⟨by kernel_rfl, fun j t ht => by
        rw [Tryd.params3] at ht
        have hm : t ∈ [22] := by simpa using Array.mem_of_getElem? ht
        have hall : ([22].all fun u => !Tryd.prog.wantsStandIn u) = true := by kernel_rfl
        exact (show Tryd.prog.wantsStandIn t = false by simpa using List.all_eq_true.1 hall t hm)⟩)
    (by kernel_rfl)
#print axioms fnPieces_holds
end
end Go.Proofs.YtlhhlmalihajcaaDoor
