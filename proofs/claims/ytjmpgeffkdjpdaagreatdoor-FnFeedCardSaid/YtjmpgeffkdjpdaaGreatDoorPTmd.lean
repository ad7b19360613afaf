/- Contracts of the functions that the claim reaches. No conditions but sizes. -/
import Derived.Test.YtjmpgeffkdjpdaaGreatDoorPTmc
import Derived.WalkLawsBesides
import Derived.WalkSpells
import Derived.Lib.Strings
import Derived.Deep.DeepCutAuto
import Derived.Laws.IdiomCopy
import Derived.Deep.RegionHeld3
namespace Go.Proofs.YtjmpgeffkdjpdaaGreatDoor
set_option linter.unusedVariables false
set_option linter.unusedSimpArgs false
set_option maxRecDepth 100000
set_option maxHeartbeats 16000000
open Go.RowKit
section
def numL (ns : List Int) : List UInt8 := ns.flatMap fun n => be (n + 1).toNat 3
theorem Zh0 (ns : List Int) : (numL ns).length = 3 * ns.length := by
 induction ns with
 | nil => rfl
 | cons n ns ih => simp only [numL, List.flatMap_cons, List.length_append, Za8, List.length_cons] at *; omega
theorem Yh2 (ns : List Int) (k : Nat) (hk : k < ns.length) : numL (ns.take (k + 1)) = numL (ns.take k) ++ be (ns[k] + 1).toNat 3 := by
 unfold numL
 rw [List.take_succ_eq_append_getElem hk, List.flatMap_append]
 simp only [List.flatMap_cons, List.flatMap_nil, List.append_nil]
def Zn3 (s : ByteArray) : List UInt8 := be s.size 2 ++ s.data.toList
def fldB (fs : List ByteArray) : List UInt8 := fs.flatMap Zn3
def fldL (fs : List ByteArray) : List UInt8 := UInt8.ofNat fs.length :: fldB fs
theorem Zo2 (s : ByteArray) : (Zn3 s).length = 2 + s.size := by simp [Zn3, Za8]
theorem Yd6 (fs : List ByteArray) (k : Nat) (hk : k < fs.length) : fldB (fs.take (k + 1)) = fldB (fs.take k) ++ Zn3 fs[k] := by
 unfold fldB
 rw [List.take_succ_eq_append_getElem hk, List.flatMap_append]
 simp only [List.flatMap_cons, List.flatMap_nil, List.append_nil]
theorem Zv0 (fs : List ByteArray) (M : Nat) (h : ∀ s ∈ fs, s.size ≤ M) : (fldB fs).length ≤ fs.length * (2 + M) := by
 induction fs with
 | nil => simp [fldB]
 | cons s fs ih =>
   have h1 := h s (by simp)
   have h2 := ih (fun x hx => h x (by simp [hx]))
   simp only [fldB, List.flatMap_cons, List.length_append, List.length_cons, Zo2] at *
   rw [Nat.add_mul]
   omega
end
section
theorem Zs0 (a : Option Addr) (ca : Nat) (ns : List Int) (w : World) (ha : Sl iE 1 w a ns) (la : ns.length ≤ 1048576) (hn : ∀ n ∈ ns, -1 ≤ n ∧ n ≤ 1099511627775) :
 Calls Tryz.prog 96 #[.slice a ns.length ca] w (Ze0 yE 5 1 w (numL ns)) := by
 obtain ⟨i0, hi, hz0, hz1, hz2⟩ := info_parts Tryz.infoByte
 have HN := zz hn
 clear hn
 go_enter Tryz.func96, Tryz.ntmps96
 go_wp2_with fail
 go_loopw [3, 4] (fun v i wr => ∃ (k : Nat) (av : Option Addr) (cv : Nat) (L : List UInt8), k ≤ ns.length ∧ i = .int .i64 k ∧ v = .slice av L.length cv ∧ Hid (L = numL (ns.take k)) ∧ L.length ≤ 3145728 ∧ F_ yE 5 1 w.heap.size (.slice av L.length cv) L wr ∧ Below w.heap.size w wr) (fun _ i _ => ns.length - (intOf i).toNat)
 case atStart => exact ⟨0, _, _, [], Nat.zero_le _, rfl, rfl, rfl, by simp, F_.of_own (World.ownsRow_made _ #[] 0 (Nat.le_refl _) (by decide) rfl) rfl rfl, (by repeat (first | exact Below.refl _ _ | (refine Below.alloc ?_ (by (try simp) <;> (try omega)) _) | (refine Below.setCell ?_ (by (try simp) <;> (try omega)) _) | (refine Below.drew ?_) | (refine Below.trans ?_ (Below.mono (by assumption) (by (try simp) <;> (try omega))))))⟩
 case round =>
  obtain ⟨k, av, cv, L, hk, rfl, rfl, hL, hl, hf, hbel⟩ := hrel
  have hz := hbel.size
  have HF := zz hf.here
  have HBW := zz hbel
  clear hf
  by_cases hlt : k < ns.length
  ·have HSN := zz (Yh2 ns k hlt)
   obtain ⟨b1, o1, rfl, hb1, hc1⟩ := (ha.keep hbel).at hlt
   have c1 := hc1 k hlt 0 (by omega)
   simp only [iE, Nat.mul_one, Nat.add_zero, List.getElem?_cons_zero] at c1
   have hin := HN.out ns[k] (List.getElem_mem _)
   obtain ⟨n, hn⟩ : ∃ n : Nat, ns[k] = (n : Int) - 1 := ⟨(ns[k] + 1).toNat, by omega⟩
   have hn40 : n ≤ 1099511627776 := by omega
   have hnn : (ns[k] + 1).toNat = n := by omega
   rw [hnn] at HSN
   rw [hn] at c1
   have E1 : Hid ((n : Int) - 1 + 1 = (n : Int)) := by show _ = _; omega
   clear hc1 hbel hin hn hnn
   go_wp2_with fail
   try rw [E1.out]
   refine (Zg5 n 3 _ (by omega) (by omega)).mono ?_
   rintro e w2 ⟨v2, rfl, hf2, hb2⟩
   obtain ⟨a2, c2, rfl, hc2, ho2⟩ := id hf2
   have hs2 : Sl yE 1 w2 a2 (be n 3) := Sl.of_own (fun _ => rfl) ho2
   have hy2 := hb2.size
   have HB2 := zz hb2
   have HF2 := zz (HF.out.below hb2)
   have hlb : (be n 3).length ≤ 3 := by rw [Za8]; omega
   clear hb2 hf2 ho2
   generalize hE : be n 3 = E at *
   have HE := zz hE
   clear hE
   go_wp2_with (first
    | (skip
       at_builtin
       refine wF rfl (.tmp 12) (.tmp 18) 22 22 rfl (w.heap.size) (wr.heap.size) 5 i0 (.int .u8 0) 1 1 Tryz.underlying22 hi hz0 hz1 hz2 rfl (by decide) (.slice av L.length cv) (L) rfl (HF2.out) _ (E) rfl (Src.ofSl (enc := yE) Tryz.underlying22 (fun _ => rfl) Yf0 hs2 _) (by (try simp) <;> (try omega)) (by (try simp) <;> (try omega)) ?_
       intro a3 c3 w3 L3 hL3 hf3 hm3
       skip))
   go_roundw
   case rel =>
    have hl3 := Zh0 (ns.take (k + 1))
    have e3 : L3 = numL (ns.take (k + 1)) := by rw [hL3.out, hL.out, HSN.out]
    refine ⟨k + 1, a3, c3, L3, by omega, by go_num, rfl, e3, by rw [e3, hl3, List.length_take]; omega, hf3.1, (HBW.out.trans (HB2.out.mono hz)).trans (hm3.below (Nat.le_refl _) (by omega))⟩
   case measure => simp [intOf]; omega
  ·obtain rfl : k = ns.length := by omega
   have e1 : L = numL ns := by rw [hL.out, List.take_length]
   have E1 := zz e1
   clear hbel e1
   go_wp2_with fail
   go_ret
   rw [← E1.out]
   exact ⟨_, rfl, HF.out.1, HBW.out⟩
theorem Zj8 (a : Option Addr) (ca : Nat) (fs : List ByteArray) (w : World) (ha : Sl sE 1 w a fs) (la : fs.length ≤ 4096) (hs : ∀ s ∈ fs, s.size ≤ 1048576) :
 Calls Tryz.prog 97 #[.slice a fs.length ca] w (Ze0 yE 5 1 w (fldL fs)) := by
 obtain ⟨i0, hi, hz0, hz1, hz2⟩ := info_parts Tryz.infoByte
 have HS := zz hs
 clear hs
 go_enter Tryz.func97, Tryz.ntmps97
 go_wp2_with fail
 go_loopw [3, 4] (fun v i wr => ∃ (k : Nat) (av : Option Addr) (cv : Nat) (L : List UInt8), k ≤ fs.length ∧ i = .int .i64 k ∧ v = .slice av L.length cv ∧ Hid (L = UInt8.ofNat fs.length :: fldB (fs.take k)) ∧ L.length ≤ 5000000000 ∧ F_ yE 5 1 w.heap.size (.slice av L.length cv) L wr ∧ Below w.heap.size w wr) (fun _ i _ => fs.length - (intOf i).toNat)
 case atStart =>
  refine ⟨0, some ⟨w.heap.size, 0, none⟩, 1, [UInt8.ofNat fs.length], Nat.zero_le _, rfl, rfl, rfl, by simp, ⟨_, _, rfl, by simp, ?_⟩, (by repeat (first | exact Below.refl _ _ | (refine Below.alloc ?_ (by (try simp) <;> (try omega)) _) | (refine Below.setCell ?_ (by (try simp) <;> (try omega)) _) | (refine Below.drew ?_) | (refine Below.trans ?_ (Below.mono (by assumption) (by (try simp) <;> (try omega))))))⟩
  refine ⟨by simp [yE], .inr ⟨w.heap.size, 1, _, rfl, Nat.le_refl _, heap_alloc_new w _, Nat.le_refl _, by unfold maxLen; omega, rfl, ?_⟩⟩
  have hu8 : (fs.length : Int) % 256 = ((UInt8.ofNat fs.length).toNat : Int) := by rw [UInt8.toNat_ofNat']; omega
  simp [yE, ← hu8]
 case round =>
  obtain ⟨k, av, cv, L, hk, rfl, rfl, hL, hl, hf, hbel⟩ := hrel
  have hz := hbel.size
  have HF := zz hf.here
  have HBW := zz hbel
  clear hf
  by_cases hlt : k < fs.length
  ·have HSN := zz (Yd6 fs k hlt)
   obtain ⟨b1, o1, rfl, hb0, _⟩ := ha.at hlt
   obtain ⟨b1', o1', he, hb1, hc1⟩ := (ha.keep hbel).at hlt
   cases he
   have c1 := hc1 k hlt 0 (by omega)
   simp only [sE, Nat.mul_one, Nat.add_zero, List.getElem?_cons_zero] at c1
   have hsz := HS.out fs[k] (List.getElem_mem _)
   have hi0 : (0 : Int) ≤ (k : Int) := by omega
   have hi1 : (k : Int) < (fs.length : Int) := by omega
   generalize fs[k] = G at *
   have hdl := sizeData G
   have HDL := zz hdl
   have hdl' : G.data.toList.length ≤ 1048576 := by omega
   clear hc1 hbel hdl
   go_wp2_with fail
   go_region_held3 (fun w' => w'.cell? ⟨b1, o1 + k, none⟩ = some (.string G))
    (first | go_keep | assumption)
    (first
      | (go_at_call 128
         refine (Zg5 G.size 2 _ (by omega) (by omega)).mono ?_
         rintro e w2 ⟨v2, rfl, hf2, hb2⟩
         obtain ⟨a2, c2, rfl, hc2, ho2⟩ := id hf2
         have hs2 : Sl yE 1 w2 a2 (be G.size 2) := Sl.of_own (fun _ => rfl) ho2
         have hy2 := hb2.size
         simp at hy2
         have HB2 := zz hb2
         have HF2 := zz (HF.out.drew.below hb2)
         have hlb : (be G.size 2).length ≤ 2 := by rw [Za8]; omega
         have g2 : w2.cell? ⟨b1, o1 + k, none⟩ = some (.string G) := by
          rw [hb2.cell (p := ⟨b1, o1 + k, none⟩) (by show b1 < _; simp; omega)]
          simpa using c1
         clear hb2 hf2 ho2)
      | (have tok1 := HF2
         clear HF2
         refine Zc5 (by rfl) (.tmp 15) (.tmp 21) 22 22 (by rfl) w.heap.size wr.heap.size 5 i0 (.int .u8 0) 1 1 Tryz.underlying22 hi hz0 hz1 hz2 rfl (by decide) (.slice av L.length cv) L (by rfl) tok1.out _ (be G.size 2) (by rfl) (Src.ofSl (enc := yE) Tryz.underlying22 (fun _ => rfl) Yf0 hs2 _) (by omega) (by omega) ?_
         intro a3 c3 w3 L3 hL3 hf3 hm3
         have hy3 := hm3.size
         have hl3 : L3.length ≤ 5000000002 := by rw [hL3.out, List.length_append]; omega
         have g3 : w3.cell? ⟨b1, o1 + k, none⟩ = some (.string G) := by
          rw [hm3.cell (p := ⟨b1, o1 + k, none⟩) (by show b1 < _; omega) (.inl (by show b1 < _; omega))]
          exact g2)
      | (have tok2 := hf3
         refine Zc5 (by rfl) (.tmp 22) (.tmp 26) 22 9 (by rfl) w.heap.size w3.heap.size 5 i0 (.int .u8 0) 1 1 Tryz.underlying22 hi hz0 hz1 hz2 rfl (by decide) (.slice a3 L3.length c3) L3 (by rfl) tok2 _ G.data.toList (by rfl) (Src.ofStr Tryz.underlying9 G) (by omega) (by omega) ?_
         intro a4 c4 w4 L4 hL4 hf4 hm4
         have g4 : w4.cell? ⟨b1, o1 + k, none⟩ = some (.string G) := by
          rw [hm4.cell (p := ⟨b1, o1 + k, none⟩) (by show b1 < _; omega) (.inl (by show b1 < _; omega))]
          exact g3))
   go_wp2_with fail
   go_roundw
   case rel =>
    have e4 : L4 = UInt8.ofNat fs.length :: fldB (fs.take (k + 1)) := by
     rw [hL4.out, hL3.out, hL.out, HSN.out]
     simp [Zn3]
    have hle := Zv0 (fs.take (k + 1)) 1048576 (fun s hs => HS.out s (List.mem_of_mem_take hs))
    refine ⟨k + 1, a4, c4, L4, by omega, by go_num, rfl, e4, ?_, hf4.1, ?_⟩
    ·rw [e4]
     simp only [List.length_cons, List.length_take] at hle ⊢
     have : min (k + 1) fs.length * (2 + 1048576) ≤ 4096 * (2 + 1048576) := Nat.mul_le_mul_right _ (by omega)
     omega
    ·exact (((HBW.out.drew).trans (HB2.out.mono (by simp; omega))).trans (hm3.below (Nat.le_refl _) (by omega))).trans (hm4.below (Nat.le_refl _) (by omega))
   case measure => simp [intOf]; omega
  ·obtain rfl : k = fs.length := by omega
   have e1 : L = fldL fs := by rw [hL.out, List.take_length]; rfl
   have E1 := zz e1
   clear hbel e1
   go_wp2_with fail
   go_ret
   rw [← E1.out]
   exact ⟨_, rfl, HF.out.1, HBW.out⟩
end
section
theorem Zn9 (l : List UInt8) (n : Nat) : (sO_ l).extract 0 n = sO_ (l.take n) := by
 apply ByteArray.ext
 apply Array.toList_inj.1
 rw [Lib.extract_data]
 rfl
theorem Zj7 (l : List UInt8) : (sO_ l).toList = l := Lib.toList_data _
def lenOf : Value → Nat
 | .string s => s.size
 | _ => 0
theorem strOneC : ∀ (x : ByteArray), ∀ u ∈ sE x, u.oneCell' = true := fun x u hu => by simp [sE] at hu; subst hu; rfl
end
section
theorem Sl.sub {α : Type} {enc : α → List Value} {sz : Nat} {w : World} {b off : Nat} {xs : List α} (h : Sl enc sz w (some ⟨b, off, none⟩) xs) (k j : Nat) (hk : k < xs.length) : Sl enc sz w (some ⟨b, off + k * sz, none⟩) ((xs.drop k).take j) := by
 obtain ⟨b', off', he, hb, hc⟩ := h.at hk
 cases he
 refine .inr ⟨b, off + k * sz, rfl, hb, fun i hi j' hj => ?_⟩
 have hi' : i < j ∧ i < xs.length - k := by simp at hi; omega
 have := hc (k + i) (by omega) j' hj
 rw [show off + k * sz + i * sz + j' = off + (k + i) * sz + j' by rw [Nat.add_mul]; omega, this]
 simp
end
section
def rdF : Nat → List UInt8 → Option (List ByteArray)
 | 0, l => if l = [] then some [] else none
 | n + 1, l => if l.length < 2 then none else if 20000 < bn (l.take 2) then none else if l.length < 2 + bn (l.take 2) then none
   else (rdF n (l.drop (2 + bn (l.take 2)))).map (sO_ ((l.drop 2).take (bn (l.take 2))) :: ·)
def rdAll : List UInt8 → Option (List ByteArray)
 | [] => none
 | c :: r => if 60 < c.toNat then none else rdF c.toNat r
def ReadR (o : Option (List ByteArray)) (w : World) (e : Ending) (w' : World) : Prop :=
 ∃ a c L, e = .returned (.tuple #[.slice a L.length c, .bool o.isSome]) ∧ F_ sE 9 1 w.heap.size (.slice a L.length c) L w' ∧ (∀ L', o = some L' → L = L') ∧ Below w.heap.size w w'
theorem rdF_succ {n : Nat} {l : List UInt8} (h1 : 2 ≤ l.length) (h2 : bn (l.take 2) ≤ 20000) (h3 : 2 + bn (l.take 2) ≤ l.length) : rdF (n + 1) l = (rdF n (l.drop (2 + bn (l.take 2)))).map (sO_ ((l.drop 2).take (bn (l.take 2))) :: ·) := by
 rw [rdF, if_neg (by omega), if_neg (by omega), if_neg (by omega)]
theorem ReadR.none {w w' : World} {o : Option (List ByteArray)} (ho : o = none) (hb : Below w.heap.size w w') : ReadR o w (.returned (.tuple #[.slice none 0 0, .bool false])) w' := by
 subst ho
 exact ⟨Option.none, 0, [], rfl, (Fr.nil _ _ _ _ 0 _).1, (fun _ h => by cases h), hb⟩
end
section
def ReadS (o : Option (List ByteArray)) (w : World) (e : Ending) (w' : World) : Prop :=
 ∃ a c L, e = .returned (.tuple #[.slice a L.length c, .bool o.isSome]) ∧ F_ sE 9 1 w.heap.size (.slice a L.length c) L w' ∧ (∀ L', o = some L' → L = L') ∧ Below w.heap.size w w'
theorem Ya3 (w : World) (B : Nat) (hB : B ≤ w.heap.size) : F_ sE 9 1 B (.slice (some ⟨w.heap.size, 0, none⟩) 0 0) [] (w.alloc (.cells #[] 9)) :=
 F_.of_own (World.ownsRow_made (base := B) w #[] 0 hB (by decide) rfl) rfl rfl
theorem ReadS.none {w w' : World} {o : Option (List ByteArray)} (ho : o = none) (hb : Below w.heap.size w w') : ReadS o w (.returned (.tuple #[.slice (some ⟨w'.heap.size, 0, Option.none⟩) 0 0, .bool false])) (w'.alloc (.cells #[] 9)) := by
 subst ho
 exact ⟨some ⟨w'.heap.size, 0, Option.none⟩, 0, [], rfl, Ya3 w' _ hb.size, (fun _ h => by cases h), hb.alloc hb.size _⟩
end
section
theorem be_two (n : Nat) : be n 2 = [beB n 2 0, beB n 2 1] := rfl
theorem Zz3 (n : Nat) : be n 3 = [beB n 3 0, beB n 3 1, beB n 3 2] := rfl
theorem bn_be2 (n : Nat) (h : n < 65536) : bn (be n 2) = n := by
 rw [be_two]
 simp only [bn, List.foldl_cons, List.foldl_nil, Zl9]
 simp
 omega
theorem bn_be3 (n : Nat) (h : n < 16777216) : bn (be n 3) = n := by
 rw [Zz3]
 simp only [bn, List.foldl_cons, List.foldl_nil, Zl9]
 simp
 omega
theorem Zn0 : ∀ (fs : List ByteArray), (∀ s ∈ fs, s.size ≤ 20000) → rdF fs.length (fldB fs) = some fs
 | [], _ => by
   show rdF 0 (fldB []) = _
   rw [rdF]
   rfl
 | f :: fs, h => by
   have h1 : f.size ≤ 20000 := h f (by simp)
   have ih := Zn0 fs (fun s hs => h s (by simp [hs]))
   have hl : fldB (f :: fs) = be f.size 2 ++ (f.data.toList ++ fldB fs) := by simp [fldB, Zn3]
   have ht : (fldB (f :: fs)).take 2 = be f.size 2 := by rw [hl]; exact List.take_left' (Za8 _ _)
   have hd : (fldB (f :: fs)).drop 2 = f.data.toList ++ fldB fs := by rw [hl]; exact List.drop_left' (Za8 _ _)
   have hb : bn ((fldB (f :: fs)).take 2) = f.size := by rw [ht]; exact bn_be2 _ (by omega)
   have hs : f.data.toList.length = f.size := rfl
   have hlen : (fldB (f :: fs)).length = 2 + (f.size + (fldB fs).length) := by rw [hl]; simp [Za8]
   show rdF (fs.length + 1) _ = _
   rw [rdF_succ (by omega) (by rw [hb]; omega) (by rw [hb]; omega), hb, ← List.drop_drop, hd, List.drop_left' hs, List.take_left' hs, ih]
   rfl
theorem Zn2 (fs : List ByteArray) (h : ∀ s ∈ fs, s.size ≤ 20000) (hl : fs.length ≤ 60) : rdAll (fldL fs) = some fs := by
 have h1 : (UInt8.ofNat fs.length).toNat = fs.length := by simp; omega
 show rdAll (UInt8.ofNat fs.length :: fldB fs) = _
 rw [rdAll, h1, if_neg (by omega)]
 exact Zn0 fs h
theorem Zl5 (l : List UInt8) : (sO_ l).data.toList = l := by simp [sO_]
end
section
structure ScrI where
 w : Int
 h : Int
 x : Int
 y : Int
 look : Int
 top : Int
 bot : Int
 sx : Int
 sy : Int
 title : ByteArray
 cells : List Cl
 hist : List ByteArray
def Scr.i (s : Scr) : ScrI := ⟨s.w, s.h, s.x, s.y, s.look, s.top, s.bot, s.sx, s.sy, s.title, s.cells, s.hist⟩
def scrH (s : ScrI) : Bool := (inB s.w 2 24 && inB s.h 2 10) && inB s.x 0 s.w && inB s.y 0 (s.h - 1) && inB s.look 0 127 && inB s.top 0 (s.h - 2) && inB s.bot (s.top + 1) (s.h - 1) && inB s.sx 0 s.w && inB s.sy 0 (s.h - 1) && decide (s.title.size ≤ 40) && decide ((s.cells.length : Int) = s.w * s.h) && decide (s.hist.length ≤ 6)
def celB (c : Cl) : Bool := inB c.1 0 1114111 && !inB c.1 55296 57343 && decide (32 ≤ c.1) && !(c.1 == 127) && inB c.2 0 127
def tiB (l : List UInt8) : Bool := l.all fun b => decide (32 ≤ b.toNat) && decide (b.toNat ≤ 126)
def scrB (s : ScrI) : Bool := scrH s && tiB s.title.data.toList && s.cells.all celB && s.hist.all fun t => decide (t.size ≤ 96)
theorem Zk9 (n : Int) (W : World) : Calls Tryz.prog 77 #[.int .i64 n] W fun e w' => e = .returned (.bool (inB n 0 1114111 && !inB n 55296 57343)) ∧ W = w' := by
 obtain ⟨u, hu⟩ := eX (inB n 0 1114111)
 obtain ⟨v, hv⟩ := eX (inB n 55296 57343)
 have HU := zz hu
 have HV := zz hv
 rw [hu, hv]
 clear hu hv
 cases u <;> cases v
 all_goals
  go_enter Tryz.func77, Tryz.ntmps77
  go_wp2_with (go_at_call 60; refine (lI _ _ _ _).mono ?_; (first | rw [HU.out] | rw [HV.out]); rintro e w' ⟨rfl, rfl⟩)
  all_goals
   go_ret
   exact ⟨rfl, rfl⟩
theorem Yf4 (c : Cl) (W : World) : Calls Tryz.prog 61 #[.agg #[.int .i64 c.1, .int .i64 c.2]] W fun e w' => e = .returned (.bool (celB c)) ∧ Below W.heap.size W w' := by
 obtain ⟨n, k⟩ := c
 obtain ⟨u, hu⟩ : ∃ u, (inB n 0 1114111 && !inB n 55296 57343) = u := ⟨_, rfl⟩
 obtain ⟨v, hv⟩ := eX (inB k 0 127)
 have HU := zz hu
 have HV := zz hv
 have hB : celB (n, k) = (u && decide (32 ≤ n) && !(n == 127) && v) := by unfold celB; rw [hu, hv]
 rw [hB]
 clear hB hu hv
 by_cases h32 : 32 ≤ n
 ·have q32 : decide (32 ≤ n) = true := decide_eq_true h32
  cases h127 : (n == 127) <;> cases u <;> cases v
  all_goals
   have q127 : (n != 127) = !(n == 127) := rfl
   rw [h127] at q127
   go_enter Tryz.func61, Tryz.ntmps61
   go_wp2_with (first | (go_at_call 77; refine (Zk9 _ _).mono ?_; rw [HU.out]; rintro e w' ⟨rfl, rfl⟩) | (go_at_call 60; refine (lI _ _ _ _).mono ?_; rw [HV.out]; rintro e w' ⟨rfl, rfl⟩))
   all_goals
    go_ret
    exact ⟨by simp [h32], bA⟩
 ·have q32 : decide (32 ≤ n) = false := decide_eq_false h32
  cases u
  all_goals
   go_enter Tryz.func61, Tryz.ntmps61
   go_wp2_with (first | (go_at_call 77; refine (Zk9 _ _).mono ?_; rw [HU.out]; rintro e w' ⟨rfl, rfl⟩) | (go_at_call 60; refine (lI _ _ _ _).mono ?_; rw [HV.out]; rintro e w' ⟨rfl, rfl⟩))
   all_goals
    go_ret
    exact ⟨by rw [q32]; simp, bA⟩
end
section
def cel4 (c : Cl) : List UInt8 := be c.1.toNat 3 ++ [UInt8.ofNat c.2.toNat]
def celL (l : List Cl) : List UInt8 := l.flatMap cel4
def nineL (s : ScrI) : List Int := [s.w, s.h, s.x, s.y, s.look, s.top, s.bot, s.sx, s.sy]
def rowI (s : ScrI) (y : Nat) : List Cl := (s.cells.drop (y * s.w.toNat)).take s.w.toNat
def rowsL (s : ScrI) (n : Nat) : List ByteArray := (List.range n).map fun y => sO_ (celL (rowI s y))
def scrFs (s : ScrI) : List ByteArray := sO_ (numL (nineL s)) :: s.title :: sO_ (fldL s.hist) :: rowsL s s.h.toNat
def Zb4 (s : ScrI) : List UInt8 := fldL (scrFs s)
def ScrIs (l : List UInt8) (s : ScrI) : Prop := scrB s = true ∧ Zb4 s = l
def Zq8 : Nat → List UInt8 → List Cl
 | 0, _ => []
 | n + 1, l => ((bn (l.take 3) : Int), ((l.getD 3 0).toNat : Int)) :: Zq8 n (l.drop 4)
theorem Zg9 (c : Cl) : (cel4 c).length = 4 := by simp [cel4, Za8]
theorem Zs3 (c : Cl) (l : List Cl) : celL (c :: l) = cel4 c ++ celL l := rfl
theorem Zg6 : ∀ l : List Cl, (celL l).length = 4 * l.length
 | [] => rfl
 | c :: l => by rw [Zs3, List.length_append, Zg9, Zg6 l, List.length_cons]; omega
theorem Zk6 : ∀ l : List Cl, (∀ c ∈ l, 0 ≤ c.1 ∧ c.1 < 16777216 ∧ 0 ≤ c.2 ∧ c.2 < 256) → Zq8 l.length (celL l) = l
 | [], _ => rfl
 | c :: l, h => by
   have hc := h c (by simp)
   have ih := Zk6 l (fun y hy => h y (by simp [hy]))
   obtain ⟨n, k⟩ := c
   simp only at hc
   rw [List.length_cons, Zs3]
   show ((bn ((cel4 (n, k) ++ celL l).take 3) : Int), (((cel4 (n, k) ++ celL l).getD 3 0).toNat : Int)) :: Zq8 l.length ((cel4 (n, k) ++ celL l).drop 4) = _
   have e1 : (cel4 (n, k) ++ celL l).take 3 = be n.toNat 3 := by
    rw [cel4, List.append_assoc, List.take_append_of_le_length (by rw [Za8]; exact Nat.le_refl _), List.take_of_length_le (by rw [Za8]; exact Nat.le_refl _)]
   have e2 : (cel4 (n, k) ++ celL l).drop 4 = celL l := by
    rw [List.drop_append_of_le_length (by rw [Zg9]; exact Nat.le_refl _), List.drop_of_length_le (by rw [Zg9]; exact Nat.le_refl _), List.nil_append]
   have e3 : (cel4 (n, k) ++ celL l).getD 3 0 = UInt8.ofNat k.toNat := by
    rw [cel4, Zz3]
    rfl
   rw [e1, e2, e3, ih, bn_be3 _ (by omega), UInt8.toNat_ofNat']
   congr 2 <;> omega
theorem Zt5 (w : Nat) (l : List Cl) : ∀ h, (List.range h).flatMap (fun y => (l.drop (y * w)).take w) = l.take (h * w)
 | 0 => by simp
 | h + 1 => by
   rw [List.range_succ, List.flatMap_append, Zt5 w l h, Nat.succ_mul, List.take_add]
   simp
theorem Zp0 {x a b : Int} : inB x a b = true ↔ a ≤ x ∧ x ≤ b := by unfold inB; simp
theorem celB_iff (c : Cl) : celB c = true → 0 ≤ c.1 ∧ c.1 < 16777216 ∧ 0 ≤ c.2 ∧ c.2 < 256 := by
 intro h
 unfold celB at h
 simp only [Bool.and_eq_true, Zp0] at h
 omega
structure ScrBs (s : ScrI) : Prop where
 w1 : 2 ≤ s.w
 w2 : s.w ≤ 24
 h1 : 2 ≤ s.h
 h2 : s.h ≤ 10
 x1 : 0 ≤ s.x
 x2 : s.x ≤ s.w
 y1 : 0 ≤ s.y
 y2 : s.y ≤ s.h - 1
 l1 : 0 ≤ s.look
 l2 : s.look ≤ 127
 t1 : 0 ≤ s.top
 t2 : s.top ≤ s.h - 2
 b1 : s.top + 1 ≤ s.bot
 b2 : s.bot ≤ s.h - 1
 sx1 : 0 ≤ s.sx
 sx2 : s.sx ≤ s.w
 sy1 : 0 ≤ s.sy
 sy2 : s.sy ≤ s.h - 1
 ti : s.title.size ≤ 40
 tt : tiB s.title.data.toList = true
 cn : (s.cells.length : Int) = s.w * s.h
 cs : ∀ c ∈ s.cells, celB c = true
 hn : s.hist.length ≤ 6
 hs : ∀ t ∈ s.hist, t.size ≤ 96
theorem Zh2 (s : ScrI) : scrB s = true ↔ ScrBs s := by
 unfold scrB scrH
 simp only [Bool.and_eq_true, Zp0, decide_eq_true_eq, List.all_eq_true]
 constructor
 ·rintro ⟨⟨⟨⟨⟨⟨⟨⟨⟨⟨⟨⟨⟨⟨⟨a1, a2⟩, b1, b2⟩, c1, c2⟩, d1, d2⟩, e1, e2⟩, f1, f2⟩, g1, g2⟩, h1, h2⟩, i1, i2⟩, j⟩, k⟩, l⟩, m⟩, n⟩, o⟩
  exact ⟨a1, a2, b1, b2, c1, c2, d1, d2, e1, e2, f1, f2, g1, g2, h1, h2, i1, i2, j, m, k, n, l, o⟩
 ·rintro ⟨a1, a2, b1, b2, c1, c2, d1, d2, e1, e2, f1, f2, g1, g2, h1, h2, i1, i2, j, m, k, n, l, o⟩
  exact ⟨⟨⟨⟨⟨⟨⟨⟨⟨⟨⟨⟨⟨⟨⟨a1, a2⟩, b1, b2⟩, c1, c2⟩, d1, d2⟩, e1, e2⟩, f1, f2⟩, g1, g2⟩, h1, h2⟩, i1, i2⟩, j⟩, k⟩, l⟩, m⟩, n⟩, o⟩
end
section
variable {l : List UInt8} {s : ScrI}
theorem ScrBs.len (h : ScrBs s) : s.cells.length = s.h.toNat * s.w.toNat := by
 obtain ⟨a, ha⟩ : ∃ a : Nat, s.w = (a : Int) := ⟨s.w.toNat, by have := h.w1; omega⟩
 obtain ⟨b, hb⟩ : ∃ b : Nat, s.h = (b : Int) := ⟨s.h.toNat, by have := h.h1; omega⟩
 have e := h.cn
 rw [ha, hb] at e
 rw [ha, hb, Int.toNat_natCast, Int.toNat_natCast, Nat.mul_comm]
 exact_mod_cast e
theorem ScrBs.rowLen (h : ScrBs s) {y : Nat} (hy : y < s.h.toNat) : (rowI s y).length = s.w.toNat := by
 have e := h.len
 have h1 : (y + 1) * s.w.toNat ≤ s.h.toNat * s.w.toNat := Nat.mul_le_mul_right _ hy
 rw [Nat.succ_mul] at h1
 rw [rowI, List.length_take, List.length_drop]
 omega
theorem ScrBs.rowCs (h : ScrBs s) (y : Nat) : ∀ c ∈ rowI s y, 0 ≤ c.1 ∧ c.1 < 16777216 ∧ 0 ≤ c.2 ∧ c.2 < 256 := fun c hc =>
 celB_iff c (h.cs c (List.mem_of_mem_drop (List.mem_of_mem_take hc)))
theorem ScrBs.row4 (h : ScrBs s) {y : Nat} (hy : y < s.h.toNat) : (sO_ (celL (rowI s y))).size = 4 * s.w.toNat := by
 rw [Zc7, Zg6, h.rowLen hy]
theorem Zr1 (s : ScrI) (n : Nat) : (rowsL s n).length = n := by simp [rowsL]
theorem ScrBs.rows (h : ScrBs s) : ∀ r ∈ rowsL s s.h.toNat, r.size = 4 * s.w.toNat := by
 intro r hr
 obtain ⟨y, hy, rfl⟩ := List.mem_map.1 hr
 exact h.row4 (List.mem_range.1 hy)
theorem ScrBs.nine (h : ScrBs s) : ∀ x ∈ nineL s, -1 ≤ x ∧ x < 16777215 := by
 intro x hx
 obtain ⟨a1, a2, b1, b2, c1, c2, d1, d2, e1, e2, f1, f2, g1, g2, h1, h2, i1, i2, j, m, k, n, l, o⟩ := h
 simp only [nineL, List.mem_cons, List.not_mem_nil, or_false] at hx
 omega
theorem ScrBs.histLen (h : ScrBs s) : (fldL s.hist).length ≤ 589 := by
 have h1 := Zv0 s.hist 96 h.hs
 have h2 := h.hn
 simp only [fldL, List.length_cons]
 omega
theorem ScrBs.fs (h : ScrBs s) : ∀ r ∈ scrFs s, r.size ≤ 600 := by
 intro r hr
 have h1 := h.histLen
 have h2 := h.ti
 have h3 := h.w2
 simp only [scrFs, List.mem_cons] at hr
 rcases hr with rfl | rfl | rfl | hr
 ·rw [Zc7, Zh0]
  simp [nineL]
 ·omega
 ·rw [Zc7]
  omega
 ·have := h.rows r hr
  omega
theorem Zj1 (s : ScrI) : (scrFs s).length = 3 + s.h.toNat := by simp [scrFs, Zr1]; omega
theorem ScrBs.text (h : ScrBs s) : (Zb4 s).length ≤ 8000 := by
 have h1 := Zv0 (scrFs s) 600 h.fs
 rw [Zj1] at h1
 have h2 := h.h2
 simp only [Zb4, fldL, List.length_cons]
 have h3 : (3 + s.h.toNat) * (2 + 600) ≤ 13 * (2 + 600) := Nat.mul_le_mul_right _ (by omega)
 omega
theorem ScrIs.bs (h : ScrIs l s) : ScrBs s := (Zh2 s).1 h.1
theorem ScrIs.len (h : ScrIs l s) : l.length ≤ 8000 := by rw [← h.2]; exact h.bs.text
theorem ScrIs.read (h : ScrIs l s) : rdAll l = some (scrFs s) := by
 rw [← h.2]
 have hh := h.bs.h2
 exact Zn2 _ (fun r hr => by have := h.bs.fs r hr; omega) (by rw [Zj1]; omega)
theorem ScrIs.hist (h : ScrIs l s) : rdAll (fldL s.hist) = some s.hist :=
 Zn2 _ (fun r hr => by have := h.bs.hs r hr; omega) (by have := h.bs.hn; omega)
def rowsC (w : Nat) (rows : List ByteArray) : List Cl := rows.flatMap fun r => Zq8 w r.data.toList
theorem ScrIs.cells (h : ScrIs l s) : s.cells = rowsC s.w.toNat (rowsL s s.h.toNat) := by
 have e := Zt5 s.w.toNat s.cells s.h.toNat
 rw [List.take_of_length_le (by rw [h.bs.len]; exact Nat.le_refl _)] at e
 rw [rowsC, rowsL, List.flatMap_map]
 refine e.symm.trans ?_
 rw [List.flatMap_def, List.flatMap_def]
 refine congrArg List.flatten (List.map_congr_left ?_)
 intro y hy
 have hy' := List.mem_range.1 hy
 show rowI s y = Zq8 s.w.toNat (sO_ (celL (rowI s y))).data.toList
 have := Zk6 (rowI s y) (h.bs.rowCs y)
 rw [h.bs.rowLen hy'] at this
 rw [Zl5, this]
end
section
theorem Ye9 (c : Cl) : celB c = true ↔ celOK c := by
 unfold celB celOK rnOK
 simp only [Bool.and_eq_true, Zp0, decide_eq_true_eq, Bool.not_eq_true', beq_eq_false_iff_ne, ne_eq]
 have h : inB c.1 55296 57343 = false ↔ ¬ (55296 ≤ c.1 ∧ c.1 ≤ 57343) := by rw [← Bool.not_eq_true, Zp0]
 rw [h]
 omega
theorem Zp8 {t : ByteArray} : titB t = true ↔ t.size ≤ 40 ∧ tiB t.data.toList = true := by
 unfold titB tiB
 simp only [Bool.and_eq_true, decide_eq_true_eq]
theorem sK.b {s : Scr} (h : sK s) : scrB s.i = true := by
 obtain ⟨w1, w2, h1, h2, hx, hy, lk, tb, bh, hsx, hsy, ti, cn, cs, hn, hs⟩ := h
 obtain ⟨t1, t2⟩ := Zp8.1 ti
 refine (Zh2 _).2 ⟨?_, ?_, ?_, ?_, ?_, ?_, ?_, ?_, ?_, ?_, ?_, ?_, ?_, ?_, ?_, ?_, ?_, ?_, t1, t2, ?_, fun c hc => (Ye9 c).2 (cs c hc), hn, hs⟩
 all_goals simp only [Scr.i]
 all_goals first
  | omega
  | (rw [cn]; exact Int.natCast_mul _ _)
def ScrI.n (s : ScrI) : Scr := ⟨s.w.toNat, s.h.toNat, s.x.toNat, s.y.toNat, s.look.toNat, s.top.toNat, s.bot.toNat, s.sx.toNat, s.sy.toNat, s.title, s.cells, s.hist⟩
theorem ScrI.ok {s : ScrI} (h : scrB s = true) : sK s.n := by
 have hl := ((Zh2 s).1 h).len
 obtain ⟨a1, a2, b1, b2, c1, c2, d1, d2, e1, e2, f1, f2, g1, g2, h1, h2, i1, i2, j, m, k, n, l, o⟩ := (Zh2 s).1 h
 refine ⟨?_, ?_, ?_, ?_, ?_, ?_, ?_, ?_, ?_, ?_, ?_, Zp8.2 ⟨j, m⟩, ?_, fun c hc => (Ye9 c).1 (n c hc), l, o⟩
 all_goals simp only [ScrI.n]
 all_goals first
  | omega
  | (rw [hl, Nat.mul_comm])
end
section
def ApR (B : Nat) (v : Value) (n : Nat) (xs : List Value) (l : List UInt8) (w : World) (e : Ending) (w' : World) : Prop :=
 ∃ v', e = .returned v' ∧ w'.ownsRow B 5 1 v' (n + l.length) (xs ++ Lib.byteCells l) ∧ ∃ o, (w.alloc o).grownBy w' v.ownBlock
def ApC (B : Nat) (v : Value) (n k : Nat) (xs ys : List Value) (w : World) (e : Ending) (w' : World) : Prop :=
 ∃ v', e = .returned v' ∧ w'.ownsRow B 5 1 v' (n + k) (xs ++ ys) ∧ ∃ o, (w.alloc o).grownBy w' v.ownBlock
theorem apRune2 (B : Nat) (v : Value) (n : Nat) (xs : List Value) (r : Int) (h0 : 128 ≤ r) (h1 : r ≤ 2047) (w : World) (hown : w.ownsRow B 5 1 v n xs) (hn : n ≤ 1099511627776) (hBw : B ≤ w.heap.size) :
 Calls Tryz.prog 130 #[v, .int .i32 r] w (ApC B v n 2 xs [.int .u8 (192 + r / 64), .int .u8 (128 + r % 64)] w) := by
 obtain ⟨i0, hi, hz0, hz1, hz2⟩ := info_parts Tryz.infoByte
 go_enter Tryz.func130, Tryz.ntmps130
 go_wp2_with (at_builtin; refine wpList_append_own _ rfl _ _ 22 rfl B 5 i0 (.int .u8 0) 1 1 Tryz.underlying22 hi hz0 hz1 hz2 rfl (by decide) _ _ _ rfl (hown.alloc _) ⟨w.heap.size, 0, none⟩ 2 2 [.int .u8 (192 + r / 64), .int .u8 (128 + r % 64)] rfl rfl ?c1 ?c2 ?c4 ?c5 ?c6 ?_)
 case c1 =>
  intro j u hj
  match j, hj with
  | 0, hj => simp at hj; subst hj; simp [Addr.add]
  | 1, hj => simp at hj; subst hj; simp [Addr.add]
  | (j + 2), hj => simp at hj
 case c2 => intro u hu; simp at hu; (try rcases hu with rfl | rfl) <;> (try subst hu) <;> rfl
 case c4 => unfold maxLen; omega
 case c5 => omega
 case c6 => simp; omega
 intro v' w2 hown' hgrow _
 go_wp2
 go_ret
 exact ⟨_, rfl, hown', _, hgrow⟩
theorem apRune3a (B : Nat) (v : Value) (n : Nat) (xs : List Value) (r : Int) (h0 : 2048 ≤ r) (h1 : r < 55296) (w : World) (hown : w.ownsRow B 5 1 v n xs) (hn : n ≤ 1099511627776) (hBw : B ≤ w.heap.size) :
 Calls Tryz.prog 130 #[v, .int .i32 r] w (ApC B v n 3 xs [.int .u8 (224 + r / 4096), .int .u8 (128 + r / 64 % 64), .int .u8 (128 + r % 64)] w) := by
 obtain ⟨i0, hi, hz0, hz1, hz2⟩ := info_parts Tryz.infoByte
 go_enter Tryz.func130, Tryz.ntmps130
 go_wp2_with (at_builtin; refine wpList_append_own _ rfl _ _ 22 rfl B 5 i0 (.int .u8 0) 1 1 Tryz.underlying22 hi hz0 hz1 hz2 rfl (by decide) _ _ _ rfl (hown.alloc _) ⟨w.heap.size, 0, none⟩ 3 3 [.int .u8 (224 + r / 4096), .int .u8 (128 + r / 64 % 64), .int .u8 (128 + r % 64)] rfl rfl ?c1 ?c2 ?c4 ?c5 ?c6 ?_)
 case c1 =>
  intro j u hj
  match j, hj with
  | 0, hj => simp at hj; subst hj; simp [Addr.add]
  | 1, hj => simp at hj; subst hj; simp [Addr.add]
  | 2, hj => simp at hj; subst hj; simp [Addr.add]
  | (j + 3), hj => simp at hj
 case c2 => intro u hu; simp at hu; (try rcases hu with rfl | rfl | rfl) <;> (try subst hu) <;> rfl
 case c4 => unfold maxLen; omega
 case c5 => omega
 case c6 => simp; omega
 intro v' w2 hown' hgrow _
 go_wp2
 go_ret
 exact ⟨_, rfl, hown', _, hgrow⟩
theorem apRune3b (B : Nat) (v : Value) (n : Nat) (xs : List Value) (r : Int) (h0 : 57343 < r) (h1 : r ≤ 65535) (w : World) (hown : w.ownsRow B 5 1 v n xs) (hn : n ≤ 1099511627776) (hBw : B ≤ w.heap.size) :
 Calls Tryz.prog 130 #[v, .int .i32 r] w (ApC B v n 3 xs [.int .u8 (224 + r / 4096), .int .u8 (128 + r / 64 % 64), .int .u8 (128 + r % 64)] w) := by
 obtain ⟨i0, hi, hz0, hz1, hz2⟩ := info_parts Tryz.infoByte
 go_enter Tryz.func130, Tryz.ntmps130
 go_wp2_with (at_builtin; refine wpList_append_own _ rfl _ _ 22 rfl B 5 i0 (.int .u8 0) 1 1 Tryz.underlying22 hi hz0 hz1 hz2 rfl (by decide) _ _ _ rfl (hown.alloc _) ⟨w.heap.size, 0, none⟩ 3 3 [.int .u8 (224 + r / 4096), .int .u8 (128 + r / 64 % 64), .int .u8 (128 + r % 64)] rfl rfl ?c1 ?c2 ?c4 ?c5 ?c6 ?_)
 case c1 =>
  intro j u hj
  match j, hj with
  | 0, hj => simp at hj; subst hj; simp [Addr.add]
  | 1, hj => simp at hj; subst hj; simp [Addr.add]
  | 2, hj => simp at hj; subst hj; simp [Addr.add]
  | (j + 3), hj => simp at hj
 case c2 => intro u hu; simp at hu; (try rcases hu with rfl | rfl | rfl) <;> (try subst hu) <;> rfl
 case c4 => unfold maxLen; omega
 case c5 => omega
 case c6 => simp; omega
 intro v' w2 hown' hgrow _
 go_wp2
 go_ret
 exact ⟨_, rfl, hown', _, hgrow⟩
theorem apRune4 (B : Nat) (v : Value) (n : Nat) (xs : List Value) (r : Int) (h0 : 65535 < r) (h1 : r ≤ 1114111) (w : World) (hown : w.ownsRow B 5 1 v n xs) (hn : n ≤ 1099511627776) (hBw : B ≤ w.heap.size) :
 Calls Tryz.prog 130 #[v, .int .i32 r] w (ApC B v n 4 xs [.int .u8 (240 + r / 262144), .int .u8 (128 + r / 4096 % 64), .int .u8 (128 + r / 64 % 64), .int .u8 (128 + r % 64)] w) := by
 obtain ⟨i0, hi, hz0, hz1, hz2⟩ := info_parts Tryz.infoByte
 go_enter Tryz.func130, Tryz.ntmps130
 go_wp2_with (at_builtin; refine wpList_append_own _ rfl _ _ 22 rfl B 5 i0 (.int .u8 0) 1 1 Tryz.underlying22 hi hz0 hz1 hz2 rfl (by decide) _ _ _ rfl (hown.alloc _) ⟨w.heap.size, 0, none⟩ 4 4 [.int .u8 (240 + r / 262144), .int .u8 (128 + r / 4096 % 64), .int .u8 (128 + r / 64 % 64), .int .u8 (128 + r % 64)] rfl rfl ?c1 ?c2 ?c4 ?c5 ?c6 ?_)
 case c1 =>
  intro j u hj
  match j, hj with
  | 0, hj => simp at hj; subst hj; simp [Addr.add]
  | 1, hj => simp at hj; subst hj; simp [Addr.add]
  | 2, hj => simp at hj; subst hj; simp [Addr.add]
  | 3, hj => simp at hj; subst hj; simp [Addr.add]
  | (j + 4), hj => simp at hj
 case c2 => intro u hu; simp at hu; (try rcases hu with rfl | rfl | rfl | rfl) <;> (try subst hu) <;> rfl
 case c4 => unfold maxLen; omega
 case c5 => omega
 case c6 => simp; omega
 intro v' w2 hown' hgrow _
 go_wp2
 go_ret
 exact ⟨_, rfl, hown', _, hgrow⟩
theorem apRune1 (B : Nat) (v : Value) (n : Nat) (xs : List Value) (r : Int) (h0 : 32 ≤ r) (h1 : r ≤ 127) (w : World) (hown : w.ownsRow B 5 1 v n xs) (hn : n ≤ 1099511627776) (hBw : B ≤ w.heap.size) :
 Calls Tryz.prog 100 #[v, .int .i32 r] w (ApC B v n 1 xs [.int .u8 r] w) := by
 obtain ⟨i0, hi, hz0, hz1, hz2⟩ := info_parts Tryz.infoByte
 go_enter Tryz.func100, Tryz.ntmps100
 go_wp2_with (at_builtin; refine wpList_append_own _ rfl _ _ 22 rfl B 5 i0 (.int .u8 0) 1 1 Tryz.underlying22 hi hz0 hz1 hz2 rfl (by decide) _ _ _ rfl (hown.alloc _) ⟨w.heap.size, 0, none⟩ 1 1 [.int .u8 r] rfl rfl ?c1 ?c2 ?c4 ?c5 ?c6 ?_)
 case c1 =>
  intro j u hj
  match j, hj with
  | 0, hj => simp at hj; subst hj; simp [Addr.add]
  | (j + 1), hj => simp at hj
 case c2 => intro u hu; simp at hu; (try rcases hu with rfl) <;> (try subst hu) <;> rfl
 case c4 => unfold maxLen; omega
 case c5 => omega
 case c6 => simp; omega
 intro v' w2 hown' hgrow _
 go_wp2
 go_ret
 exact ⟨_, rfl, hown', _, hgrow⟩
theorem ApC.to {B : Nat} {v : Value} {n k : Nat} {xs ys : List Value} {l : List UInt8} {w : World} (hk : k = l.length) (h : ys = Lib.byteCells l) : ApC B v n k xs ys w = ApR B v n xs l w := by subst hk; subst h; rfl
theorem Zp6 (a : Nat) (ha : a < 256) : Lib.byteCells [u8 a] = [.int .u8 a] := by simp only [Lib.byteCells, List.map_cons, List.map_nil, u8N ha]
theorem Zi6 (a : Nat) (ha : a < 256) (l : List UInt8) : Lib.byteCells (u8 a :: l) = .int .u8 a :: Lib.byteCells l := by simp only [Lib.byteCells, List.map_cons, u8N ha]
theorem Zq4 (B : Nat) (v : Value) (n : Nat) (xs : List Value) (r : Nat) (hr : rnOK (r : Int)) (w : World) (hown : w.ownsRow B 5 1 v n xs) (hn : n ≤ 1099511627776) (hBw : B ≤ w.heap.size) :
 Calls Tryz.prog 100 #[v, .int .i32 r] w (ApR B v n xs (utfB r) w) := by
 obtain ⟨r1, r2, r3, r4⟩ := hr
 by_cases h1 : r < 128
 ·rw [utfB, if_pos h1]
  rw [← ApC.to (k := 1) (ys := [.int .u8 r]) rfl (Zp6 r (by omega)).symm]
  exact apRune1 B v n xs r (by omega) (by omega) w hown hn hBw
 have HNA : Hid (Calls Tryz.prog 130 #[v, .int .i32 r] w (ApR B v n xs (utfB r) w)) := zz (by
  rw [utfB, if_neg h1]
  by_cases h2 : r < 2048
  ·rw [if_pos h2]
   rw [← ApC.to (k := 2) (ys := [.int .u8 (192 + (r : Int) / 64), .int .u8 (128 + (r : Int) % 64)]) rfl (by rw [Zi6 _ (by omega), Zp6 _ (by omega)]; rfl)]
   exact apRune2 B v n xs r (by omega) (by omega) w hown hn hBw
  rw [if_neg h2]
  by_cases h3 : r < 65536
  ·rw [if_pos h3]
   rw [← ApC.to (k := 3) (ys := [.int .u8 (224 + (r : Int) / 4096), .int .u8 (128 + (r : Int) / 64 % 64), .int .u8 (128 + (r : Int) % 64)]) rfl (by rw [Zi6 _ (by omega), Zi6 _ (by omega), Zp6 _ (by omega)]; rfl)]
   by_cases h4 : r < 55296
   ·exact apRune3a B v n xs r (by omega) (by omega) w hown hn hBw
   ·exact apRune3b B v n xs r (by omega) (by omega) w hown hn hBw
  ·rw [if_neg h3]
   rw [← ApC.to (k := 4) (ys := [.int .u8 (240 + (r : Int) / 262144), .int .u8 (128 + (r : Int) / 4096 % 64), .int .u8 (128 + (r : Int) / 64 % 64), .int .u8 (128 + (r : Int) % 64)]) rfl (by rw [Zi6 _ (by omega), Zi6 _ (by omega), Zi6 _ (by omega), Zp6 _ (by omega)]; rfl)]
   exact apRune4 B v n xs r (by omega) (by omega) w hown hn hBw)
 have h5 : (127 : Int) < (r : Int) := by omega
 have h6 : (r : Int) ≤ 1114111 := by omega
 clear r1 r2 r3 r4 h1
 go_enter Tryz.func100, Tryz.ntmps100
 go_wp2_with fail
 refine HNA.out.mono ?_
 rintro e w2 ⟨v', rfl, ho, hg⟩
 have HO := zz ho
 have HG := zz hg
 clear ho hg
 go_wp2_with fail
 go_ret
 exact ⟨_, rfl, HO.out, HG.out⟩
theorem Zx4 (B b : Nat) (l : List UInt8) (r : Nat) (hr : rnOK (r : Int)) (w : World) (h : Bld B b l w) (hl : l.length ≤ 1099511627776) (hBw : B ≤ w.heap.size) :
 Calls Tryz.prog 63 #[.pointer (some ⟨b, 0, none⟩), .int .i32 r] w fun e w' => (∃ m : Int, e = .returned (.tuple #[.int .i64 m, .nilIface])) ∧ Bld B b (l ++ utfB r) w' ∧ Below B w w' := by
 have hbl := Lib.byteCells_length l
 have HRR := zz hr
 clear hr
 go_enter Tryz.func63, Tryz.ntmps63
 go_wp2_with (go_at_call 99; refine (Zu9 B b _ _ h).mono ?_)
 rintro e w1 ⟨rfl, h1, hb1⟩
 obtain ⟨hB, v, hbk, hown, hne⟩ := h1
 have c0 : w1.cell? ⟨b, 0, none⟩ = some (.pointer (some ⟨b, 0, none⟩)) := by rw [Lib.cell_of_heap hbk]; rfl
 have c1 : w1.cell? ⟨b, 1, none⟩ = some v := by rw [Lib.cell_of_heap hbk]; rfl
 rw [hbl] at hown
 obtain ⟨ao, cap, rfl⟩ : ∃ ao cap, v = .slice ao l.length cap := by
  rcases hown.2 with ⟨hv, h0⟩ | ⟨g, cap, cur, hv, _⟩
  ·exact ⟨none, 0, by rw [hv, h0]⟩
  ·exact ⟨_, _, hv⟩
 have HW := zz hown
 have HK := zz hbk
 have HNE := zz hne
 have HB1 := zz hb1
 clear hbk hown hne hb1
 go_wp2_with fail
 refine (Zq4 B _ l.length _ r HRR.out w1 HW.out hl (by have := HB1.out.size; omega)).mono ?_
 rintro e w2 ⟨v', rfl, hown', o, hgrow⟩
 have hlt : b < w1.heap.size := by
  rcases Nat.lt_or_ge b w1.heap.size with h' | h'
  ·exact h'
  ·have := HK.out
   simp [Array.getElem?_eq_none h'] at this
 have hb2 : w2.heap[b]? = some (.cells #[.pointer (some ⟨b, 0, none⟩), .slice ao l.length cap] 95 (0, 0)) := by
  rw [hgrow.block b (by simp; omega) (fun e => HNE.out e.symm)]
  have e1 : (w1.alloc o).heap[b]? = w1.heap[b]? := (((Below.refl w1.heap.size w1).alloc (Nat.le_refl _) o).block b hlt)
  rw [e1]
  exact HK.out
 have d0 : w2.cell? ⟨b, 0, none⟩ = some (.pointer (some ⟨b, 0, none⟩)) := by rw [Lib.cell_of_heap hb2]; rfl
 have d1 : w2.cell? ⟨b, 1, none⟩ = some (.slice ao l.length cap) := by rw [Lib.cell_of_heap hb2]; rfl
 have f1 : w2.frozen? ⟨b, 1, none⟩ = false := Lib.frozen_of_heap hb2 1
 obtain ⟨ao', n', cap', rfl⟩ : ∃ ao n' cap, v' = .slice ao n' cap := by
  rcases hown'.2 with ⟨hv, _⟩ | ⟨g, cap, cur, hv, _⟩
  ·exact ⟨_, _, _, hv⟩
  ·exact ⟨_, _, _, hv⟩
 have HO := zz hown'
 have HG := zz hgrow
 have HB2 := zz hb2
 clear hown' hgrow hb2
 go_wp2
 go_ret2
 refine ⟨⟨_, rfl⟩, .inr ?_, ?_⟩
 ·rw [Zq2]
  exact Lib.BuilderAt.put (T := 95) (e := 5) hB HB2.out (bs' := Lib.byteCells l ++ Lib.byteCells (utfB r)) (by rw [List.length_append, Lib.byteCells_length, Lib.byteCells_length]; exact HO.out) (by decide)
 ·exact (((HB1.out.alloc (by have := HB1.out.size; omega) o).grown HG.out (by have := HB1.out.size; simp; omega) (fun k hk => (HW.out.lt k hk).1)).setCell (p := ⟨b, 1, none⟩) hB _)
def trimB (l : List UInt8) : List UInt8 := (l.reverse.dropWhile (· == 32)).reverse
theorem Zm9 (l : List UInt8) (c : UInt8) : trimB (l ++ [c]) = if c = 32 then trimB l else l ++ [c] := by
 unfold trimB
 rw [List.reverse_append, List.reverse_cons, List.reverse_nil, List.nil_append, List.singleton_append, List.dropWhile_cons]
 by_cases h : c = 32
 ·rw [if_pos h, if_pos (by simp [h])]
 ·rw [if_neg h, if_neg (by simp [h])]
  simp
theorem Yg6 (n : Nat) (h : rnOK (n : Int)) : ∃ p c, utfB n = p ++ [c] ∧ (c = 32 ↔ n = 32) ∧ (n = 32 → p = []) := by
 obtain ⟨r1, r2, r3, r4⟩ := h
 have key : ∀ m, 128 ≤ m → m < 256 → ¬ u8 m = 32 := fun m h1 h2 e => by
  have := congrArg UInt8.toNat e
  rw [u8N h2] at this
  have h32 : (32 : UInt8).toNat = 32 := rfl
  omega
 unfold utfB
 split
 ·refine ⟨[], u8 n, rfl, ⟨fun e => ?_, fun e => by rw [e]; rfl⟩, fun _ => rfl⟩
  have := congrArg UInt8.toNat e
  rw [u8N (by omega)] at this
  exact this
 split
 ·exact ⟨[_], _, rfl, ⟨fun e => absurd e (key _ (by omega) (by omega)), fun e => by omega⟩, fun e => by omega⟩
 split
 ·exact ⟨[_, _], _, rfl, ⟨fun e => absurd e (key _ (by omega) (by omega)), fun e => by omega⟩, fun e => by omega⟩
 ·exact ⟨[_, _, _], _, rfl, ⟨fun e => absurd e (key _ (by omega) (by omega)), fun e => by omega⟩, fun e => by omega⟩
theorem Zt6 : ∀ m : List Cl, (∀ c ∈ m, rnOK c.1) → trimB (utfL m.reverse) = rowL m.reverse
 | [], _ => rfl
 | c :: m, h => by
   have ih := Zt6 m (fun x hx => h x (by simp [hx]))
   have hc := h c (by simp)
   obtain ⟨n, hn⟩ : ∃ n : Nat, c.1 = (n : Int) := ⟨c.1.toNat, by have := hc.1; omega⟩
   rw [hn] at hc
   obtain ⟨p, x, h1, h2, h3⟩ := Yg6 n hc
   rw [List.reverse_cons, Zh7, hn, Int.toNat_natCast, h1, ← List.append_assoc, Zm9, Zj5, Zi0, hn]
   by_cases e : n = 32
   ·rw [if_pos (h2.2 e), if_pos (by omega), h3 e, List.append_nil, ih, Zj5]
   ·rw [if_neg (fun k => e (h2.1 k)), if_neg (by omega), Zh7, hn, Int.toNat_natCast, h1, List.append_assoc]
theorem Yh8 (l : List Cl) (h : ∀ c ∈ l, rnOK c.1) : trimB (utfL l) = rowL l := by
 have := Zt6 l.reverse (fun c hc => h c (List.mem_reverse.1 hc))
 rwa [List.reverse_reverse] at this
theorem Zl4 (l : List UInt8) (hl : l.length ≤ 1099511627776) (w : World) :
 Calls Tryz.prog 101 #[.string (sO_ l), .int .u8 32] w fun e w' => e = .returned (.string (sO_ (trimB l))) ∧ w = w' := by
 go_enter Tryz.func101, Tryz.ntmps101
 go_wp2_with fail
 go_loop [0] (fun s => ∃ m : List UInt8, s = .string (sO_ m) ∧ m.length ≤ 1099511627776 ∧ Hid (trimB m = trimB l)) (fun s => lenOf s)
 case atStart => exact ⟨l, rfl, hl, rfl⟩
 case round =>
  obtain ⟨m, rfl, hm, HT⟩ := hrel
  have hsz : (sO_ m).size = m.length := rfl
  by_cases h0 : 0 < m.length
  ·obtain ⟨p, c, hpc⟩ : ∃ p c, m = p ++ [c] := ⟨m.dropLast, m.getLast (by intro e; rw [e] at h0; cases h0), (List.dropLast_concat_getLast _).symm⟩
   have hpl : m.length = p.length + 1 := by rw [hpc]; simp
   have h0s : (0 : Int) < ((sO_ m).size : Int) := by omega
   have h0n : 0 < (sO_ m).size := by omega
   have h1s : (sO_ m).size - 1 < (sO_ m).size := by omega
   have hidx : (((sO_ m)[(sO_ m).size - 1]'h1s).toNat : Int) = (c.toNat : Int) := by
    have e : (sO_ m)[(sO_ m).size - 1]'h1s = c := by
     show m[(sO_ m).size - 1]'(by omega) = c
     simp only [hsz]
     subst hpc
     simp
    rw [e]
   have HEX : Hid ((sO_ m).extract 0 ((sO_ m).size - 1) = sO_ p) := zz (by
    rw [Zn9, hsz, hpl, hpc, Nat.add_sub_cancel, List.take_left])
   have HSN : Hid (trimB m = if c = 32 then trimB p else m) := zz (by rw [hpc]; exact Zm9 p c)
   have hcc := c.toNat_lt
   have hsm : (sO_ m).size ≤ 1099511627776 := by omega
   have HPL := zz hpl
   clear hpc hsz hpl
   by_cases h32 : c = 32
   ·have HTP : Hid (trimB p = trimB l) := zz (by rw [← HT.out, HSN.out, if_pos h32])
    have e32 : (c.toNat : Int) = 32 := by rw [h32]; rfl
    rw [e32] at hidx
    have HME : Hid (p.length < m.length) := zz (by have := HPL.out; omega)
    have HPM : Hid (p.length ≤ 1099511627776) := zz (by have := HPL.out; omega)
    clear h32 e32
    go_wp2_with fail
    go_round
    case rel => exact ⟨p, by rw [HEX.out], HPM.out, HTP.out⟩
    case measure => rw [HEX.out]; simp only [lenOf, Zc7]; exact HME.out
   ·have HTP : Hid (m = trimB l) := zz (by rw [← HT.out, HSN.out, if_neg h32])
    have hne : ¬ (c.toNat : Int) = 32 := fun e => h32 (UInt8.toNat_inj.1 (by have h3 : (32 : UInt8).toNat = 32 := rfl; omega))
    have hne2 : ((c.toNat : Int) == 32) = false := by simpa using hne
    clear h32
    go_wp2_with fail
    go_ret
    exact ⟨by rw [HTP.out]; rfl, rfl⟩
  ·have hm0 : m = [] := List.length_eq_zero_iff.1 (by omega)
   have HTP : Hid ([] = trimB l) := zz (by rw [← HT.out, hm0]; rfl)
   have h0s : ¬ (0 : Int) < ((sO_ m).size : Int) := by omega
   have HM := zz hm0
   clear hsz h0 hm0
   go_wp2_with fail
   go_ret
   exact ⟨by rw [HM.out, HTP.out]; rfl, rfl⟩
theorem Zv1 (l : List UInt8) (hl : l.length ≤ 1099511627776) (w : World) :
 Calls Tryz.prog 64 #[.string (sO_ l), .string ⟨#[32]⟩] w fun e w' => e = .returned (.string (sO_ (trimB l))) ∧ w = w' := by
 by_cases h0 : l = []
 ·subst h0
  have e1 : (sO_ ([] : List UInt8)).toList = [] := Zj7 _
  go_enter Tryz.func64, Tryz.ntmps64
  go_wp2_with fail
  go_ret
  exact ⟨rfl, rfl⟩
 ·have hne : ((sO_ l).toList == []) = false := by rw [Zj7]; exact beq_eq_false_iff_ne.2 h0
  have hne2 : ¬ (sO_ l).toList = [] := by rw [Zj7]; exact h0
  have HC := zz (Zl4 l hl)
  clear h0
  go_enter Tryz.func64, Tryz.ntmps64
  go_wp2_with fail
  refine (HC.out _).mono ?_
  rintro e w1 ⟨rfl, rfl⟩
  go_wp2_with fail
  go_ret
  exact ⟨rfl, rfl⟩
end
section
theorem Yg2 (l : List Cl) (k : Nat) (hk : k < l.length) : celL (l.take (k + 1)) = celL (l.take k) ++ cel4 l[k] := by
 unfold celL
 rw [List.take_succ_eq_append_getElem hk, List.flatMap_append]
 simp only [List.flatMap_cons, List.flatMap_nil, List.append_nil]
end
section
theorem Zm4 (l : List Cl) (k : Nat) (hk : k < l.length) : utfL (l.take (k + 1)) = utfL (l.take k) ++ utfB l[k].1.toNat := by
 rw [List.take_succ_eq_append_getElem hk, Zh7]
theorem Yc6 (b o b1 o1 cc : Nat) (s : Scr) (ok : sK s) (y : Nat) (hy : y < s.h) (w : World) (hlt : b < w.heap.size) (c0 : w.cell? ⟨b, o, none⟩ = some (.int .i64 s.w)) (c10 : w.cell? ⟨b, o + 10, none⟩ = some (.slice (some ⟨b1, o1, none⟩) s.cells.length cc)) (hs : Sl Za0 2 w (some ⟨b1, o1, none⟩) s.cells) (hcc : s.cells.length ≤ cc) :
 Calls Tryz.prog 32 #[.pointer (some ⟨b, o, none⟩), .int .i64 y] w fun e w' => e = .returned (.string (rowT s y)) ∧ Below w.heap.size w w' := by
 obtain ⟨wd, hwd⟩ := eX (s.w)
 obtain ⟨n, hn⟩ := eX (s.cells.length)
 obtain ⟨row, hrow⟩ := eX (rowC s y)
 have hw2 : wd ≤ 24 := by rw [← hwd]; exact ok.w2
 have hw1 : 2 ≤ wd := by rw [← hwd]; exact ok.w1
 have hyh : y < 10 := by have := ok.h2; omega
 have hyw : (y + 1) * wd ≤ n := by rw [← hn, ok.cn, hwd, Nat.mul_comm]; exact Nat.mul_le_mul_left _ hy
 have hn240 : n ≤ 240 := by rw [← hn, ok.cn]; exact Nat.mul_le_mul ok.w2 ok.h2
 have hrl : row.length = wd := by
  rw [← hrow]
  simp only [rowC, List.length_take, List.length_drop, hn, hwd]
  rw [Nat.succ_mul] at hyw
  omega
 have HRR : Hid (∀ c ∈ row, rnOK c.1) := zz (fun c hc => (ok.cs c (by
  rw [← hrow] at hc
  exact List.mem_of_mem_drop (List.mem_of_mem_take hc))).1)
 obtain ⟨p, hp⟩ := eX (y * wd)
 obtain ⟨q, hq⟩ : ∃ q, (y + 1) * wd = q := ⟨_, rfl⟩
 have hpq : q = p + wd := by rw [← hq, ← hp, Nat.succ_mul]
 rw [hq] at hyw
 have HSUB : Hid (Sl Za0 2 w (some ⟨b1, o1 + p * 2, none⟩) row) := zz (by
  rw [← hrow]
  unfold rowC
  rw [hwd, hp]
  exact Sl.sub hs p wd (by omega))
 have HTT : Hid (rowT s y = sO_ (trimB (utfL row))) := zz (by rw [Yh8 row HRR.out, ← hrow]; rfl)
 have HRL := zz hrl
 have HPQ := zz hpq
 have hpq1 : p ≤ q := by omega
 have hpn : p < n := by omega
 have hcp : ¬ cc = p := by omega
 have hqd : q - p = wd := by omega
 have HQD := zz hqd
 have i1 : (p : Int) ≤ (q : Int) := by omega
 have i2 : (q : Int) ≤ (cc : Int) := by omega
 have i3 : q ≤ cc := by omega
 have hw1' : IntKind.i64.wrap ((y : Int) * (wd : Int)) = (p : Int) := by rw [← Int.natCast_mul, hp]; exact iIq _
 have hw2' : IntKind.i64.wrap ((y : Int) + 1) = ((y : Int) + 1) := iIq _
 have hw3' : IntKind.i64.wrap (((y : Int) + 1) * (wd : Int)) = (q : Int) := by
  rw [show ((y : Int) + 1) * (wd : Int) = (q : Int) by rw [← hq]; exact (Int.natCast_mul (y + 1) wd).symm]
  exact iIq _
 rw [hwd] at c0
 rw [hn] at c10 hcc
 rw [HTT.out]
 clear hrl hp hq hpq hwd hn hrow ok hy hs hqd
 go_enter Tryz.func32, Tryz.ntmps32
 go_upto_region 2 with fail
 obtain ⟨x1, hx1⟩ := eX (w.alloc (.cells #[.pointer none, .slice none 0 0] 95))
 have HBL : Hid (Bld w.heap.size w.heap.size [] x1) := zz (by rw [← hx1]; exact bld_new w _ (Nat.le_refl _))
 have HB1 : Hid (Below w.heap.size w x1) := zz (by rw [← hx1]; exact bA)
 have HXS : Hid (w.heap.size < x1.heap.size) := zz (by rw [← hx1]; simp)
 have hS0 : x1.cell? ⟨b, o, none⟩ = some (.int .i64 wd) ∧ x1.cell? ⟨b, o + 10, none⟩ = some (.slice (some ⟨b1, o1, none⟩) n cc) := ⟨(HB1.out.cell (p := ⟨b, o, none⟩) hlt).trans c0, (HB1.out.cell (p := ⟨b, o + 10, none⟩) hlt).trans c10⟩
 rw [hx1]
 clear hx1 c0 c10
 refine rO (fun w' => w'.cell? ⟨b, o, none⟩ = some (.int .i64 wd) ∧ w'.cell? ⟨b, o + 10, none⟩ = some (.slice (some ⟨b1, o1, none⟩) n cc)) [] [0,1,2,3,4,5,6,7,8,9,10,11,12,13,14,15,16,17,18,19] ?_
 iterate 20 (first | refine oW (h := ?_) | refine oL (hS := hS0) (h := ?_))
 refine oD ?_
 obtain ⟨x2, hx2⟩ := eX (x1.drew)
 have HB2 : Hid (Below w.heap.size w x2) := zz (by rw [← hx2]; exact HB1.out.drew)
 have HBL2 : Hid (Bld w.heap.size w.heap.size [] x2) := zz (by rw [← hx2]; exact HBL.out.below ((Below.refl _ _).drew))
 rw [hx2]
 clear hx2 hS0 hw1' hw2' hw3'
 rw [HQD.out]
 go_wp2_with fail
 go_loopw [27] (fun i wr => ∃ k : Nat, k ≤ wd ∧ i = .int .i64 k ∧ Bld w.heap.size w.heap.size (utfL (row.take k)) wr ∧ Below w.heap.size w wr) (fun i _ => wd - (intOf i).toNat)
 case atStart => exact ⟨0, Nat.zero_le _, rfl, HBL2.out, HB2.out⟩
 case round =>
  obtain ⟨k, hk, rfl, hB, hbel⟩ := hrel
  have HB := zz hB
  have HBW := zz hbel
  have hz := hbel.size
  have hul := utfL_len (row.take k)
  have hul' : (utfL (row.take k)).length ≤ 96 := by rw [List.length_take] at hul; omega
  clear hB hul
  by_cases hlt2 : k < wd
  ·have hlt' : (k : Int) < (wd : Int) := by omega
   have hkr : k < row.length := by rw [HRL.out]; exact hlt2
   have HSN := zz (Zm4 row k hkr)
   obtain ⟨b', o', hae, hbk, hc1⟩ := (HSUB.out.keep hbel).at hkr
   cases hae
   have c1 := hc1 k hkr 0 (by omega)
   have c2 := hc1 k hkr 1 (by omega)
   have hrn := HRR.out row[k] (List.getElem_mem _)
   obtain ⟨c, hc⟩ := eX (row[k])
   rw [hc] at c1 c2 hrn HSN
   obtain ⟨n1, n2⟩ := c
   obtain ⟨r, rfl⟩ : ∃ r : Nat, n1 = (r : Int) := ⟨n1.toNat, by have := hrn.1; simp only at this; omega⟩
   simp only [Za0, Nat.add_zero, List.getElem?_cons_zero, List.getElem?_cons_succ] at c1 c2
   simp only [Int.toNat_natCast] at HSN
   have hr1 : (r : Int) ≤ 1114111 := hrn.2.1
   have HRN := zz hrn
   obtain ⟨L, hL⟩ := eX (utfL (row.take k))
   rw [hL] at HB HSN hul'
   clear hc1 hc hrn hL hbel
   go_wp2_with fail
   refine (Zx4 w.heap.size w.heap.size L r HRN.out _ (HB.out.below (bA)) (by omega) (by simp; omega)).mono ?_
   rintro e w3 ⟨⟨m, rfl⟩, hB3, hb3⟩
   have HB3 := zz hB3
   have HBB3 := zz hb3
   clear hB3 hb3
   go_wp2_with fail
   go_roundw
   case rel => exact ⟨k + 1, by omega, by go_num, by rw [HSN.out]; exact HB3.out, (HBW.out.alloc hz _).trans HBB3.out⟩
   case measure => simp [intOf]; omega
  ·obtain rfl : k = wd := by omega
   have HTK : Hid (row.take k = row) := zz (List.take_of_length_le (by rw [HRL.out]; exact Nat.le_refl _))
   rw [HTK.out] at HB hul'
   obtain ⟨L, hL⟩ := eX (utfL row)
   rw [hL] at HB hul'
   have HLL := zz hL
   clear hbel hL
   go_wp2_with fail
   refine (Zw7 w.heap.size w.heap.size L _ HB.out hz).mono ?_
   rintro e w3 ⟨rfl, hb3⟩
   have HB3 := zz hb3
   clear hb3
   go_wp2_with fail
   refine (Zv1 L (by omega) _).mono ?_
   rintro e w4 ⟨rfl, rfl⟩
   go_wp2_with fail
   go_ret
   exact ⟨by rw [HLL.out]; rfl, HBW.out.trans HB3.out⟩
end
section
theorem Tryz.infoB8 : (Tryz.prog.info? 5).map (fun i => (i.zero, i.size, i.bytes)) = some (some (.int .u8 0), 1, 1) := by kernel_rfl
theorem Zf7 : ∀ (x : UInt8), ∀ u ∈ yE x, u.oneCell' = true := fun x u hu => by simp [yE] at hu; subst hu; rfl
theorem Zv7 (l : List Cl) (k m : Nat) (h : k ≤ m) : (celL (l.take k)).length ≤ 4 * m := by
 rw [Zg6, List.length_take]
 omega
theorem boxL' {α : Type} {enc : α → List Value} {sz : Nat} {w : World} (hs : ∀ x, (enc x).length = sz) (xs : List α) (cs : Array Value) (T : TypeId) (hc : cs.toList = xs.flatMap enc) (b : Nat) (hb : b = w.heap.size) : Sl enc sz (w.alloc (.cells cs T)) (some ⟨b, 0, none⟩) xs := by
 subst hb
 refine .inr ⟨w.heap.size, 0, rfl, by simp, fun i hi j hj => ?_⟩
 rw [Nat.zero_add, World.cell?_alloc_new, ← Array.getElem?_toList, hc, Zc0 enc sz hs xs i hi j hj]
theorem Yc1 (s : Scr) (ac : Option Addr) (cc : Nat) (ah : Option Addr) (dh : Nat) (y : Nat) (w : World) (h : sS s ac ah w) (hw1 : 1 ≤ s.w) (hw2 : s.w ≤ 24) (hh2 : s.h ≤ 10) (hy : y < s.h) (hcn : s.cells.length = s.w * s.h) (hcs : ∀ c ∈ s.cells, celOK c) :
 Calls Tryz.prog 98 #[scrV s ac cc ah dh, .int .i64 y] w fun e w' => e = .returned (.string (sO_ (celL (rowC s y)))) ∧ Below w.heap.size w w' := by
 obtain ⟨i0, hi, hz0, hz1, hz2⟩ := info_parts Tryz.infoB8
 have h0 : 0 < s.cells.length := by rw [hcn]; exact Nat.mul_pos (by omega) (by omega)
 obtain ⟨b1, o1, rfl, hb1w, _⟩ := h.cs.at h0
 have HR := zz h
 obtain ⟨nh, hnh⟩ := eX (s.hist.length)
 obtain ⟨wd, hwd⟩ := eX (s.w)
 obtain ⟨n, hn⟩ := eX (s.cells.length)
 obtain ⟨row, hrow⟩ := eX (rowC s y)
 have hyw : (y + 1) * wd ≤ n := by rw [← hn, hcn, hwd, Nat.mul_comm]; exact Nat.mul_le_mul_left _ hy
 have hn240 : n ≤ 240 := by rw [← hn, hcn]; exact Nat.mul_le_mul hw2 hh2
 have hrl : row.length = wd := by
  rw [← hrow]
  simp only [rowC, List.length_take, List.length_drop, hn, hwd]
  rw [Nat.succ_mul] at hyw
  omega
 have hrc : ∀ i (hi : i < row.length) (hj : y * wd + i < s.cells.length), s.cells[y * wd + i] = row[i] := fun i hi hj => by
  subst hrow
  simp only [rowC, List.getElem_take, List.getElem_drop, hwd]
 have hrr : ∀ c ∈ row, celOK c := fun c hc => hcs c (by
  rw [← hrow] at hc
  exact List.mem_of_mem_drop (List.mem_of_mem_take hc))
 have HRL := zz hrl
 have HRC := zz hrc
 have HRR := zz hrr
 have HN := zz hn
 unfold scrV
 rw [hwd] at hw2
 rw [hwd, hn, hnh, hrow]
 rw [Nat.succ_mul] at hyw
 obtain ⟨p, hp⟩ := eX (y * wd)
 have hpi : (y : Int) * (wd : Int) = (p : Int) := by rw [← hp]; exact (Int.natCast_mul y wd).symm
 rw [hp] at hyw
 have HP := zz hp
 clear h0 hw1 h hnh hrow hrl hrc hrr hp hcn hcs hwd hn hh2 hy
 go_enter Tryz.func98, Tryz.ntmps98
 go_wp2_with fail
 go_loopw [5, 6] (fun so sx wr => ∃ (x : Nat) (av : Option Addr) (cv : Nat) (L : List UInt8), x ≤ wd ∧ sx = .int .i64 x ∧ so = .slice av L.length cv ∧ L.length ≤ 96 ∧ Hid (L = celL (row.take x) ∧ Fr yE 5 1 (w.heap.size + 1) wr.heap.size (.slice av L.length cv) L wr ∧ Below w.heap.size w wr ∧ wr.cell? ⟨w.heap.size, 0, none⟩ = some (.int .i64 wd) ∧ wr.cell? ⟨w.heap.size, 10, none⟩ = some (.slice (some ⟨b1, o1, none⟩) n cc) ∧ w.heap.size < wr.heap.size)) (fun _ sx _ => wd - (intOf sx).toNat)
 case atStart =>
  refine ⟨0, some ⟨w.heap.size + 1, 0, none⟩, 0, [], Nat.zero_le _, rfl, by first | rfl | simp, by decide, zz ⟨rfl, ?_, ?_, by simp [go_sem], by simp [go_sem], by simp; omega⟩⟩
  ·refine (F_.of_own ?_ rfl rfl).here
   have := World.ownsRow_made (base := w.heap.size + 1) (e := 5) (size := 1) (w.alloc (.cells #[.int .i64 wd, .int .i64 s.h, .int .i64 s.x, .int .i64 s.y, .int .i64 s.look, .int .i64 s.top, .int .i64 s.bot, .int .i64 s.sx, .int .i64 s.sy, .string s.title, .slice (some ⟨b1, o1, none⟩) n cc, .slice ah nh dh] 26)) #[] 0 (by simp) (by decide) rfl
   simpa using this
  ·exact (bA).alloc (by simp) _
 case round =>
  obtain ⟨x, av, cv, L, hx, rfl, rfl, hL96, HQ⟩ := hrel
  have k_0 := HQ.out.2.2.2.1
  have k_10 := HQ.out.2.2.2.2.1
  have kl := HQ.out.2.2.2.2.2
  by_cases hlt : x < wd
  ·have hlt' : (x : Int) < (wd : Int) := by omega
   have hxr : x < row.length := by rw [HRL.out]; exact hlt
   obtain ⟨c, hc⟩ := eX (row[x])
   have hxn : p + x < s.cells.length := by rw [HN.out]; omega
   have HC : Hid (s.cells[p + x] = c) := zz (by rw [← hc, ← HRC.out x hxr (by rw [HP.out]; exact hxn)]; simp only [HP.out])
   have hcm := HRR.out c (by rw [← hc]; exact List.getElem_mem hxr)
   have HTK : Hid (celL (row.take (x + 1)) = celL (row.take x) ++ cel4 c) := zz (by rw [← hc]; exact Yg2 row x hxr)
   obtain ⟨b', o', hae, hb1, hc1⟩ := ((HR.out.below HQ.out.2.2.1).cs).at hxn
   cases hae
   have c1 := hc1 (p + x) hxn 0 (by omega)
   have c2 := hc1 (p + x) hxn 1 (by omega)
   rw [HC.out] at c1 c2
   obtain ⟨n1, n2⟩ := c
   obtain ⟨r, rfl⟩ : ∃ r : Nat, n1 = (r : Int) := ⟨n1.toNat, by have := hcm.1.1; simp only at this; omega⟩
   obtain ⟨u, rfl⟩ : ∃ u : UInt8, n2 = (u.toNat : Int) := ⟨UInt8.ofNat n2.toNat, by have := hcm.2; simp only at this; rw [UInt8.toNat_ofNat']; omega⟩
   simp only [Za0, Nat.add_zero, List.getElem?_cons_zero, List.getElem?_cons_succ] at c1 c2
   have hr40 : r ≤ 1099511627776 := by have := hcm.1.2.1; simp only at this; omega
   have hu8 := u.toNat_lt
   have HC4 : Hid (cel4 ((r : Int), (u.toNat : Int)) = be r 3 ++ [u]) := zz (by rw [cel4]; simp)
   rw [HC4.out] at HTK
   clear hc1 hc hxr hcm
   have hpx : (p : Int) + (x : Int) = ((p + x : Nat) : Int) := by omega
   have hpn : p + x < n := by omega
   obtain ⟨i, hi'⟩ := eX (p + x)
   rw [hi'] at hpx c1 c2 hpn
   have hin : (i : Int) < (n : Int) := by omega
   have hw8 : IntKind.u8.wrap (u.toNat : Int) = (u.toNat : Int) := u8_in (by omega) (by omega)
   clear hi'
   go_upto_region 6 with fail
   obtain ⟨x1, hx1⟩ := eX (wr.alloc (.cells #[.int .i64 r, .int .i64 u.toNat] 87))
   have HB1 : Hid (Below wr.heap.size wr x1) := zz (by rw [← hx1]; exact bA)
   have d_0 : x1.cell? ⟨wr.heap.size, 0, none⟩ = some (.int .i64 r) := by rw [← hx1]; simp [go_sem]
   have d_1 : x1.cell? ⟨wr.heap.size, 1, none⟩ = some (.int .i64 u.toNat) := by rw [← hx1]; simp [go_sem]
   have d_l : wr.heap.size < x1.heap.size := by rw [← hx1]; simp
   rw [hx1]
   clear hx1
   have HF1 : Hid (Fr yE 5 1 (w.heap.size + 1) x1.heap.size (.slice av L.length cv) L x1) := zz ((HQ.out.2.1.below HB1.out).mono (Nat.le_refl _) HB1.out.size)
   have HNB : Hid (wr.heap.size ∉ bO av) := zz (fun hb => by have := (Fr.blks HQ.out.2.1 _ hb).2; omega)
   have HSB : Hid (∀ x, Ch (· ∈ bO av) x1 x → x.cell? ⟨wr.heap.size, 0, none⟩ = some (.int .i64 r) ∧ x.cell? ⟨wr.heap.size, 1, none⟩ = some (.int .i64 u.toNat)) := zz (fun x h => ⟨(h.cell (p := ⟨wr.heap.size, 0, none⟩) d_l HNB.out).trans d_0, (h.cell (p := ⟨wr.heap.size, 1, none⟩) d_l HNB.out).trans d_1⟩)
   have HC1 : Hid (Ch (· ∈ bO av) x1 x1) := zz Ch.refl
   have HO1 : Hid (∀ a b, Ch (· ∈ bO av) x1 a → Ch (· ∈ bO av) a b → Ch (· ∈ bO av) x1 b) := zz (fun a b h k => h.trans k (fun _ h => .inl h))
   have hS0 := HSB.out x1 HC1.out
   have hl1 : (be r 3).length ≤ 3 := by rw [Za8]; omega
   obtain ⟨E, hE⟩ := eX (be r 3)
   have HCALL : Hid (∀ W, Calls Tryz.prog 128 #[.int .i64 r, .int .i64 3] W (Ze0 yE 5 1 W E)) := zz (fun W => by rw [← hE]; exact Zg5 r 3 W hr40 (by omega))
   rw [hE] at hl1 HTK
   clear hE
   refine rO (fun w' => w'.cell? ⟨wr.heap.size, 0, none⟩ = some (.int .i64 r) ∧ w'.cell? ⟨wr.heap.size, 1, none⟩ = some (.int .i64 u.toNat)) [] [0,1,2,5,6,7,3,4,8,9,10] ?_
   iterate 6 (first | refine oW (h := ?_) | refine oL (hS := hS0) (h := ?_))
   refine oB (hS := hS0) (rs := [3, 8]) (by kernel_rfl) (by simp) ?_
   intro j hj
   simp only [List.mem_cons, List.not_mem_nil, or_false] at hj
   rcases hj with rfl | rfl
   ·skip
    refine ⟨_, [4,8,9,10], rfl, by kernel_rfl, rfl, fun K' hK => ?_⟩
    go_simp
    go_at_call 128
    refine (HCALL.out _).mono ?_
    rintro e y2 ⟨v2, rfl, hf2, hb2⟩
    obtain ⟨a2, c2, rfl, hc2, ho2⟩ := id hf2
    have HT : Hid (Sl yE 1 y2 a2 E) := zz (Sl.of_own (fun _ => rfl) ho2)
    have HBy2 : Hid (Below x1.heap.size x1 y2) := zz (by first | (simpa using hb2) | exact ((Below.refl _ _).drew).trans (by simpa using hb2))
    have HCy2 : Hid (Ch (· ∈ bO av) x1 y2) := zz (HO1.out _ _ HC1.out (Ch.of_below HBy2.out))
    have HFy2 : Hid (Fr yE 5 1 (w.heap.size + 1) y2.heap.size (.slice av L.length cv) L y2) := zz ((HF1.out.below HBy2.out).mono (Nat.le_refl _) HBy2.out.size)
    have hzy2 := HBy2.out.size
    clear hf2 hc2 ho2 hb2
    refine oN hK (hS := .inr (HSB.out _ HCy2.out)) (h := ?_)
    clear hK K'
    refine oB (hS := (HSB.out _ HCy2.out)) (rs := [4, 8]) (by kernel_rfl) (by simp) ?_
    intro j hj
    simp only [List.mem_cons, List.not_mem_nil, or_false] at hj
    rcases hj with rfl | rfl
    ·skip
     refine ⟨_, [8,9,10], rfl, by kernel_rfl, rfl, fun K' hK => ?_⟩
     try simp only [j1,j2,j3]
     rw [if_pos (by rfl)]
     refine sAc (.tmp 25) (.tmp 28) 22 22 (w.heap.size + 1) 5 i0 (.int .u8 0) 1 1 Tryz.underlying22 hi hz0 hz1 hz2 rfl (by decide) av L.length cv L HFy2.out (.slice a2 E.length c2) E (Src.ofSl (enc := yE) Tryz.underlying22 (fun _ => rfl) Zf7 HT.out _) (by first | omega | (simp; omega)) (by have := HCy2.out.size; have := HB1.out.size; have := HQ.out.2.2.1.size; first | omega | (simp; omega)) ?_ ?_ ?_ ?_
     ·rfl
     ·rfl
     ·rfl
     intro ay3 cy3 y3 usy3 hus hf hch hk
     have hly3 : usy3.length = L.length + E.length := by rw [hus.out, List.length_append]
     have HLy3 := hus
     have HFy3 := zz hf
     have HBLy3 : Hid (∀ k ∈ bO ay3, k ∈ bO av ∨ x1.heap.size ≤ k) := zz (fun k h => by
      rcases hk k h with h | h
      ·exact .inl h
      ·exact .inr (by have := HCy2.out.size; (try simp at h); omega))
     have HCy3 : Hid (Ch (· ∈ bO av) x1 y3) := zz (HCy2.out.trans hch (fun i hi => .inl hi))
     have hlly3 : usy3.length ≤ 99 := by omega
     have HLEy3 := zz hly3
     clear hus hf hch hk hly3
     refine oN hK (hS := .inr (HSB.out _ HCy3.out)) (h := ?_)
     clear hK K'
     refine oO (hS := .inr (HSB.out _ HCy3.out)) (h := ?_)
     intro K' hK
     go_simp
     obtain ⟨y4, hx2⟩ := eX (y3.alloc (.cells #[.int .u8 u.toNat] 5))
     have hb2 : Below y3.heap.size y3 y4 := by rw [← hx2]; exact bA
     have HU : Hid (Sl yE 1 y4 (some ⟨y3.heap.size, 0, none⟩) [u]) := zz (by rw [← hx2]; exact boxL' (enc := yE) (w := y3) (fun _ => rfl) [u] _ _ (by simp [yE]) _ (by simp))
     have HBy4 : Hid (Below y3.heap.size y3 y4) := zz (by first | (simpa using hb2) | exact ((Below.refl _ _).drew).trans (by simpa using hb2))
     have HCy4 : Hid (Ch (· ∈ bO av) x1 y4) := zz (HO1.out _ _ HCy3.out (Ch.of_below HBy4.out))
     have HFy4 : Hid (Fr yE 5 1 (w.heap.size + 1) y4.heap.size (.slice ay3 usy3.length cy3) usy3 y4) := zz ((HFy3.out.below HBy4.out).mono (Nat.le_refl _) HBy4.out.size)
     have hzy4 := HBy4.out.size
     rw [hx2]
     clear hx2 hb2
     refine oN hK (hS := .inr (HSB.out _ HCy4.out)) (h := ?_)
     clear hK K'
     refine oO (hS := .inr (HSB.out _ HCy4.out)) (h := ?_)
     intro K' hK
     try simp only [j1,j2,j3]
     rw [if_pos (by rfl)]
     refine sAc (.tmp 29) (.tmp 33) 22 22 (w.heap.size + 1) 5 i0 (.int .u8 0) 1 1 Tryz.underlying22 hi hz0 hz1 hz2 rfl (by decide) ay3 usy3.length cy3 usy3 HFy4.out (.slice (some ⟨y3.heap.size, 0, none⟩) 1 1) [u] (Src.ofSl (enc := yE) Tryz.underlying22 (fun _ => rfl) Zf7 HU.out _) (by first | omega | (simp; omega)) (by have := HCy4.out.size; have := HB1.out.size; have := HQ.out.2.2.1.size; first | omega | (simp; omega)) ?_ ?_ ?_ ?_
     ·rfl
     ·rfl
     ·rfl
     intro ay5 cy5 y5 usy5 hus hf hch hk
     have hly5 : usy5.length = usy3.length + 1 := by rw [hus.out, List.length_append]; rfl
     have HLy5 := hus
     have HFy5 := zz hf
     have HBLy5 : Hid (∀ k ∈ bO ay5, k ∈ bO av ∨ x1.heap.size ≤ k) := zz (fun k h => by
      rcases hk k h with h | h
      ·exact HBLy3.out k h
      ·exact .inr (by have := HCy4.out.size; (try simp at h); omega))
     have HCy5 : Hid (Ch (· ∈ bO av) x1 y5) := zz (HCy4.out.trans hch (fun i hi => HBLy3.out i hi))
     have hlly5 : usy5.length ≤ 100 := by omega
     have HLEy5 := zz hly5
     clear hus hf hch hk hly5
     refine oN hK (hS := .inr (HSB.out _ HCy5.out)) (h := ?_)
     clear hK K'
     refine oW (h := ?_)
     refine oD ?_
     go_wp2_with fail
     go_roundw
     case rel =>
      have hfin : usy5 = celL (row.take (x + 1)) := by rw [HLy5.out, HLy3.out, HTK.out, HQ.out.1, List.append_assoc]
      have hbe : Below w.heap.size w y5 := HQ.out.2.2.1.trans ((HB1.out.mono HQ.out.2.2.1.size).trans (HCy5.out.below (by have := HB1.out.size; have := HQ.out.2.2.1.size; omega) (fun k hk => by have := (Fr.blks HQ.out.2.1 _ hk).1; omega)))
      have hcc := HB1.out.trans ((Below.refl wr.heap.size x1).mono (Nat.le_refl _))
      refine ⟨x + 1, ay5, cy5, usy5, by omega, by go_num, rfl, ?_, zz ⟨hfin, HFy5.out, hbe, ?_, ?_, by have := HCy5.out.size; have := HB1.out.size; omega⟩⟩
      ·rw [hfin]
       have := Zv7 row (x + 1) 24 (by omega)
       omega
      ·exact ((HCy5.out.cell (p := ⟨w.heap.size, 0, none⟩) (by show w.heap.size < _; omega) (fun hk => by have h : w.heap.size + 1 ≤ w.heap.size := (Fr.blks HQ.out.2.1 _ hk).1; omega)).trans (HB1.out.cell (p := ⟨w.heap.size, 0, none⟩) kl)).trans k_0
      ·exact ((HCy5.out.cell (p := ⟨w.heap.size, 10, none⟩) (by show w.heap.size < _; omega) (fun hk => by have h : w.heap.size + 1 ≤ w.heap.size := (Fr.blks HQ.out.2.1 _ hk).1; omega)).trans (HB1.out.cell (p := ⟨w.heap.size, 10, none⟩) kl)).trans k_10
     case measure => simp [intOf]; omega
    ·skip
     refine ⟨_, [4,9,10], rfl, by kernel_rfl, rfl, fun K' hK => ?_⟩
     go_simp
     obtain ⟨y6, hx2⟩ := eX (y2.alloc (.cells #[.int .u8 u.toNat] 5))
     have hb2 : Below y2.heap.size y2 y6 := by rw [← hx2]; exact bA
     have HU : Hid (Sl yE 1 y6 (some ⟨y2.heap.size, 0, none⟩) [u]) := zz (by rw [← hx2]; exact boxL' (enc := yE) (w := y2) (fun _ => rfl) [u] _ _ (by simp [yE]) _ (by simp))
     have HBy6 : Hid (Below y2.heap.size y2 y6) := zz (by first | (simpa using hb2) | exact ((Below.refl _ _).drew).trans (by simpa using hb2))
     have HCy6 : Hid (Ch (· ∈ bO av) x1 y6) := zz (HO1.out _ _ HCy2.out (Ch.of_below HBy6.out))
     have HFy6 : Hid (Fr yE 5 1 (w.heap.size + 1) y6.heap.size (.slice av L.length cv) L y6) := zz ((HFy2.out.below HBy6.out).mono (Nat.le_refl _) HBy6.out.size)
     have hzy6 := HBy6.out.size
     have HTy6 : Hid (Sl yE 1 y6 a2 E) := zz (HT.out.keep HBy6.out)
     rw [hx2]
     clear hx2 hb2
     refine oN hK (hS := .inr (HSB.out _ HCy6.out)) (h := ?_)
     clear hK K'
     refine oO (hS := .inr (HSB.out _ HCy6.out)) (h := ?_)
     intro K' hK
     try simp only [j1,j2,j3]
     rw [if_pos (by rfl)]
     refine sAc (.tmp 25) (.tmp 28) 22 22 (w.heap.size + 1) 5 i0 (.int .u8 0) 1 1 Tryz.underlying22 hi hz0 hz1 hz2 rfl (by decide) av L.length cv L HFy6.out (.slice a2 E.length c2) E (Src.ofSl (enc := yE) Tryz.underlying22 (fun _ => rfl) Zf7 HTy6.out _) (by first | omega | (simp; omega)) (by have := HCy6.out.size; have := HB1.out.size; have := HQ.out.2.2.1.size; first | omega | (simp; omega)) ?_ ?_ ?_ ?_
     ·rfl
     ·rfl
     ·rfl
     intro ay7 cy7 y7 usy7 hus hf hch hk
     have hly7 : usy7.length = L.length + E.length := by rw [hus.out, List.length_append]
     have HLy7 := hus
     have HFy7 := zz hf
     have HBLy7 : Hid (∀ k ∈ bO ay7, k ∈ bO av ∨ x1.heap.size ≤ k) := zz (fun k h => by
      rcases hk k h with h | h
      ·exact .inl h
      ·exact .inr (by have := HCy6.out.size; (try simp at h); omega))
     have HCy7 : Hid (Ch (· ∈ bO av) x1 y7) := zz (HCy6.out.trans hch (fun i hi => .inl hi))
     have HUy7 : Hid (Sl yE 1 y7 (some ⟨y2.heap.size, 0, none⟩) [u]) := zz (Sl.ch HU.out hch (fun k hk hb => by
      simp only [bO, List.mem_singleton] at hk
      subst hk
      have h1 := (Fr.blks HQ.out.2.1 _ hb).2
      have h2 := HB1.out.size
      omega))
     have hlly7 : usy7.length ≤ 99 := by omega
     have HLEy7 := zz hly7
     clear hus hf hch hk hly7
     refine oN hK (hS := .inr (HSB.out _ HCy7.out)) (h := ?_)
     clear hK K'
     refine oO (hS := .inr (HSB.out _ HCy7.out)) (h := ?_)
     intro K' hK
     try simp only [j1,j2,j3]
     rw [if_pos (by rfl)]
     refine sAc (.tmp 29) (.tmp 33) 22 22 (w.heap.size + 1) 5 i0 (.int .u8 0) 1 1 Tryz.underlying22 hi hz0 hz1 hz2 rfl (by decide) ay7 usy7.length cy7 usy7 HFy7.out (.slice (some ⟨y2.heap.size, 0, none⟩) 1 1) [u] (Src.ofSl (enc := yE) Tryz.underlying22 (fun _ => rfl) Zf7 HUy7.out _) (by first | omega | (simp; omega)) (by have := HCy7.out.size; have := HB1.out.size; have := HQ.out.2.2.1.size; first | omega | (simp; omega)) ?_ ?_ ?_ ?_
     ·rfl
     ·rfl
     ·rfl
     intro ay8 cy8 y8 usy8 hus hf hch hk
     have hly8 : usy8.length = usy7.length + 1 := by rw [hus.out, List.length_append]; rfl
     have HLy8 := hus
     have HFy8 := zz hf
     have HBLy8 : Hid (∀ k ∈ bO ay8, k ∈ bO av ∨ x1.heap.size ≤ k) := zz (fun k h => by
      rcases hk k h with h | h
      ·exact HBLy7.out k h
      ·exact .inr (by have := HCy7.out.size; (try simp at h); omega))
     have HCy8 : Hid (Ch (· ∈ bO av) x1 y8) := zz (HCy7.out.trans hch (fun i hi => HBLy7.out i hi))
     have hlly8 : usy8.length ≤ 100 := by omega
     have HLEy8 := zz hly8
     clear hus hf hch hk hly8
     refine oN hK (hS := .inr (HSB.out _ HCy8.out)) (h := ?_)
     clear hK K'
     refine oW (h := ?_)
     refine oD ?_
     go_wp2_with fail
     go_roundw
     case rel =>
      have hfin : usy8 = celL (row.take (x + 1)) := by rw [HLy8.out, HLy7.out, HTK.out, HQ.out.1, List.append_assoc]
      have hbe : Below w.heap.size w y8 := HQ.out.2.2.1.trans ((HB1.out.mono HQ.out.2.2.1.size).trans (HCy8.out.below (by have := HB1.out.size; have := HQ.out.2.2.1.size; omega) (fun k hk => by have := (Fr.blks HQ.out.2.1 _ hk).1; omega)))
      have hcc := HB1.out.trans ((Below.refl wr.heap.size x1).mono (Nat.le_refl _))
      refine ⟨x + 1, ay8, cy8, usy8, by omega, by go_num, rfl, ?_, zz ⟨hfin, HFy8.out, hbe, ?_, ?_, by have := HCy8.out.size; have := HB1.out.size; omega⟩⟩
      ·rw [hfin]
       have := Zv7 row (x + 1) 24 (by omega)
       omega
      ·exact ((HCy8.out.cell (p := ⟨w.heap.size, 0, none⟩) (by show w.heap.size < _; omega) (fun hk => by have h : w.heap.size + 1 ≤ w.heap.size := (Fr.blks HQ.out.2.1 _ hk).1; omega)).trans (HB1.out.cell (p := ⟨w.heap.size, 0, none⟩) kl)).trans k_0
      ·exact ((HCy8.out.cell (p := ⟨w.heap.size, 10, none⟩) (by show w.heap.size < _; omega) (fun hk => by have h : w.heap.size + 1 ≤ w.heap.size := (Fr.blks HQ.out.2.1 _ hk).1; omega)).trans (HB1.out.cell (p := ⟨w.heap.size, 10, none⟩) kl)).trans k_10
     case measure => simp [intOf]; omega
   ·skip
    refine ⟨_, [3,4,9,10], rfl, by kernel_rfl, rfl, fun K' hK => ?_⟩
    go_simp
    obtain ⟨y9, hx2⟩ : ∃ x, (x1.alloc (.cells #[.int .u8 u.toNat] 5)).drew = x := ⟨_, rfl⟩
    have hb2 : Below x1.heap.size x1 y9 := by rw [← hx2]; exact (bA).drew
    have HU : Hid (Sl yE 1 y9 (some ⟨x1.heap.size, 0, none⟩) [u]) := zz (by rw [← hx2]; exact boxL' (enc := yE) (w := x1.drew) (fun _ => rfl) [u] _ _ (by simp [yE]) _ (by simp))
    have HBy9 : Hid (Below x1.heap.size x1 y9) := zz (by first | (simpa using hb2) | exact ((Below.refl _ _).drew).trans (by simpa using hb2))
    have HCy9 : Hid (Ch (· ∈ bO av) x1 y9) := zz (HO1.out _ _ HC1.out (Ch.of_below HBy9.out))
    have HFy9 : Hid (Fr yE 5 1 (w.heap.size + 1) y9.heap.size (.slice av L.length cv) L y9) := zz ((HF1.out.below HBy9.out).mono (Nat.le_refl _) HBy9.out.size)
    have hzy9 := HBy9.out.size
    rw [hx2]
    clear hx2 hb2
    refine oN hK (hS := .inr (HSB.out _ HCy9.out)) (h := ?_)
    clear hK K'
    refine oO (hS := .inr (HSB.out _ HCy9.out)) (h := ?_)
    intro K' hK
    go_simp
    go_at_call 128
    refine (HCALL.out _).mono ?_
    rintro e y10 ⟨v2, rfl, hf2, hb2⟩
    obtain ⟨a2, c2, rfl, hc2, ho2⟩ := id hf2
    have HT : Hid (Sl yE 1 y10 a2 E) := zz (Sl.of_own (fun _ => rfl) ho2)
    have HBy10 : Hid (Below y9.heap.size y9 y10) := zz (by first | (simpa using hb2) | exact ((Below.refl _ _).drew).trans (by simpa using hb2))
    have HCy10 : Hid (Ch (· ∈ bO av) x1 y10) := zz (HO1.out _ _ HCy9.out (Ch.of_below HBy10.out))
    have HFy10 : Hid (Fr yE 5 1 (w.heap.size + 1) y10.heap.size (.slice av L.length cv) L y10) := zz ((HFy9.out.below HBy10.out).mono (Nat.le_refl _) HBy10.out.size)
    have hzy10 := HBy10.out.size
    have HUy10 : Hid (Sl yE 1 y10 (some ⟨x1.heap.size, 0, none⟩) [u]) := zz (HU.out.keep HBy10.out)
    clear hf2 hc2 ho2 hb2
    refine oN hK (hS := .inr (HSB.out _ HCy10.out)) (h := ?_)
    clear hK K'
    refine oO (hS := .inr (HSB.out _ HCy10.out)) (h := ?_)
    intro K' hK
    try simp only [j1,j2,j3]
    rw [if_pos (by rfl)]
    refine sAc (.tmp 25) (.tmp 28) 22 22 (w.heap.size + 1) 5 i0 (.int .u8 0) 1 1 Tryz.underlying22 hi hz0 hz1 hz2 rfl (by decide) av L.length cv L HFy10.out (.slice a2 E.length c2) E (Src.ofSl (enc := yE) Tryz.underlying22 (fun _ => rfl) Zf7 HT.out _) (by first | omega | (simp; omega)) (by have := HCy10.out.size; have := HB1.out.size; have := HQ.out.2.2.1.size; first | omega | (simp; omega)) ?_ ?_ ?_ ?_
    ·rfl
    ·rfl
    ·rfl
    intro ay11 cy11 y11 usy11 hus hf hch hk
    have hly11 : usy11.length = L.length + E.length := by rw [hus.out, List.length_append]
    have HLy11 := hus
    have HFy11 := zz hf
    have HBLy11 : Hid (∀ k ∈ bO ay11, k ∈ bO av ∨ x1.heap.size ≤ k) := zz (fun k h => by
     rcases hk k h with h | h
     ·exact .inl h
     ·exact .inr (by have := HCy10.out.size; (try simp at h); omega))
    have HCy11 : Hid (Ch (· ∈ bO av) x1 y11) := zz (HCy10.out.trans hch (fun i hi => .inl hi))
    have HUy11 : Hid (Sl yE 1 y11 (some ⟨x1.heap.size, 0, none⟩) [u]) := zz (Sl.ch HUy10.out hch (fun k hk hb => by
     simp only [bO, List.mem_singleton] at hk
     subst hk
     have h1 := (Fr.blks HQ.out.2.1 _ hb).2
     have h2 := HB1.out.size
     omega))
    have hlly11 : usy11.length ≤ 99 := by omega
    have HLEy11 := zz hly11
    clear hus hf hch hk hly11
    refine oN hK (hS := .inr (HSB.out _ HCy11.out)) (h := ?_)
    clear hK K'
    refine oO (hS := .inr (HSB.out _ HCy11.out)) (h := ?_)
    intro K' hK
    try simp only [j1,j2,j3]
    rw [if_pos (by rfl)]
    refine sAc (.tmp 29) (.tmp 33) 22 22 (w.heap.size + 1) 5 i0 (.int .u8 0) 1 1 Tryz.underlying22 hi hz0 hz1 hz2 rfl (by decide) ay11 usy11.length cy11 usy11 HFy11.out (.slice (some ⟨x1.heap.size, 0, none⟩) 1 1) [u] (Src.ofSl (enc := yE) Tryz.underlying22 (fun _ => rfl) Zf7 HUy11.out _) (by first | omega | (simp; omega)) (by have := HCy11.out.size; have := HB1.out.size; have := HQ.out.2.2.1.size; first | omega | (simp; omega)) ?_ ?_ ?_ ?_
    ·rfl
    ·rfl
    ·rfl
    intro ay12 cy12 y12 usy12 hus hf hch hk
    have hly12 : usy12.length = usy11.length + 1 := by rw [hus.out, List.length_append]; rfl
    have HLy12 := hus
    have HFy12 := zz hf
    have HBLy12 : Hid (∀ k ∈ bO ay12, k ∈ bO av ∨ x1.heap.size ≤ k) := zz (fun k h => by
     rcases hk k h with h | h
     ·exact HBLy11.out k h
     ·exact .inr (by have := HCy11.out.size; (try simp at h); omega))
    have HCy12 : Hid (Ch (· ∈ bO av) x1 y12) := zz (HCy11.out.trans hch (fun i hi => HBLy11.out i hi))
    have hlly12 : usy12.length ≤ 100 := by omega
    have HLEy12 := zz hly12
    clear hus hf hch hk hly12
    refine oN hK (hS := .inr (HSB.out _ HCy12.out)) (h := ?_)
    clear hK K'
    refine oW (h := ?_)
    refine oD ?_
    go_wp2_with fail
    go_roundw
    case rel =>
     have hfin : usy12 = celL (row.take (x + 1)) := by rw [HLy12.out, HLy11.out, HTK.out, HQ.out.1, List.append_assoc]
     have hbe : Below w.heap.size w y12 := HQ.out.2.2.1.trans ((HB1.out.mono HQ.out.2.2.1.size).trans (HCy12.out.below (by have := HB1.out.size; have := HQ.out.2.2.1.size; omega) (fun k hk => by have := (Fr.blks HQ.out.2.1 _ hk).1; omega)))
     have hcc := HB1.out.trans ((Below.refl wr.heap.size x1).mono (Nat.le_refl _))
     refine ⟨x + 1, ay12, cy12, usy12, by omega, by go_num, rfl, ?_, zz ⟨hfin, HFy12.out, hbe, ?_, ?_, by have := HCy12.out.size; have := HB1.out.size; omega⟩⟩
     ·rw [hfin]
      have := Zv7 row (x + 1) 24 (by omega)
      omega
     ·exact ((HCy12.out.cell (p := ⟨w.heap.size, 0, none⟩) (by show w.heap.size < _; omega) (fun hk => by have h : w.heap.size + 1 ≤ w.heap.size := (Fr.blks HQ.out.2.1 _ hk).1; omega)).trans (HB1.out.cell (p := ⟨w.heap.size, 0, none⟩) kl)).trans k_0
     ·exact ((HCy12.out.cell (p := ⟨w.heap.size, 10, none⟩) (by show w.heap.size < _; omega) (fun hk => by have h : w.heap.size + 1 ≤ w.heap.size := (Fr.blks HQ.out.2.1 _ hk).1; omega)).trans (HB1.out.cell (p := ⟨w.heap.size, 10, none⟩) kl)).trans k_10
    case measure => simp [intOf]; omega
  ·obtain rfl : x = wd := by omega
   have htk : row.take x = row := List.take_of_length_le (by rw [HRL.out]; exact Nat.le_refl _)
   have HLL : Hid (L = celL row) := zz (by rw [HQ.out.1, htk])
   clear htk
   have HLF : Hid (Sl yE 1 wr av L) := zz (HQ.out.2.1.sl (fun _ => rfl))
   have hcv : (convert 22 9 (.slice av L.length cv)).run Tryz.prog wr = .ok (.string (sO_ L)) wr := convS HLF.out
   go_wp2_with fail
   go_ret
   exact ⟨by rw [HLL.out]; rfl, HQ.out.2.2.1⟩
end
section
theorem maskU (a : Nat) (ha : a < 4294967296) : bits .and .u64 (a : Int) 4294967295 = (a : Int) := by
 have h := bits_and_u64_nat a 4294967295 (by omega) (by omega)
 have e : a &&& 4294967295 = a % 4294967296 := Nat.and_two_pow_sub_one_eq_mod a 32
 rw [e, Nat.mod_eq_of_lt ha] at h
 exact h
theorem mul64_c (c : Nat) (hc : c ≤ 240) (w : World) :
 Calls Tryz.prog 155 #[.int .u64 1, .int .u64 c] w fun e w' => e = .returned (.tuple #[.int .u64 0, .int .u64 c]) ∧ w = w' := by
 have h1 : bits .and .u64 (1 : Int) 4294967295 = 1 := maskU 1 (by omega)
 have h0 : bits .and .u64 (0 : Int) 4294967295 = 0 := maskU 0 (by omega)
 have h2 : bits .and .u64 (c : Int) 4294967295 = (c : Int) := maskU c (by omega)
 have h3 : (c : Int) / 4294967296 = 0 := by omega
 go_enter Tryz.func155, Tryz.ntmps155
 go_wp2_with fail
 go_ret2
 exact ⟨rfl, rfl⟩
theorem mul_c (c : Nat) (hc : c ≤ 240) (w : World) :
 Calls Tryz.prog 144 #[.int .u64 1, .int .u64 c] w fun e w' => e = .returned (.tuple #[.int .u64 0, .int .u64 c]) ∧ w = w' := by
 go_enter Tryz.func144, Tryz.ntmps144
 go_wp2_with fail
 refine (mul64_c c hc _).mono ?_
 rintro e w' ⟨rfl, rfl⟩
 go_wp2_with fail
 go_ret2
 exact ⟨rfl, rfl⟩
def repB (n c : Nat) : List Cl := bL n ++ List.replicate (c - n) ((0 : Int), (0 : Int))
theorem Zp5 {n c : Nat} (h : n ≤ c) : (repB n c).length = c := by simp [repB, bL]; omega
theorem Zl2 {n m c : Nat} (h : n + m ≤ c) : splice (repB n c) n (bL m) = repB (n + m) c := by
 unfold splice repB
 have hl : (bL n).length = n := by simp [bL]
 have hm : (bL m).length = m := by simp [bL]
 rw [List.take_left' hl, hm, ← List.drop_drop, List.drop_left' hl, List.drop_replicate, show c - n - m = c - (n + m) by omega]
 simp only [bL, ← List.append_assoc, List.replicate_append_replicate]
theorem repB_pre {n c : Nat} (m : Nat) (h : m ≤ n) : (repB n c).take m = bL m := by
 have hl : (bL n).length = n := by simp [bL]
 rw [repB, List.take_append_of_le_length (by omega), bL, List.take_replicate, Nat.min_eq_left h]
 rfl
theorem Fr.sl' {α : Type} {enc : α → List Value} {sz : Nat} {e : TypeId} {lo hi n c : Nat} {a : Option Addr} {xs : List α} {w : World} (hs : ∀ x, (enc x).length = sz) (h : Fr enc e sz lo hi (.slice a n c) xs w) : Sl enc sz w a xs := by
 have := h.len
 subst this
 exact h.sl hs
theorem Yb3 (n : Nat) : repB 0 n = List.replicate n ((0 : Int), (0 : Int)) := by simp [repB, bL]
theorem Sl.take' {α : Type} {enc : α → List Value} {sz : Nat} {w : World} {a : Option Addr} {xs : List α} (h : Sl enc sz w a xs) (n : Nat) : Sl enc sz w a (xs.take n) := by
 rcases h with rfl | ⟨b, off, rfl, hb, hc⟩
 ·simp only [List.take_nil]
  exact Sl.nil
 ·refine .inr ⟨b, off, rfl, hb, fun i hi j hj => ?_⟩
  have hi' : i < xs.length := by rw [List.length_take] at hi; omega
  rw [hc i hi' j hj, List.getElem_take]
theorem Ye1 (b ca c : Nat) (hc : c ≤ 240) (h1 : 1 ≤ c) (w : World) (hs : Sl Za0 2 w (some ⟨b, 0, none⟩) [blank]) (hb : b < w.heap.size) :
 Calls Tryz.prog 126 #[.slice (some ⟨b, 0, none⟩) 1 ca, .int .i64 c] w (Ze0 Za0 87 2 w (bL c)) := by
 obtain ⟨i0, hi, hz0, hz1, hz2⟩ := info_parts Tryz.infoCell
 have HS := zz hs
 have hcu : (c : Int) ≤ 9223372036854775807 := by omega
 have hc0 : (0 : Int) ≤ (c : Int) := by omega
 clear hs
 go_enter Tryz.func126, Tryz.ntmps126
 go_wp2_with fail
 refine (mul_c c hc _).mono ?_
 rintro e w1 ⟨rfl, rfl⟩
 go_wp2_with (at_make; refine wpList_make_full _ rfl _ _ 23 rfl w.heap.size 87 i0 (.agg #[.int .i64 0, .int .i64 0]) 2 Tryz.underlying23 hi hz0 hz1 .i64 .i64 _ _ c rfl rfl rfl rfl ?c1 ?c2 ?c3 ?_)
 case c1 => rw [hz2]; omega
 case c2 => unfold maxLen; omega
 case c3 => exact Nat.le_refl _
 intro w1 hown hg
 have hm := Zm0 Za0 2 ((0 : Int), (0 : Int)) #[.int .i64 0, .int .i64 0] rfl (fun _ => rfl) c
 have hf1 : Fr Za0 87 2 w.heap.size w1.heap.size (.slice (some ⟨w.heap.size, 0, none⟩) c c) (repB 0 c) w1 := by
  refine (F_.of_own (n := c) (cs := (repB 0 c).flatMap Za0) ?_ (by rw [Zp5 (by omega)]) rfl).here
  rw [Yb3, ← hm]
  exact hown
 have hb1 : Below w.heap.size w w1 := (Below.refl _ _).grown hg (Nat.le_refl _) (by simp)
 obtain ⟨w2, hcp, hf2, hch⟩ := Zg4 (P := Tryz.prog) (enc := Za0) (sz := 2) (w := w1) (g := w.heap.size) (dLen := c) (dCap := c) (sLen := 1) (sCap := ca) (dp := some ⟨w.heap.size, 0, none⟩) (sp := some ⟨b, 0, none⟩) (off := 0) 23 23 3 87 Tryz.underlying23 (by kernel_rfl) (fun _ => rfl) Ze2 hf1 [blank] (by show 1 = min 1 c; omega) (fun _ => ⟨by simp, HS.out.keep hb1⟩) (by rw [Zp5 (by omega)]; exact h1)
 have hcp' : (Builtin.copy_ #[23, 23] 3 #[.slice (some ⟨w.heap.size, 0, none⟩) c c, .slice (some ⟨b, 0, none⟩) 1 ca]).run Tryz.prog w1 = .ok (.int .i64 1) w2 := hcp
 have HF2 : Hid (Fr Za0 87 2 w.heap.size w2.heap.size (.slice (some ⟨w.heap.size, 0, none⟩) c c) (repB 1 c) w2) := zz (by
  have e := Zl2 (n := 0) (m := 1) (c := c) (by omega)
  rw [show 0 + 1 = 1 by omega] at e
  rw [← e]
  exact hf2.mono (Nat.le_refl _) hch.size)
 have HB2 : Hid (Below w.heap.size w w2) := zz (hb1.trans (hch.below hb1.size (fun k h => by omega)))
 clear hm hown hg hf1 hb1 hcp hf2 hch
 go_wp2_with fail
 clear hcp'
 go_loopw [8] (fun nv wr => ∃ n : Nat, nv = .int .i64 n ∧ 1 ≤ n ∧ n ≤ c ∧ Hid (Fr Za0 87 2 w.heap.size wr.heap.size (.slice (some ⟨w.heap.size, 0, none⟩) c c) (repB n c) wr ∧ Below w.heap.size w wr)) (fun nv _ => c - (intOf nv).toNat)
 case atStart => exact ⟨1, rfl, Nat.le_refl _, h1, zz ⟨HF2.out, HB2.out⟩⟩
 case round =>
  obtain ⟨n, rfl, hn1, hnc, HQ⟩ := hrel
  by_cases hlt : n < c
  ·have hlt' : (n : Int) < (c : Int) := by omega
   have hn0 : (0 : Int) ≤ (n : Int) := by omega
   have hle : (n : Int) ≤ (c : Int) := by omega
   obtain ⟨m, hm⟩ : ∃ m, m = min n (c - n) := ⟨_, rfl⟩
   have hm1 : 1 ≤ m := by omega
   have hm2 : n + m ≤ c := by omega
   have hcn : ¬ c = n := by omega
   have em : IntKind.i64.wrap ((n : Int) + (m : Int)) = (n : Int) + (m : Int) := iIq _
   have HM := zz hm
   have HFD : Hid (Fr Za0 87 2 w.heap.size wr.drew.heap.size (.slice (some ⟨w.heap.size, 0, none⟩) c c) (repB n c) wr.drew) := zz HQ.out.1.drew
   have HSL : Hid (Sl Za0 2 wr.drew (some ⟨w.heap.size, 0, none⟩) (bL m)) := zz (by
    have := Fr.sl' (enc := Za0) (sz := 2) (fun _ => rfl) HFD.out
    rw [← repB_pre (n := n) (c := c) m (by omega)]
    exact Sl.take' this m)
   clear hm
   go_upto_region 9 with fail
   refine rO (fun w' => True) [] [0,1,2,3,4,5,6,7,8,9] ?_
   iterate 7 refine oW (h := ?_)
   refine oO (hS := .inr trivial) (h := ?_)
   intro K' hK
   try simp only [j1,j2,j3]
   rw [if_pos (by rfl)]
   refine sCf (enc := Za0) (sz := 2) (.tmp 41) (.tmp 44) 23 23 87 Tryz.underlying23 (by kernel_rfl) (fun _ => rfl) Ze2 HFD.out (dp := some ⟨w.heap.size, n * 2, none⟩) (dLen := c - n) (dCap := c - n) (sp := some ⟨w.heap.size, 0, none⟩) (sLen := n) (sCap := c) (off := n) (bL m) (by have := HM.out; simp only [bL, List.length_replicate]; exact this) (fun _ => ⟨rfl, HSL.out⟩) (by rw [Zp5 hnc]; simp [bL]; omega) rfl (by simp [Act.eval, Act.put, hcn]) (by simp [Act.eval, Act.put, hcn]) ?_
   intro w3 hf3 hc3
   rw [Zl2 hm2] at hf3
   have HF3 : Hid (Fr Za0 87 2 w.heap.size w3.heap.size (.slice (some ⟨w.heap.size, 0, none⟩) c c) (repB (n + m) c) w3) := zz (hf3.mono (Nat.le_refl _) hc3.size)
   have HB3 : Hid (Below w.heap.size w w3) := zz (HQ.out.2.trans (((Below.refl _ _).drew).trans (hc3.below HQ.out.2.size (fun k h => by omega))))
   clear hf3 hc3
   refine oN hK (hS := .inr trivial) (h := ?_)
   clear hK K'
   simp only [goInt]
   have hbl : (bL m).length = m := by simp [bL]
   rw [hbl]
   iterate 2 refine oW (h := ?_)
   refine oD ?_
   go_wp2_with fail
   go_roundw
   case rel => exact ⟨n + m, by first | rfl | (congr 1; omega), by omega, by omega, zz ⟨HF3.out, HB3.out⟩⟩
   case measure => simp [intOf]; omega
  ·obtain rfl : n = c := by omega
   go_wp2_with fail
   go_ret
   have e : repB n n = bL n := by simp [repB]
   have hl : n = (bL n).length := by simp [bL]
   have h2 := HQ.out.1.1
   rw [e] at h2
   exact ⟨_, rfl, h2, HQ.out.2⟩
theorem blank_c (w : World) : Calls Tryz.prog 127 #[] w fun e w' => e = .returned (.agg #[.int .i64 32, .int .i64 0]) ∧ Below w.heap.size w w' := by
 go_enter Tryz.func127, Tryz.ntmps127
 go_wp2_with fail
 refine bodyPost_ret (v := .agg #[.int .i64 32, .int .i64 0]) (by simp [results, Tryz.results127, go_sem]) rfl ?_
 exact ⟨rfl, bA⟩
theorem Zg1 (c : Nat) (hc : c ≤ 240) (h1 : 1 ≤ c) (w : World) : Calls Tryz.prog 95 #[.int .i64 c] w (Ze0 Za0 87 2 w (bL c)) := by
 go_enter Tryz.func95, Tryz.ntmps95
 go_wp2_with fail
 refine (blank_c _).mono ?_
 rintro e w1 ⟨rfl, hb1⟩
 have HB1 := zz hb1
 clear hb1
 go_wp2_with fail
 refine (Ye1 w1.heap.size 1 c hc h1 _ (boxL' (enc := Za0) (w := w1) (fun _ => rfl) [blank] _ _ (by simp [Za0, blank]) _ rfl) (by simp)).mono ?_
 rintro e w2 ⟨v2, rfl, hf2, hb2⟩
 have HF2 := zz hf2
 have HB2 := zz hb2
 clear hf2 hb2
 go_wp2_with fail
 go_ret
 refine ⟨_, rfl, HF2.out.mono (by have := HB1.out.size; simp; omega), ?_⟩
 exact (HB1.out.alloc HB1.out.size _).trans (HB2.out.mono (by have := HB1.out.size; simp; omega))
end
section
theorem Zx6 (wd ht : Nat) (w : World) (h1 : wd ≤ 24) (h2 : ht ≤ 10) (h3 : 1 ≤ ht) (h4 : 1 ≤ wd) :
 Calls Tryz.prog 58 #[.int .i64 wd, .int .i64 ht] w (ScrN (newS wd ht) w) := by
 obtain ⟨n, hn⟩ := eX (wd * ht)
 have hn2 : n ≤ 240 := by rw [← hn]; exact Nat.mul_le_mul h1 h2
 have hn1 : 1 ≤ n := by rw [← hn]; exact Nat.mul_pos (by omega) (by omega)
 have hq : (wd : Int) * (ht : Int) = (n : Int) := by rw [← hn]; exact (Int.natCast_mul wd ht).symm
 have hq2 : (ht : Int) - 1 = ((ht - 1 : Nat) : Int) := by omega
 have HN := zz hn
 clear hn
 go_enter Tryz.func58, Tryz.ntmps58
 go_wp2_with fail
 refine (Zg1 n hn2 hn1 _).mono ?_
 rintro e w1 ⟨v1, rfl, hf, hb⟩
 obtain ⟨a, c, rfl, _⟩ := id hf
 have hbl : (bL n).length = n := by simp [bL]
 rw [hbl] at hf ⊢
 have HF : Hid (Fr Za0 87 2 (w.heap.size + 1) w1.heap.size (.slice a n c) (bL n) w1) := zz (by have := hf.here; simpa using this)
 have HB := zz hb
 have z1_0 : w1.cell? ⟨w.heap.size, 0, none⟩ = some (.int .i64 0) := kC hb (by simp) (by simp [go_sem])
 have z1_1 : w1.cell? ⟨w.heap.size, 1, none⟩ = some (.int .i64 0) := kC hb (by simp) (by simp [go_sem])
 have z1_2 : w1.cell? ⟨w.heap.size, 2, none⟩ = some (.int .i64 0) := kC hb (by simp) (by simp [go_sem])
 have z1_3 : w1.cell? ⟨w.heap.size, 3, none⟩ = some (.int .i64 0) := kC hb (by simp) (by simp [go_sem])
 have z1_4 : w1.cell? ⟨w.heap.size, 4, none⟩ = some (.int .i64 0) := kC hb (by simp) (by simp [go_sem])
 have z1_5 : w1.cell? ⟨w.heap.size, 5, none⟩ = some (.int .i64 0) := kC hb (by simp) (by simp [go_sem])
 have z1_6 : w1.cell? ⟨w.heap.size, 6, none⟩ = some (.int .i64 0) := kC hb (by simp) (by simp [go_sem])
 have z1_7 : w1.cell? ⟨w.heap.size, 7, none⟩ = some (.int .i64 0) := kC hb (by simp) (by simp [go_sem])
 have z1_8 : w1.cell? ⟨w.heap.size, 8, none⟩ = some (.int .i64 0) := kC hb (by simp) (by simp [go_sem])
 have z1_9 : w1.cell? ⟨w.heap.size, 9, none⟩ = some (.string ⟨#[]⟩) := kC hb (by simp) (by simp [go_sem])
 have z1_10 : w1.cell? ⟨w.heap.size, 10, none⟩ = some (.slice none 0 0) := kC hb (by simp) (by simp [go_sem])
 have z1_11 : w1.cell? ⟨w.heap.size, 11, none⟩ = some (.slice none 0 0) := kC hb (by simp) (by simp [go_sem])
 have z1_l : w.heap.size < w1.heap.size := (by have := hb.size; simp at this; omega)
 have z1_f : ∀ o, w1.frozen? ⟨w.heap.size, o, none⟩ = false := fun o => (hb.frozen (p := ⟨w.heap.size, o, none⟩) (by show w.heap.size < _; simp)).trans (by simp [go_sem])
 clear hf hb hbl
 go_wp2_with fail
 refine bodyPost_ret (v := .agg #[.int .i64 wd, .int .i64 ht, .int .i64 0, .int .i64 0, .int .i64 0, .int .i64 0, .int .i64 ((ht - 1 : Nat) : Int), .int .i64 0, .int .i64 0, .string ⟨#[]⟩, .slice a n c, .slice none 0 0]) (by simp [results, Tryz.results58, go_sem, z1_0, z1_1, z1_2, z1_3, z1_4, z1_5, z1_6, z1_7, z1_8, z1_9, z1_10, z1_11, z1_f]) rfl ?_
 have hlen : (newS wd ht).cells.length = n := by rw [← HN.out]; simp [newS, bL]
 have hcl : (newS wd ht).cells = bL n := by rw [← HN.out]; rfl
 refine ⟨a, c, none, 0, by unfold scrV; rw [hlen]; rfl, ⟨?_, Win.nil, fun k hk => by cases hk⟩, ?_⟩
 ·rw [hlen, hcl]
  exact (HF.out.ch ((((((((((((((Ch.refl (M := fun k => k = w.heap.size) (w := w1))).setB 0 _).setB 1 _).setB 2 _).setB 3 _).setB 4 _).setB 5 _).setB 6 _).setB 7 _).setB 8 _).setB 9 _).setB 10 _).setB 11 _) (fun k hk e => by have := (Fr.blks HF.out k hk).1; omega)).mono (by omega) (Nat.le_refl _)
 ·exact (((((((((((((((Below.refl w.heap.size w).alloc (Nat.le_refl _) _).trans (HB.out.mono (by simp))).setCell (Nat.le_refl _) _).setCell (Nat.le_refl _) _).setCell (Nat.le_refl _) _).setCell (Nat.le_refl _) _).setCell (Nat.le_refl _) _).setCell (Nat.le_refl _) _).setCell (Nat.le_refl _) _).setCell (Nat.le_refl _) _).setCell (Nat.le_refl _) _).setCell (Nat.le_refl _) _).setCell (Nat.le_refl _) _).setCell (Nat.le_refl _) _)
theorem Zt2 (a : Option Addr) (ca : Nat) (xs : List Cl) (w : World) (ha : Sl Za0 2 w a xs) (la : xs.length ≤ 1048576) :
 Calls Tryz.prog 72 #[.slice a xs.length ca] w (Ze0 Za0 87 2 w xs) := by
 obtain ⟨i0, hi, hz0, hz1, hz2⟩ := info_parts Tryz.infoCell
 cases a with
 | none =>
   obtain rfl : xs = [] := by
    rcases ha with h | ⟨b, o, h, _⟩
    ·exact h
    ·cases h
   clear ha
   have hnil : ∀ w, (binOp .eql 23 (.slice none 0 ca) (.slice none 0 0)).run Tryz.prog w = .ok (.bool true) w := fun w => Lib.run_eql_slice_nil w _ _ _ _ _ _ _ Tryz.underlying23
   go_enter Tryz.func72, Tryz.ntmps72
   go_wp2_with fail
   go_ret
   exact ⟨_, rfl, (Fr.nil _ _ _ _ 0 _).1, Below.refl _ _⟩
 | some p =>
   have HA := zz (ha.alloc (.cells #[] 87))
   have h0 := (F_.of_own (enc := Za0) (xs := []) (World.ownsRow_made (base := w.heap.size) (e := 87) (size := 2) w #[] 0 (Nat.le_refl _) (by decide) rfl) rfl rfl).here
   simp only [World.size_alloc] at h0
   have HF := zz h0
   clear h0
   have hnil : ∀ w, (binOp .eql 23 (.slice (some p) xs.length ca) (.slice none 0 0)).run Tryz.prog w = .ok (.bool false) w := fun w => Lib.run_eql_slice_nil w _ _ _ _ _ _ _ Tryz.underlying23
   go_enter Tryz.func72, Tryz.ntmps72
   go_wp2_with (first
    | (skip
       at_builtin
       refine wF rfl (.tmp 5) (.tmp 6) 23 23 rfl (w.heap.size) (w.heap.size + 1) 87 i0 (.agg #[.int .i64 0, .int .i64 0]) 2 16 Tryz.underlying23 hi hz0 hz1 hz2 rfl (by decide) (.slice (some ⟨w.heap.size, 0, none⟩) 0 0) ([]) rfl (HF.out) _ (xs) rfl (Src.ofSl (enc := Za0) Tryz.underlying23 (fun _ => rfl) Ze2 HA.out _) (by (try simp) <;> (try omega)) (by (try simp) <;> (try omega)) ?_
       intro a1 c1 w1 L1 hL1 hf1 hm1
       skip))
   go_ret
   obtain rfl : L1 = xs := by simpa using hL1.out
   exact ⟨_, rfl, hf1.1, ((Below.refl w.heap.size w).alloc (Nat.le_refl _) (.cells #[] 87)).trans (hm1.below (by omega) (by simp))⟩
theorem Zw0 (a : Option Addr) (ca : Nat) (xs : List ByteArray) (w : World) (ha : Sl sE 1 w a xs) (la : xs.length ≤ 1048576) :
 Calls Tryz.prog 59 #[.slice a xs.length ca] w (Ze0 sE 9 1 w xs) := by
 obtain ⟨i0, hi, hz0, hz1, hz2⟩ := info_parts Tryz.infoStr
 cases a with
 | none =>
   obtain rfl : xs = [] := by
    rcases ha with h | ⟨b, o, h, _⟩
    ·exact h
    ·cases h
   clear ha
   have hnil : ∀ w, (binOp .eql 24 (.slice none 0 ca) (.slice none 0 0)).run Tryz.prog w = .ok (.bool true) w := fun w => Lib.run_eql_slice_nil w _ _ _ _ _ _ _ Tryz.underlying24
   go_enter Tryz.func59, Tryz.ntmps59
   go_wp2_with fail
   go_ret
   exact ⟨_, rfl, (Fr.nil _ _ _ _ 0 _).1, Below.refl _ _⟩
 | some p =>
   have HA := zz (ha.alloc (.cells #[] 9))
   have h0 := (F_.of_own (enc := sE) (xs := []) (World.ownsRow_made (base := w.heap.size) (e := 9) (size := 1) w #[] 0 (Nat.le_refl _) (by decide) rfl) rfl rfl).here
   simp only [World.size_alloc] at h0
   have HF := zz h0
   clear h0
   have hnil : ∀ w, (binOp .eql 24 (.slice (some p) xs.length ca) (.slice none 0 0)).run Tryz.prog w = .ok (.bool false) w := fun w => Lib.run_eql_slice_nil w _ _ _ _ _ _ _ Tryz.underlying24
   go_enter Tryz.func59, Tryz.ntmps59
   go_wp2_with (first
    | (skip
       at_builtin
       refine wF rfl (.tmp 5) (.tmp 6) 24 24 rfl (w.heap.size) (w.heap.size + 1) 9 i0 (.string ⟨#[]⟩) 1 16 Tryz.underlying24 hi hz0 hz1 hz2 rfl (by decide) (.slice (some ⟨w.heap.size, 0, none⟩) 0 0) ([]) rfl (HF.out) _ (xs) rfl (Src.ofSl (enc := sE) Tryz.underlying24 (fun _ => rfl) Zr2 HA.out _) (by (try simp) <;> (try omega)) (by (try simp) <;> (try omega)) ?_
       intro a1 c1 w1 L1 hL1 hf1 hm1
       skip))
   go_ret
   obtain rfl : L1 = xs := by simpa using hL1.out
   exact ⟨_, rfl, hf1.1, ((Below.refl w.heap.size w).alloc (Nat.le_refl _) (.cells #[] 9)).trans (hm1.below (by omega) (by simp))⟩
end
section
theorem hcapE {α : Type} {enc : α → List Value} {e : TypeId} {sz lo hi n : Nat} {a : Option Addr} {c : Nat} {xs : List α} {w : World} (h : Fr enc e sz lo hi (.slice a n c) xs w) (hn : xs.length = n) : n ≤ c := by
 obtain ⟨⟨a', c', hv, h1, _⟩, _⟩ := h
 cases hv
 exact h1
end
section
def shU (f i w : Nat) (l : List Cl) : List Cl := l.take f ++ ((l.drop (f + w)).take (i - f) ++ l.drop i)
theorem Zw9 {f i w : Nat} {l : List Cl} (h1 : f ≤ i) (h2 : i + w ≤ l.length) : (shU f i w l).length = l.length := by
 simp only [shU, List.length_append, List.length_take, List.length_drop]
 omega
theorem Zj9 {f i w : Nat} {l : List Cl} (h1 : f ≤ i) (h2 : i + w ≤ l.length) (j : Nat) : (shU f i w l)[j]? = if j < f then l[j]? else if j < i then l[j + w]? else l[j]? := by
 unfold shU
 by_cases a : j < f
 ·rw [if_pos a, List.getElem?_append_left (by rw [List.length_take]; omega), List.getElem?_take, if_pos a]
 ·rw [if_neg a, List.getElem?_append_right (by rw [List.length_take]; omega)]
  have e1 : (l.take f).length = f := by rw [List.length_take]; omega
  rw [e1]
  by_cases c : j < i
  ·rw [if_pos c, List.getElem?_append_left (by rw [List.length_take, List.length_drop]; omega), List.getElem?_take, if_pos (by omega), List.getElem?_drop]
   congr 1
   omega
  ·rw [if_neg c, List.getElem?_append_right (by rw [List.length_take, List.length_drop]; omega), List.getElem?_drop]
   congr 1
   rw [List.length_take, List.length_drop]
   omega
theorem shU_none {f w : Nat} {l : List Cl} : shU f f w l = l := by simp [shU]
theorem shU_next {f i w : Nat} {l : List Cl} (h1 : f ≤ i) (h2 : i + w < l.length) : (shU f i w l).set i (l[i + w]'h2) = shU f (i + 1) w l := by
 apply List.ext_getElem?
 intro j
 rw [List.getElem?_set, Zj9 (i := i + 1) (by omega) (by omega), Zj9 (i := i) h1 (by omega), Zw9 h1 (by omega)]
 by_cases e : i = j
 ·subst e
  rw [if_pos rfl, if_pos (by omega), if_neg (by omega), if_pos (by omega), List.getElem?_eq_getElem h2]
 ·rw [if_neg e]
  by_cases a : j < f
  ·rw [if_pos a, if_pos a]
  ·rw [if_neg a, if_neg a]
   by_cases c : j < i
   ·rw [if_pos c, if_pos (by omega)]
   ·rw [if_neg c, if_neg (by omega)]
theorem shU_at {f i w : Nat} {l : List Cl} (h1 : f ≤ i) (h2 : i + w < l.length) (h3 : i + w < (shU f i w l).length) : (shU f i w l)[i + w] = l[i + w] := by
 have := Zj9 (f := f) (i := i) (w := w) (l := l) h1 (by omega) (i + w)
 rw [if_neg (by omega)] at this
 rw [List.getElem?_eq_getElem h3, List.getElem?_eq_getElem h2] at this
 split at this
 ·rename_i hlt
  obtain rfl : w = 0 := by omega
  simp at hlt
 ·exact Option.some.inj this
def shD (e m w : Nat) (l : List Cl) : List Cl := l.take m ++ ((l.drop (m - w)).take (e - m) ++ l.drop e)
theorem Zu7 {e m w : Nat} {l : List Cl} (h0 : w ≤ m) (h1 : m ≤ e) (h2 : e ≤ l.length) : (shD e m w l).length = l.length := by
 simp only [shD, List.length_append, List.length_take, List.length_drop]
 omega
theorem Zl3 {e m w : Nat} {l : List Cl} (h0 : w ≤ m) (h1 : m ≤ e) (h2 : e ≤ l.length) (j : Nat) : (shD e m w l)[j]? = if j < m then l[j]? else if j < e then l[j - w]? else l[j]? := by
 unfold shD
 have e1 : (l.take m).length = m := by rw [List.length_take]; omega
 by_cases a : j < m
 ·rw [if_pos a, List.getElem?_append_left (by omega), List.getElem?_take, if_pos a]
 ·rw [if_neg a, List.getElem?_append_right (by omega), e1]
  by_cases c : j < e
  ·rw [if_pos c, List.getElem?_append_left (by rw [List.length_take, List.length_drop]; omega), List.getElem?_take, if_pos (by omega), List.getElem?_drop]
   congr 1
   omega
  ·rw [if_neg c, List.getElem?_append_right (by rw [List.length_take, List.length_drop]; omega), List.getElem?_drop]
   congr 1
   rw [List.length_take, List.length_drop]
   omega
theorem shD_none {e w : Nat} {l : List Cl} : shD e e w l = l := by simp [shD]
theorem shD_next {e m w : Nat} {l : List Cl} (h0 : w ≤ m) (h1 : m < e) (h2 : e ≤ l.length) (h3 : m - w < l.length) : (shD e (m + 1) w l).set m (l[m - w]'h3) = shD e m w l := by
 apply List.ext_getElem?
 intro j
 rw [List.getElem?_set, Zl3 (m := m + 1) (by omega) (by omega) h2, Zl3 (m := m) h0 (by omega) h2, Zu7 (by omega) (by omega) h2]
 by_cases q : m = j
 ·subst q
  rw [if_pos rfl, if_pos (by omega), if_neg (by omega), if_pos h1, List.getElem?_eq_getElem h3]
 ·rw [if_neg q]
  by_cases a : j < m
  ·rw [if_pos (by omega), if_pos a]
  ·rw [if_neg (by omega), if_neg a]
theorem shD_at {e m w : Nat} {l : List Cl} (h0 : w ≤ m) (h1 : m < e) (h2 : e ≤ l.length) (h3 : m - w < l.length) (h4 : m - w < (shD e (m + 1) w l).length) : (shD e (m + 1) w l)[m - w] = l[m - w] := by
 have := Zl3 (e := e) (m := m + 1) (w := w) (l := l) (by omega) (by omega) h2 (m - w)
 rw [if_pos (by omega), List.getElem?_eq_getElem h4, List.getElem?_eq_getElem h3] at this
 exact Option.some.inj this
theorem up1_sh {w a b : Nat} {l : List Cl} (hab : a ≤ b) (hb : (b + 1) * w ≤ l.length) : clrL (b * w) ((b + 1) * w) (shU (a * w) (b * w) w l) = up1 w a b l := by
 have h2 : a * w ≤ b * w := Za2 hab
 have e1 : (a + 1) * w = a * w + w := Nat.succ_mul a w
 have e2 : (b + 1) * w = b * w + w := Nat.succ_mul b w
 have e3 : (b - a) * w = b * w - a * w := Nat.sub_mul b a w
 unfold clrL up1
 rw [e2, show b * w + w - b * w = w by omega]
 apply List.ext_getElem?
 intro j
 have hl1 : (l.take (a * w)).length = a * w := by rw [List.length_take]; omega
 have hl2 : ((l.drop ((a + 1) * w)).take ((b - a) * w)).length = b * w - a * w := by rw [List.length_take, List.length_drop]; omega
 have hl3 : ((shU (a * w) (b * w) w l).take (b * w)).length = b * w := by rw [List.length_take, Zw9 h2 (by omega)]; omega
 by_cases c1 : j < b * w
 ·rw [List.getElem?_append_left (by omega), List.getElem?_take, if_pos c1, Zj9 h2 (by omega)]
  by_cases c2 : j < a * w
  ·rw [if_pos c2, List.getElem?_append_left (by omega), List.getElem?_take, if_pos c2]
  ·rw [if_neg c2, if_pos c1, List.getElem?_append_right (by omega), hl1, List.getElem?_append_left (by omega), List.getElem?_take, if_pos (by omega), List.getElem?_drop]
   congr 1
   omega
 ·rw [List.getElem?_append_right (l₁ := (shU (a * w) (b * w) w l).take (b * w)) (by omega), hl3, List.getElem?_append_right (l₁ := l.take (a * w)) (by omega), hl1, List.getElem?_append_right (l₁ := (l.drop ((a + 1) * w)).take ((b - a) * w)) (by omega), hl2]
  have e4 : j - a * w - (b * w - a * w) = j - b * w := by omega
  rw [e4]
  by_cases c2 : j - b * w < w
  ·rw [List.getElem?_append_left (by simp [bL]; omega), List.getElem?_append_left (by simp [bL]; omega)]
  ·rw [List.getElem?_append_right (by simp [bL]; omega), List.getElem?_append_right (by simp [bL]; omega), List.getElem?_drop, List.getElem?_drop]
   simp only [bL, List.length_replicate]
   rw [Zj9 h2 (by omega), if_neg (by omega), if_neg (by omega)]
theorem dn1_sh {w a b : Nat} {l : List Cl} (hab : a ≤ b) (hb : (b + 1) * w ≤ l.length) : clrL (a * w) ((a + 1) * w) (shD ((b + 1) * w) ((a + 1) * w) w l) = dn1 w a b l := by
 have h2 : a * w ≤ b * w := Za2 hab
 have e1 : (a + 1) * w = a * w + w := Nat.succ_mul a w
 have e2 : (b + 1) * w = b * w + w := Nat.succ_mul b w
 have e3 : (b - a) * w = b * w - a * w := Nat.sub_mul b a w
 unfold clrL dn1
 rw [e1, show a * w + w - a * w = w by omega]
 apply List.ext_getElem?
 intro j
 have hl1 : (l.take (a * w)).length = a * w := by rw [List.length_take]; omega
 have hl2 : ((l.drop (a * w)).take ((b - a) * w)).length = b * w - a * w := by rw [List.length_take, List.length_drop]; omega
 have hl3 : ((shD ((b + 1) * w) (a * w + w) w l).take (a * w)).length = a * w := by rw [List.length_take, Zu7 (by omega) (by omega) hb]; omega
 have hl4 : (bL w).length = w := by simp [bL]
 by_cases c1 : j < a * w
 ·rw [List.getElem?_append_left (by omega), List.getElem?_append_left (by omega), List.getElem?_take, List.getElem?_take, if_pos c1, if_pos c1, Zl3 (by omega) (by omega) hb, if_pos (by omega)]
 ·rw [List.getElem?_append_right (l₁ := (shD ((b + 1) * w) (a * w + w) w l).take (a * w)) (by omega), List.getElem?_append_right (l₁ := l.take (a * w)) (by omega), hl1, hl3]
  by_cases c2 : j - a * w < w
  ·rw [List.getElem?_append_left (by omega), List.getElem?_append_left (by omega)]
  ·rw [List.getElem?_append_right (l₁ := bL w) (by omega), List.getElem?_append_right (l₁ := bL w) (by omega), hl4, List.getElem?_drop, Zl3 (by omega) (by omega) hb, if_neg (by omega)]
   by_cases c3 : j < (b + 1) * w
   ·rw [if_pos (by omega), List.getElem?_append_left (by omega), List.getElem?_take, if_pos (by omega), List.getElem?_drop]
    congr 1
    omega
   ·rw [if_neg (by omega), List.getElem?_append_right (by omega), hl2, List.getElem?_drop]
    congr 1
    omega
end
section
theorem Yh1 (s : Scr) (ac : Option Addr) (cc : Nat) (ah : Option Addr) (dh : Nat) (w : World) (h : sS s ac ah w) (ok : sK s) :
 Calls Tryz.prog 142 #[.agg #[.int .i64 s.w, .int .i64 s.h, .int .i64 s.x, .int .i64 s.y, .int .i64 s.look, .int .i64 s.top, .int .i64 s.bot, .int .i64 s.sx, .int .i64 s.sy, .string s.title, .slice ac s.cells.length cc, .slice ah s.hist.length dh], .int .i64 0] w fun e w' => e = .returned (.string (rowT s 0)) ∧ Below w.heap.size w w' :=
 l04Row_c s ac cc ah dh 0 w h (by have := ok.w1; omega) ok.w2 ok.h2 (by have := ok.h1; omega) ok.cn (fun c hc => (ok.cs c hc).1)
theorem Zr0 {l : List ByteArray} {r : ByteArray} (h : ¬ 6 < (l ++ [r]).length) : pushH l r = l ++ [r] := if_neg h
theorem Zr9 {l : List ByteArray} {r : ByteArray} {x : ByteArray} {t : List ByteArray} (h : 6 < (l ++ [r]).length) (e : l ++ [r] = x :: t) : pushH l r = t := by
 unfold pushH
 rw [if_pos h, e]
 rfl
theorem SA.hist2 {lo b o : Nat} {s s' : Scr} {g cc : Nat} {ah : Option Addr} {dh : Nat} {w w' : World} {us : List ByteArray} {a' : Option Addr} {c' : Nat} {M : Nat → Prop} (h : SA lo b o { s' with hist := s.hist } g cc ah dh w) (hc : Ch M w w') (h1 : ¬ M b) (h2 : ¬ M g) (hw : Win sE 9 1 lo w' a' c' us) (hd : ∀ k ∈ bO a', k ≠ b ∧ k ≠ g) : SA lo b o { s' with hist := us } g cc a' c' (w'.setCell ⟨b, o + 11, none⟩ (.slice a' us.length c')) where
 c0 := sO ((hc.cell (p := ⟨b, o, none⟩) h.lt h1).trans h.c0)
 c1 := sO ((hc.cell (p := ⟨b, o + 1, none⟩) h.lt h1).trans h.c1)
 c2 := sO ((hc.cell (p := ⟨b, o + 2, none⟩) h.lt h1).trans h.c2)
 c3 := sO ((hc.cell (p := ⟨b, o + 3, none⟩) h.lt h1).trans h.c3)
 c4 := sO ((hc.cell (p := ⟨b, o + 4, none⟩) h.lt h1).trans h.c4)
 c5 := sO ((hc.cell (p := ⟨b, o + 5, none⟩) h.lt h1).trans h.c5)
 c6 := sO ((hc.cell (p := ⟨b, o + 6, none⟩) h.lt h1).trans h.c6)
 c7 := sO ((hc.cell (p := ⟨b, o + 7, none⟩) h.lt h1).trans h.c7)
 c8 := sO ((hc.cell (p := ⟨b, o + 8, none⟩) h.lt h1).trans h.c8)
 c9 := sO ((hc.cell (p := ⟨b, o + 9, none⟩) h.lt h1).trans h.c9)
 c10 := sO ((hc.cell (p := ⟨b, o + 10, none⟩) h.lt h1).trans h.c10)
 c11 := World.cell?_setCell_same _ _ _ ((hc.cell (p := ⟨b, o + 11, none⟩) h.lt h1).trans h.c11)
 fz := fun k => (World.frozen?_setCell _ _ _ _).trans ((hc.frozen (p := ⟨b, k, none⟩) h.lt h1).trans (h.fz k))
 lt := by have := Nat.lt_of_lt_of_le h.lt hc.size; simpa [World.setCell] using this
 row := (h.row.ch hc (fun k hk => by simp only [bO, List.mem_singleton] at hk; subst hk; exact h2)).ch (Ch.set1' w' b (o + 11) _) (fun k hk e => by simp only [bO, List.mem_singleton] at hk; exact h.gb (hk.symm.trans e))
 win := hw.ch (Ch.set1' w' b (o + 11) _) (fun k hk e => (hd k hk).1 e)
 gb := h.gb
 hb := hd
theorem SA.hist' {lo b o : Nat} {s : Scr} {g cc : Nat} {ah : Option Addr} {dh : Nat} {w w' : World} {us : List ByteArray} {a' : Option Addr} {c' : Nat} (h : SA lo b o s g cc ah dh w) (hc : Ch (· ∈ bO ah) w w') (h1 : ¬ b ∈ bO ah) (h2 : ¬ g ∈ bO ah) (hw : Win sE 9 1 lo w' a' c' us) (hd : ∀ k ∈ bO a', k ≠ b ∧ k ≠ g) : SA lo b o { s with hist := us } g cc a' c' (w'.setCell ⟨b, o + 11, none⟩ (.slice a' us.length c')) where
 c0 := sO ((hc.cell (p := ⟨b, o, none⟩) h.lt h1).trans h.c0)
 c1 := sO ((hc.cell (p := ⟨b, o + 1, none⟩) h.lt h1).trans h.c1)
 c2 := sO ((hc.cell (p := ⟨b, o + 2, none⟩) h.lt h1).trans h.c2)
 c3 := sO ((hc.cell (p := ⟨b, o + 3, none⟩) h.lt h1).trans h.c3)
 c4 := sO ((hc.cell (p := ⟨b, o + 4, none⟩) h.lt h1).trans h.c4)
 c5 := sO ((hc.cell (p := ⟨b, o + 5, none⟩) h.lt h1).trans h.c5)
 c6 := sO ((hc.cell (p := ⟨b, o + 6, none⟩) h.lt h1).trans h.c6)
 c7 := sO ((hc.cell (p := ⟨b, o + 7, none⟩) h.lt h1).trans h.c7)
 c8 := sO ((hc.cell (p := ⟨b, o + 8, none⟩) h.lt h1).trans h.c8)
 c9 := sO ((hc.cell (p := ⟨b, o + 9, none⟩) h.lt h1).trans h.c9)
 c10 := sO ((hc.cell (p := ⟨b, o + 10, none⟩) h.lt h1).trans h.c10)
 c11 := World.cell?_setCell_same _ _ _ ((hc.cell (p := ⟨b, o + 11, none⟩) h.lt h1).trans h.c11)
 fz := fun k => (World.frozen?_setCell _ _ _ _).trans ((hc.frozen (p := ⟨b, k, none⟩) h.lt h1).trans (h.fz k))
 lt := by have := Nat.lt_of_lt_of_le h.lt hc.size; simpa [World.setCell] using this
 row := (h.row.ch hc (fun k hk => by simp only [bO, List.mem_singleton] at hk; subst hk; exact h2)).ch (Ch.set1' w' b (o + 11) _) (fun k hk e => by simp only [bO, List.mem_singleton] at hk; exact h.gb (hk.symm.trans e))
 win := hw.ch (Ch.set1' w' b (o + 11) _) (fun k hk e => (hd k hk).1 e)
 gb := h.gb
 hb := hd
def OldH (ah : Option Addr) (dh : Nat) (l : List ByteArray) (ah' : Option Addr) (dh' : Nat) (l' : List ByteArray) : Prop := (ah' = ah ∧ dh' = dh ∧ ∃ tl, l' = l ++ tl) ∨ ∀ k ∈ bO ah', k ∉ bO ah
theorem Upd.set1'' {g lo hi o : Nat} {S : Nat → Prop} {a w : World} (h : Upd g lo hi S a w) (h1 : lo ≤ o) (h2 : o < hi) (u : Value) : Upd g lo hi S a (w.setCell ⟨g, o, none⟩ u) := h.setCell o h1 h2 u
theorem Zk8 (lo b : Nat) (s : Scr) (g cc : Nat) (ah : Option Addr) (dh : Nat) (w : World) (t bt n : Nat) (h : SA lo b 0 s g cc ah dh w) (ok : sK s) (htb : t ≤ bt) (hbt : bt < s.h) (hn : n ≤ 10) (hlo : lo ≤ w.heap.size) :
 Calls Tryz.prog 120 #[.pointer (some ⟨b, 0, none⟩), .int .i64 t, .int .i64 bt, .int .i64 n] w fun e w' => e = .returned (.tuple #[]) ∧ sR lo b 0 (scU true t bt n s) g ah w w' ∧ Win sE 9 1 lo w' ah dh s.hist := by
 obtain ⟨iS, hS, hS0, hS1, hS2⟩ := info_parts Tryz.infoStr
 have hS := hS
 have HS := zz h
 have HOK := zz ok
 clear h ok
 go_enter Tryz.func120, Tryz.ntmps120
 go_wp2_with fail
 go_loopw [3] (fun nv wr => ∃ k m : Nat, k + m = n ∧ nv = .int .i64 m ∧ Hid (∃ g' cc' ah' dh', SA lo b 0 (scU true t bt k s) g' cc' ah' dh' wr ∧ Upd b 0 (0 + 12) (fun i => i = g ∨ i ∈ bO ah) w wr ∧ (g' = g ∨ w.heap.size ≤ g') ∧ (∀ i ∈ bO ah', i ∈ bO ah ∨ w.heap.size ≤ i) ∧ Win sE 9 1 lo wr ah dh s.hist ∧ OldH ah dh s.hist ah' dh' (scU true t bt k s).hist)) (fun nv _ => (intOf nv).toNat)
 case atStart => exact ⟨0, n, by omega, rfl, zz ⟨g, cc, ah, dh, HS.out, Upd.refl, .inl rfl, fun _ hi => .inl hi, HS.out.win, .inl ⟨rfl, rfl, [], by simp [scU]⟩⟩⟩
 case round =>
  obtain ⟨k, m, hkm, rfl, HR⟩ := hrel
  obtain ⟨g1, cc1, ah1, dh1, ha1, hu1, hg1, hh1, hwo1, hoo1⟩ := HR.out
  obtain ⟨s1, hs1⟩ := eX (scU true t bt k s)
  have HK1 : Hid (scU true t bt (k + 1) s = scU1 true t bt s1) := zz (by rw [← hs1]; rfl)
  have ok1 : sK s1 := by rw [← hs1]; exact HOK.out.okU htb hbt k
  have hbt1 : bt < s1.h := by rw [← hs1, (Zd2 true t bt s k).2.1]; exact hbt
  have HS1 := zz hs1
  rw [hs1] at ha1 hoo1
  have HA1 := zz ha1
  have HWO1 := zz hwo1
  have HOO1 := zz hoo1
  clear hwo1 hoo1
  have HU1 := zz hu1
  have HG1 := zz hg1
  have HH1 := zz hh1
  have HOK1 := zz ok1
  have hz1 := hu1.size
  clear ha1 hu1 hg1 hh1 hs1 HR
  by_cases hm : 0 < m
  ·have hm' : (0 : Int) < (m : Int) := by omega
   obtain ⟨s2, hs2⟩ : ∃ x, ({ s1 with hist := if t = 0 then pushH s1.hist (rowT s1 0) else s1.hist } : Scr) = x := ⟨_, rfl⟩
   have HS2 := zz hs2
   clear hs2
   go_upto_if 19 with fail
   go_cut [] (fun wx => ∃ ah2 dh2, SA lo b 0 s2 g1 cc1 ah2 dh2 wx ∧ Upd b 0 (0 + 12) (fun i => i = g1 ∨ i ∈ bO ah1) wr wx ∧ (∀ i ∈ bO ah2, i ∈ bO ah1 ∨ wr.heap.size ≤ i) ∧ Win sE 9 1 lo wx ah1 dh1 s1.hist ∧ ((ah2 = ah1 ∧ dh2 = dh1 ∧ ∃ tl, s2.hist = s1.hist ++ tl) ∨ ∀ k ∈ bO ah2, wr.heap.size ≤ k))
   case first =>
    by_cases ht0 : t = 0
    ·have ht0' : ((t : Int) == 0) = true := by simp [ht0]
     subst ht0
     go_upto_region 4 with fail
     have k_0 := HA1.out.e0
     have k_1 := HA1.out.e1
     have k_2 := HA1.out.e2
     have k_3 := HA1.out.e3
     have k_4 := HA1.out.e4
     have k_5 := HA1.out.e5
     have k_6 := HA1.out.e6
     have k_7 := HA1.out.e7
     have k_8 := HA1.out.e8
     have k_9 := HA1.out.e9
     have k_10 := HA1.out.e10
     have k_11 := HA1.out.e11
     have k_f := HA1.out.fz
     have k_l := HA1.out.lt
     have hSc1 := And.intro k_0 (And.intro k_1 (And.intro k_2 (And.intro k_3 (And.intro k_4 (And.intro k_5 (And.intro k_6 (And.intro k_7 (And.intro k_8 (And.intro k_9 (And.intro k_10 k_11))))))))))
     refine rO (fun w' => w'.cell? ⟨b, 0, none⟩ = some (.int .i64 s1.w) ∧ w'.cell? ⟨b, 1, none⟩ = some (.int .i64 s1.h) ∧ w'.cell? ⟨b, 2, none⟩ = some (.int .i64 s1.x) ∧ w'.cell? ⟨b, 3, none⟩ = some (.int .i64 s1.y) ∧ w'.cell? ⟨b, 4, none⟩ = some (.int .i64 s1.look) ∧ w'.cell? ⟨b, 5, none⟩ = some (.int .i64 s1.top) ∧ w'.cell? ⟨b, 6, none⟩ = some (.int .i64 s1.bot) ∧ w'.cell? ⟨b, 7, none⟩ = some (.int .i64 s1.sx) ∧ w'.cell? ⟨b, 8, none⟩ = some (.int .i64 s1.sy) ∧ w'.cell? ⟨b, 9, none⟩ = some (.string s1.title) ∧ w'.cell? ⟨b, 10, none⟩ = some (.slice (some ⟨g1, 0, none⟩) s1.cells.length cc1) ∧ w'.cell? ⟨b, 11, none⟩ = some (.slice ah1 s1.hist.length dh1)) [13] [0,1,2,3,4,5,6,7,8,9,10,11,12,13] ?_
     iterate 8 (first | refine oW (h := ?_) | refine oL (hS := hSc1) (h := ?_))
     refine oO (hS := .inr hSc1) (h := ?_)
     intro K' hK
     go_simp
     refine (Yh1 s1 (some ⟨g1, 0, none⟩) cc1 ah1 dh1 _ HA1.out.drew.rd HOK1.out).mono ?_
     rintro e x1 ⟨rfl, hb1⟩
     have HBX1 : Hid (Below wr.heap.size wr x1) := zz (((Below.refl _ _).drew).trans hb1)
     have HAX1 := zz (HA1.out.below HBX1.out)
     have e_0 := HAX1.out.e0
     have e_1 := HAX1.out.e1
     have e_2 := HAX1.out.e2
     have e_3 := HAX1.out.e3
     have e_4 := HAX1.out.e4
     have e_5 := HAX1.out.e5
     have e_6 := HAX1.out.e6
     have e_7 := HAX1.out.e7
     have e_8 := HAX1.out.e8
     have e_9 := HAX1.out.e9
     have e_10 := HAX1.out.e10
     have e_11 := HAX1.out.e11
     have e_f := HAX1.out.fz
     have e_l := HAX1.out.lt
     have hSx1 : x1.cell? ⟨b, 0, none⟩ = some (.int .i64 s1.w) ∧ x1.cell? ⟨b, 1, none⟩ = some (.int .i64 s1.h) ∧ x1.cell? ⟨b, 2, none⟩ = some (.int .i64 s1.x) ∧ x1.cell? ⟨b, 3, none⟩ = some (.int .i64 s1.y) ∧ x1.cell? ⟨b, 4, none⟩ = some (.int .i64 s1.look) ∧ x1.cell? ⟨b, 5, none⟩ = some (.int .i64 s1.top) ∧ x1.cell? ⟨b, 6, none⟩ = some (.int .i64 s1.bot) ∧ x1.cell? ⟨b, 7, none⟩ = some (.int .i64 s1.sx) ∧ x1.cell? ⟨b, 8, none⟩ = some (.int .i64 s1.sy) ∧ x1.cell? ⟨b, 9, none⟩ = some (.string s1.title) ∧ x1.cell? ⟨b, 10, none⟩ = some (.slice (some ⟨g1, 0, none⟩) s1.cells.length cc1) ∧ x1.cell? ⟨b, 11, none⟩ = some (.slice ah1 s1.hist.length dh1) := ⟨e_0, e_1, e_2, e_3, e_4, e_5, e_6, e_7, e_8, e_9, e_10, e_11⟩
     obtain ⟨r, hr⟩ := eX (rowT s1 0)
     have HRR := zz hr
     rw [hr]
     clear hr hb1 e_0 e_1 e_2 e_3 e_4 e_5 e_6 e_7 e_8 e_9 e_10 e_11 e_f e_l
     refine oN hK (hS := .inr hSx1) (h := ?_)
     clear hK K'
     refine oO (hS := .inr hSx1) (h := ?_)
     intro K' hK
     go_simp
     obtain ⟨x2, hx2⟩ := eX (x1.alloc (.cells #[.string r] 9))
     have HB12 : Hid (Below x1.heap.size x1 x2) := zz (by rw [← hx2]; exact bA)
     have HBX2 : Hid (Below wr.heap.size wr x2) := zz (HBX1.out.trans (HB12.out.mono HBX1.out.size))
     have HAX2 := zz (HA1.out.below HBX2.out)
     have HSRC : Hid (Src Tryz.prog 1 24 (.slice (some ⟨x1.heap.size, 0, none⟩) 1 1) [r].length ([r].flatMap sE) x2) := zz (by rw [← hx2]; exact Src.ofBox (enc := sE) Tryz.underlying24 (fun _ => rfl) Zr2 r _ _ (by simp [sE]) _ (by simp))
     have e_0 := HAX2.out.e0
     have e_1 := HAX2.out.e1
     have e_2 := HAX2.out.e2
     have e_3 := HAX2.out.e3
     have e_4 := HAX2.out.e4
     have e_5 := HAX2.out.e5
     have e_6 := HAX2.out.e6
     have e_7 := HAX2.out.e7
     have e_8 := HAX2.out.e8
     have e_9 := HAX2.out.e9
     have e_10 := HAX2.out.e10
     have e_11 := HAX2.out.e11
     have e_f := HAX2.out.fz
     have e_l := HAX2.out.lt
     have hSx2 : x2.cell? ⟨b, 0, none⟩ = some (.int .i64 s1.w) ∧ x2.cell? ⟨b, 1, none⟩ = some (.int .i64 s1.h) ∧ x2.cell? ⟨b, 2, none⟩ = some (.int .i64 s1.x) ∧ x2.cell? ⟨b, 3, none⟩ = some (.int .i64 s1.y) ∧ x2.cell? ⟨b, 4, none⟩ = some (.int .i64 s1.look) ∧ x2.cell? ⟨b, 5, none⟩ = some (.int .i64 s1.top) ∧ x2.cell? ⟨b, 6, none⟩ = some (.int .i64 s1.bot) ∧ x2.cell? ⟨b, 7, none⟩ = some (.int .i64 s1.sx) ∧ x2.cell? ⟨b, 8, none⟩ = some (.int .i64 s1.sy) ∧ x2.cell? ⟨b, 9, none⟩ = some (.string s1.title) ∧ x2.cell? ⟨b, 10, none⟩ = some (.slice (some ⟨g1, 0, none⟩) s1.cells.length cc1) ∧ x2.cell? ⟨b, 11, none⟩ = some (.slice ah1 s1.hist.length dh1) := ⟨e_0, e_1, e_2, e_3, e_4, e_5, e_6, e_7, e_8, e_9, e_10, e_11⟩
     rw [hx2]
     clear hx2 e_0 e_1 e_2 e_3 e_4 e_5 e_6 e_7 e_8 e_9 e_10 e_11 e_f e_l
     refine oN hK (hS := .inr hSx2) (h := ?_)
     clear hK K'
     refine oO (hS := .inr hSx2) (h := ?_)
     intro K' hK
     try simp only [j1,j2,j3]
     rw [if_pos (by rfl)]
     refine Ze5 (.tmp 24) (.tmp 29) 24 24 iS (.string ⟨#[]⟩) 16 Tryz.underlying24 hS hS0 hS1 hS2 rfl (by decide) (fun _ => rfl) s1.hist.length rfl HAX2.out.win (.slice (some ⟨x1.heap.size, 0, none⟩) 1 1) [r] HSRC.out (by have := HOK1.out.hn; simp; omega) (by have := HBX2.out.size; omega) ?_ ?_ ?_ ?_
     ·rfl
     ·rfl
     ·rfl
     intro a4 c4 w4 us hus hf4 hc4 hk4 hwo4 hsm4
     have HSM4 := zz hsm4
     have HUS := hus
     have HF4 := zz hf4
     have HC4 := zz hc4
     have HK4 := zz hk4
     have hx12 := HB12.out.size
     have hbx := HBX2.out.size
     have HB1 : ¬ b ∈ bO ah1 := fun hb => (HA1.out.hb b hb).1 rfl
     have HA4 : Hid (SA lo b 0 { s1 with hist := us } g1 cc1 a4 c4 (w4.setCell ⟨b, 11, none⟩ (.slice a4 us.length c4))) := zz (by
      have hh := HA1.out
      have hgl := hh.glt
      have hn4 : ∀ k ∈ bO a4, k ≠ b ∧ k ≠ g1 := fun k hk => by
       rcases hk4 k hk with h | h
       ·exact hh.hb k h
       ·have := hh.lt; have := hh.glt.2; omega
      have h4 : SA lo b 0 { s1 with hist := us } g1 cc1 a4 c4 (w4.setCell ⟨b, 0 + 11, none⟩ (.slice a4 us.length c4)) := SA.hist' HAX2.out hc4 (fun h => HB1 h) (fun h => (hh.hb g1 h).2 rfl) hf4 hn4
      exact h4)
     have HU4 : Hid (Upd b 0 (0 + 12) (fun i => i = g1 ∨ i ∈ bO ah1) wr (w4.setCell ⟨b, 11, none⟩ (.slice a4 us.length c4)) ∧ (∀ i ∈ bO a4, i ∈ bO ah1 ∨ wr.heap.size ≤ i) ∧ Win sE 9 1 lo (w4.setCell ⟨b, 11, none⟩ (.slice a4 us.length c4)) ah1 dh1 s1.hist) := zz (by
      have hh := HA1.out
      refine ⟨((Upd.refl.below HBX2.out hh.lt).transN (Upd.ofCh (S := fun i => i = g1 ∨ i ∈ bO ah1) hc4 (by have := hh.lt; omega) HB1 (fun i hi => .inl (.inr hi))) (fun i hi => .inl hi)).set1'' (by omega) (by omega) _, fun i hi => ?_, hwo4.ch (Ch.set1' w4 b 11 _) (fun k hk e => (hh.hb k hk).1 e)⟩
      ·rcases hk4 i hi with h | h
       ·exact .inl h
       ·exact .inr (by omega))
     clear hus hf4 hc4 hk4 hwo4 hsm4
     have hSx4 : w4.cell? ⟨b, 0, none⟩ = some (.int .i64 s1.w) ∧ w4.cell? ⟨b, 1, none⟩ = some (.int .i64 s1.h) ∧ w4.cell? ⟨b, 2, none⟩ = some (.int .i64 s1.x) ∧ w4.cell? ⟨b, 3, none⟩ = some (.int .i64 s1.y) ∧ w4.cell? ⟨b, 4, none⟩ = some (.int .i64 s1.look) ∧ w4.cell? ⟨b, 5, none⟩ = some (.int .i64 s1.top) ∧ w4.cell? ⟨b, 6, none⟩ = some (.int .i64 s1.bot) ∧ w4.cell? ⟨b, 7, none⟩ = some (.int .i64 s1.sx) ∧ w4.cell? ⟨b, 8, none⟩ = some (.int .i64 s1.sy) ∧ w4.cell? ⟨b, 9, none⟩ = some (.string s1.title) ∧ w4.cell? ⟨b, 10, none⟩ = some (.slice (some ⟨g1, 0, none⟩) s1.cells.length cc1) ∧ w4.cell? ⟨b, 11, none⟩ = some (.slice ah1 s1.hist.length dh1) := ⟨(HC4.out.cell (p := ⟨b, 0, none⟩) HAX2.out.lt HB1).trans hSx2.1, (HC4.out.cell (p := ⟨b, 1, none⟩) HAX2.out.lt HB1).trans hSx2.2.1, (HC4.out.cell (p := ⟨b, 2, none⟩) HAX2.out.lt HB1).trans hSx2.2.2.1, (HC4.out.cell (p := ⟨b, 3, none⟩) HAX2.out.lt HB1).trans hSx2.2.2.2.1, (HC4.out.cell (p := ⟨b, 4, none⟩) HAX2.out.lt HB1).trans hSx2.2.2.2.2.1, (HC4.out.cell (p := ⟨b, 5, none⟩) HAX2.out.lt HB1).trans hSx2.2.2.2.2.2.1, (HC4.out.cell (p := ⟨b, 6, none⟩) HAX2.out.lt HB1).trans hSx2.2.2.2.2.2.2.1, (HC4.out.cell (p := ⟨b, 7, none⟩) HAX2.out.lt HB1).trans hSx2.2.2.2.2.2.2.2.1, (HC4.out.cell (p := ⟨b, 8, none⟩) HAX2.out.lt HB1).trans hSx2.2.2.2.2.2.2.2.2.1, (HC4.out.cell (p := ⟨b, 9, none⟩) HAX2.out.lt HB1).trans hSx2.2.2.2.2.2.2.2.2.2.1, (HC4.out.cell (p := ⟨b, 10, none⟩) HAX2.out.lt HB1).trans hSx2.2.2.2.2.2.2.2.2.2.2.1, (HC4.out.cell (p := ⟨b, 11, none⟩) HAX2.out.lt HB1).trans hSx2.2.2.2.2.2.2.2.2.2.2.2⟩
     have v_f : ∀ o, w4.frozen? ⟨b, o, none⟩ = false := fun o => (HC4.out.frozen (p := ⟨b, o, none⟩) HAX2.out.lt HB1).trans (HAX2.out.fz o)
     have v_11 := hSx4.2.2.2.2.2.2.2.2.2.2.2
     have v_l : b < w4.heap.size := Nat.lt_of_lt_of_le HAX2.out.lt HC4.out.size
     refine oN hK (hS := .inr hSx4) (h := ?_)
     clear hK K'
     iterate 2 refine oW (h := ?_)
     refine oO (hS := .inl rfl) (h := ?_)
     intro K' hK
     go_simp
     refine oN hK (hS := .inl rfl) (h := ?_)
     clear hK K'
     refine oD ?_
     obtain ⟨w5, hw5⟩ := eX (w4.setCell ⟨b, 11, none⟩ (.slice a4 us.length c4))
     rw [hw5] at HA4 HU4 ⊢
     obtain ⟨ln, hln⟩ := eX (us.length)
     have k5_11 : w5.cell? ⟨b, 11, none⟩ = some (.slice a4 ln c4) := by rw [← hln]; exact HA4.out.c11
     have HLN := zz hln
     have hln7 : ln ≤ 7 := by have := HOK1.out.hn; rw [← hln, HUS.out]; simp; omega
     rw [hln]
     have k5_f := HA4.out.fz
     have k5_l := HA4.out.lt
     have HH : Hid (us = s1.hist ++ [rowT s1 0]) := zz (by rw [HRR.out]; exact HUS.out)
     clear hw5 hln v_f v_11 v_l hSx4 hSx2 hSx1 k_0 k_1 k_2 k_3 k_4 k_5 k_6 k_7 k_8 k_9 k_10 k_11 k_f k_l hSc1
     by_cases h6 : 6 < ln
     ·have h6' : (6 : Int) < (ln : Int) := by omega
      obtain ⟨x, tl, hxt⟩ : ∃ x tl, us = x :: tl := by
       cases us with
       | nil => have := HLN.out; simp at this; omega
       | cons x tl => exact ⟨x, tl, rfl⟩
      have HXT := zz hxt
      have hw : Win sE 9 1 lo w5 a4 c4 us := HA4.out.win
      rw [hxt] at hw
      obtain ⟨g4, o4, ha4, hg4, _⟩ := hw.cells (by simp)
      subst ha4
      have HTL := zz (Win.tail (enc := sE) (sz := 1) (fun _ => rfl) hw)
      have hcap := hw.cap
      have hl4 : ln ≤ c4 := by have h1 := hcap.1; have h2 := HLN.out; rw [hxt] at h2; omega
      have hc41 : ¬ c4 = 1 := by omega
      have hl41 : (1 : Int) ≤ (ln : Int) := by omega
      have HS2' : Hid (s2.hist = tl ∧ { s1 with hist := tl } = s2) := zz (by
       have h3 : 6 < (s1.hist ++ [rowT s1 0]).length := by rw [← HH.out, HLN.out]; exact h6
       have h4 : pushH s1.hist (rowT s1 0) = tl := Zr9 h3 (by rw [← HH.out]; exact hxt)
       rw [← HS2.out]
       simp [h4])
      clear hw hxt
      go_upto_region 6 with fail
      obtain ⟨w6, hw6⟩ := eX (w5.alloc (.cells #[] 9))
      have HB6 : Hid (Below w5.heap.size w5 w6) := zz (by rw [← hw6]; exact bA)
      have hz6 : w5.heap.size < w6.heap.size := by rw [← hw6]; simp
      have hz5 := HU4.out.1.size
      have HF6 : Hid (Fr sE 9 1 lo w6.heap.size (.slice (some ⟨w5.heap.size, 0, none⟩) 0 0) [] w6) := zz (by rw [← hw6]; exact Fr.emp sE _ 1 lo w5 (by omega))
      have HSR6 : Hid (Src Tryz.prog 1 24 (.slice (some ⟨g4, o4 + 1, none⟩) (ln - 1) (c4 - 1)) tl.length (tl.flatMap sE) w6) := zz (by
       have e : ln - 1 = tl.length := by have h2 := HLN.out; rw [HXT.out] at h2; simp at h2; omega
       rw [e]
       exact Src.ofSl (enc := sE) (sz := 1) Tryz.underlying24 (fun _ => rfl) Zr2 ((Win.sl (enc := sE) (sz := 1) (fun _ => rfl) HTL.out).keep HB6.out) _)
      have HTLN : Hid (tl.length ≤ 6) := zz (by have h2 := HLN.out; rw [HXT.out] at h2; simp at h2; omega)
      have HA6 := zz (HA4.out.below HB6.out)
      have k6_11 := kC HB6.out k5_l k5_11
      clear k5_11
      go_wp2_with (at_builtin; refine wA (.tmp 40) (.tmp 45) 24 24 lo 9 iS (.string ⟨#[]⟩) 1 16 Tryz.underlying24 hS hS0 hS1 hS2 rfl (by decide) (some ⟨w5.heap.size, 0, none⟩) 0 0 [] HF6.out (.slice (some ⟨g4, o4 + 1, none⟩) (ln - 1) (c4 - 1)) tl HSR6.out (by have := HTLN.out; simp; omega) (by omega) rfl rfl rfl rfl ?_)
      intro a8 c8 w8 us2 hus2 hf8 hc8 hk8
      obtain rfl : us2 = tl := by simpa using hus2.out
      have HF8 := zz hf8
      have HK8 := zz hk8
      have HC8 := zz hc8
      have hz8 := hc8.size
      have hgb6 := HA6.out.glt.2
      have hne5 : ∀ k, k < w5.heap.size → ¬ k ∈ bO (some ⟨w5.heap.size, 0, none⟩) := fun k hk h => by simp [bO] at h; omega
      have k8_11 : w8.cell? ⟨b, 11, none⟩ = some (.slice (some ⟨g4, o4, none⟩) ln c4) := (HC8.out.cell (p := ⟨b, 11, none⟩) HA6.out.lt (hne5 b k5_l)).trans k6_11
      have k8_f : ∀ o, w8.frozen? ⟨b, o, none⟩ = false := fun o => (HC8.out.frozen (p := ⟨b, o, none⟩) HA6.out.lt (hne5 b k5_l)).trans (HA6.out.fz o)
      have k8_l : b < w8.heap.size := Nat.lt_of_lt_of_le HA6.out.lt HC8.out.size
      clear hus2 hf8 hc8 hk8 k6_11
      go_wp2_with fail
      go_meet
      have hh := HA6.out
      have hg1 := HA4.out.glt.2
      have hb8 : ∀ k ∈ bO a8, w5.heap.size ≤ k := fun k hk => by
       rcases HK8.out k hk with h | h
       ·simp [bO] at h; omega
       ·omega
      have h8 : SA lo b 0 { s1 with hist := us2 } g1 cc1 a8 c8 (w8.setCell ⟨b, 0 + 11, none⟩ (.slice a8 us2.length c8)) := SA.hist2 (s := { s1 with hist := us }) (s' := s1) HA6.out HC8.out (hne5 b k5_l) (hne5 g1 hg1) (Fr.win HF8.out) (fun k hk => by have := hb8 k hk; omega)
      rw [HS2'.out.2] at h8
      refine ⟨a8, c8, h8, ?_, fun k hk => .inr (by have := hb8 k hk; omega), ?_, .inr (fun k hk => by have := hb8 k hk; omega)⟩
      rotate_left
      ·exact ((HU4.out.2.2.below HB6.out).ch HC8.out (fun k hk => hne5 k (by have := (HU4.out.2.2.blk k hk).2; exact this))).ch (Ch.set1' w8 b 11 _) (fun k hk e => (HA1.out.hb k hk).1 e)
      refine ((HU4.out.1.below HB6.out k5_l).transN (N := (· ∈ bO (some ⟨w5.heap.size, 0, none⟩))) (Upd.ofCh (S := (· ∈ bO (some ⟨w5.heap.size, 0, none⟩))) HC8.out (by omega) (hne5 b k5_l) (fun i hi => .inl hi)) (fun i hi => .inr (by simp [bO] at hi; omega))).set1'' (by omega) (by omega) _
     ·have h6' : ¬ (6 : Int) < (ln : Int) := by omega
      have HS2' : Hid (({ s1 with hist := us } : Scr) = s2) := zz (by
       have h3 : ¬ 6 < (s1.hist ++ [rowT s1 0]).length := by rw [← HH.out, HLN.out]; exact h6
       rw [← HS2.out, HH.out, Zr0 h3]
       simp)
      go_wp2_with fail
      go_meet
      rw [HS2'.out] at HA4
      refine ⟨a4, c4, HA4.out, HU4.out.1, HU4.out.2.1, HU4.out.2.2, ?_⟩
      rcases HSM4.out with ⟨h1, h2⟩ | h1
      ·exact .inl ⟨h1, h2, [rowT s1 0], by rw [← HS2'.out]; exact HH.out⟩
      ·exact .inr (fun k hk => by rw [h1 k hk]; exact HBX2.out.size)
    ·have ht0' : ((t : Int) == 0) = false := by simp [ht0]
     go_wp2_with fail
     go_meet
     have hs2' : s2 = s1 := by rw [← HS2.out, if_neg ht0]
     exact ⟨ah1, dh1, by rw [hs2']; exact HA1.out, Upd.refl, fun _ hi => .inl hi, HA1.out.win, .inl ⟨rfl, rfl, [], by rw [hs2']; simp⟩⟩
   case rest =>
    obtain ⟨ah2, dh2, ha2, hu2, hh2, hwo2, hoo2⟩ := hcut
    obtain ⟨w9, hw9⟩ : ∃ x, x = wc := ⟨_, rfl⟩
    subst hw9
    have HA2 := zz ha2
    have HU2 := zz hu2
    have HH2 := zz hh2
    have hbA : ∀ k ∈ bO ah, k < w.heap.size := fun k hk => (HS.out.win.blk k hk).2
    have HWO2 : Hid (Win sE 9 1 lo w9 ah dh s.hist ∧ OldH ah dh s.hist ah2 dh2 s2.hist) := zz (by
     refine ⟨?_, ?_⟩
     ·rcases HOO1.out with ⟨h1, h2, tl, h3⟩ | h1
      ·subst h1 h2
       rw [h3] at hwo2
       exact Win.pre (enc := sE) (sz := 1) (fun _ => rfl) hwo2
      ·refine HWO1.out.ch hu2.ch (fun k hk => ?_)
       rintro (h | h | h)
       ·exact (HS.out.hb k hk).1 h
       ·rcases HG1.out with h4 | h4
        ·exact (HS.out.hb k hk).2 (h.trans h4)
        ·have := hbA k hk; omega
       ·exact h1 k h hk
     ·rcases hoo2 with ⟨h1, h2, tl, h3⟩ | h1
      ·rcases HOO1.out with ⟨h4, h5, tl2, h6⟩ | h4
       ·exact .inl ⟨h1.trans h4, h2.trans h5, tl2 ++ tl, by rw [h3, h6, List.append_assoc]⟩
       ·exact .inr (fun k hk => h4 k (by rw [← h1]; exact hk))
      ·exact .inr (fun k hk hk2 => by have := h1 k hk; have := hbA k hk2; omega))
    have hg1A : ∀ k ∈ bO ah, ¬ k = g1 := fun k hk e => by
     rcases HG1.out with h4 | h4
     ·exact (HS.out.hb k hk).2 (e.trans h4)
     ·have := hbA k hk; omega
    have HG1A := zz hg1A
    clear hwo2 hoo2 hg1A hbA
    have hz2 := hu2.size
    obtain ⟨wd, hwd⟩ := eX (s2.w)
    obtain ⟨n2, hn2⟩ := eX (s2.cells.length)
    have hsw : s1.w = wd := by rw [← hwd, ← HS2.out]
    have hsc : s2.cells = s1.cells := by rw [← HS2.out]
    have hn240 : n2 ≤ 240 := by rw [← hn2, hsc, HOK1.out.cn]; exact Nat.mul_le_mul HOK1.out.w2 HOK1.out.h2
    have hbw : (bt + 1) * wd ≤ n2 := by rw [← hn2, hsc, HOK1.out.cn, hsw, Nat.mul_comm]; exact Nat.mul_le_mul_left _ hbt1
    have htbw : t * wd ≤ bt * wd := Za2 htb
    obtain ⟨p, hp⟩ := eX (t * wd)
    obtain ⟨q, hq⟩ := eX (bt * wd)
    obtain ⟨r, hr⟩ : ∃ r, (bt + 1) * wd = r := ⟨_, rfl⟩
    have hrq : r = q + wd := by rw [← hr, ← hq]; exact Nat.succ_mul _ _
    have hpi : (t : Int) * (wd : Int) = (p : Int) := by rw [← hp]; exact (Int.natCast_mul _ _).symm
    have hqi : (bt : Int) * (wd : Int) = (q : Int) := by rw [← hq]; exact (Int.natCast_mul _ _).symm
    have hri : ((bt : Int) + 1) * (wd : Int) = (r : Int) := by rw [← hr]; exact (Int.natCast_mul (bt + 1) wd).symm
    rw [hr] at hbw
    rw [hp, hq] at htbw
    have HUP : Hid (({ s2 with cells := clrL q r (shU p q wd s2.cells) } : Scr) = scU1 true t bt s1) := zz (by
     subst hp hq hr
     rw [up1_sh htb (by rw [hn2]; exact hbw)]
     unfold scU1
     rw [← HS2.out]
     simp [hsw])
    have HWD := zz hwd
    have HN2 := zz hn2
    have hwd24 : wd ≤ 24 := by rw [← hsw]; exact HOK1.out.w2
    have hwd2 : 2 ≤ wd := by rw [← hsw]; exact HOK1.out.w1
    clear ha2 hu2 hh2 hwd hn2 hsw hsc hp hq hr
    have z_0 : w9.cell? ⟨b, 0, none⟩ = some (.int .i64 wd) := by rw [← HWD.out]; exact HA2.out.c0
    go_wp2_with fail
    go_loopw [9] (fun iv wi => ∃ i : Nat, p ≤ i ∧ i ≤ q ∧ iv = .int .i64 i ∧ Hid (SA lo b 0 { s2 with cells := shU p i wd s2.cells } g1 cc1 ah2 dh2 wi ∧ Ch (· = g1) w9 wi)) (fun iv _ => q - (intOf iv).toNat)
    case atStart => exact ⟨p, Nat.le_refl _, htbw, rfl, zz ⟨by rw [shU_none]; exact HA2.out, Ch.refl⟩⟩
    case round =>
     obtain ⟨i, hpi2, hiq, rfl, HI⟩ := hrel
     have hwn : i + wd ≤ s2.cells.length := by rw [HN2.out]; omega
     have hlen : (shU p i wd s2.cells).length = n2 := (Zw9 hpi2 hwn).trans HN2.out
     have i_0 : wr.cell? ⟨b, 0, none⟩ = some (.int .i64 wd) := by rw [← HWD.out]; exact HI.out.1.c0
     have i_10 : wr.cell? ⟨b, 10, none⟩ = some (.slice (some ⟨g1, 0, none⟩) n2 cc1) := by rw [← hlen]; exact HI.out.1.c10
     have HLEN := zz hlen
     clear hlen hwn
     by_cases hlt : i < q
     ·have hlt' : (i : Int) < (q : Int) := by omega
      obtain ⟨j, hj⟩ := eX (i + wd)
      have hji : (i : Int) + (wd : Int) = (j : Int) := by omega
      have hjn : j < n2 := by omega
      have hjn' : (j : Int) < (n2 : Int) := by omega
      have hin' : (i : Int) < (n2 : Int) := by omega
      have hwj : IntKind.i64.wrap (j : Int) = (j : Int) := iIq _
      have hj0 : (0 : Int) ≤ (j : Int) := by omega
      have hi0 : (0 : Int) ≤ (i : Int) := by omega
      have hj2 : i + wd < s2.cells.length := by rw [HN2.out, hj]; exact hjn
      obtain ⟨c, hc⟩ := eX (s2.cells[i + wd])
      have hj3 : i + wd < (shU p i wd s2.cells).length := by rw [HLEN.out, hj]; exact hjn
      have hcj := HI.out.1.cell (i := i + wd) hj3
      have hci := HI.out.1.cell (i := i) (show i < (shU p i wd s2.cells).length by rw [HLEN.out]; omega)
      have hat : ({ s2 with cells := shU p i wd s2.cells } : Scr).cells[i + wd]'hj3 = c := (shU_at hpi2 hj2 hj3).trans hc
      rw [hat, hj] at hcj
      obtain ⟨c_1, c_2⟩ := hcj
      obtain ⟨e_1, e_2⟩ := hci
      have HNX : Hid ((shU p i wd s2.cells).set i c = shU p (i + 1) wd s2.cells) := zz (by rw [← hc]; exact shU_next hpi2 hj2)
      have g_f := HI.out.1.gfz
      have g_l := HI.out.1.glt.2
      have HD : Hid (SA lo b 0 { s2 with cells := shU p (i + 1) wd s2.cells } g1 cc1 ah2 dh2 ((wr.drew.setCell ⟨g1, i * 2, none⟩ (.int .i64 c.1)).setCell ⟨g1, i * 2 + 1, none⟩ (.int .i64 c.2)) ∧ Ch (· = g1) w9 ((wr.drew.setCell ⟨g1, i * 2, none⟩ (.int .i64 c.1)).setCell ⟨g1, i * 2 + 1, none⟩ (.int .i64 c.2))) := zz (by
       have h1 := HI.out.1.drew.setC (i := i) (show i < (shU p i wd s2.cells).length by rw [HLEN.out]; omega) c
       refine ⟨?_, ((HI.out.2.drew).trans (Ch.set1' _ g1 (i * 2) _) (fun _ h => .inl h)).trans (Ch.set1' _ g1 (i * 2 + 1) _) (fun _ h => .inl h)⟩
       have h2 := HNX.out
       simp only at h1
       rwa [h2] at h1)
      clear hat hc hj3 hj2
      go_upto_region 10 with fail
      have hSc6 := And.intro i_0 (And.intro i_10 (And.intro c_1 c_2))
      refine rO (fun w' => w'.cell? ⟨b, 0, none⟩ = some (.int .i64 wd) ∧ w'.cell? ⟨b, 10, none⟩ = some (.slice (some ⟨g1, 0, none⟩) n2 cc1) ∧ w'.cell? ⟨g1, j * 2, none⟩ = some (.int .i64 c.1) ∧ w'.cell? ⟨g1, j * 2 + 1, none⟩ = some (.int .i64 c.2)) [18] [0,1,2,3,4,5,6,7,8,9,10,11,12,13,14,15,16,17,18] ?_
      iterate 18 (first | refine oW (h := ?_) | refine oL (hS := hSc6) (h := ?_))
      refine oO (hS := .inl rfl) (h := ?_)
      intro K' hK
      go_simp
      refine oN hK (hS := .inl rfl) (h := ?_)
      clear hK K'
      refine oD ?_
      go_wp2_with fail
      go_roundw
      case rel => exact ⟨i + 1, by omega, by omega, by go_num, HD⟩
      case measure => simp [intOf]; omega
     ·obtain rfl : i = q := by omega
      have HRQ := zz hrq
      have hri2 : i ≤ r := by omega
      clear hrq
      have hwr : IntKind.i64.wrap (r : Int) = (r : Int) := iIq _
      have hwi : IntKind.i64.wrap (i : Int) = (i : Int) := iIq _
      have hbt24 : bt ≤ 10 := by have := HOK1.out.h2; omega
      have hwb : IntKind.i64.wrap ((bt : Int) + 1) = (bt : Int) + 1 := iIq _
      go_upto_region 11 with fail
      have hSc7 := i_0
      refine rO (fun w' => w'.cell? ⟨b, 0, none⟩ = some (.int .i64 wd)) [] [0,1,2,3,4,5,6,7,8,9,10,11,12,13,14] ?_
      iterate 14 (first | refine oW (h := ?_) | refine oL (hS := hSc7) (h := ?_))
      refine oO (hS := .inr hSc7) (h := ?_)
      intro K' hK
      go_simp
      go_at_call 118
      refine (Zf6 lo b { s2 with cells := shU p i wd s2.cells } g1 cc1 ah2 dh2 _ i r HI.out.1.drew hri2 (by show r ≤ (shU p i wd s2.cells).length; rw [HLEN.out]; omega) (by show (shU p i wd s2.cells).length ≤ 240; rw [HLEN.out]; exact hn240)).mono ?_
      rintro e x1 ⟨rfl, hax, hcx⟩
      have HAX := zz hax
      have HCX : Hid (Ch (· = g1) w9 x1) := zz (HI.out.2.drew.trans hcx (fun _ h => .inl h))
      have hSc8 : x1.cell? ⟨b, 0, none⟩ = some (.int .i64 wd) := by rw [← HWD.out]; exact HAX.out.c0
      clear hax hcx
      refine oN hK (hS := .inr hSc8) (h := ?_)
      clear hK K'
      refine oD ?_
      go_wp2_with fail
      go_roundw
      case rel =>
       refine ⟨k + 1, m - 1, by omega, by go_num, zz ⟨g1, cc1, ah2, dh2, ?_, ?_, HG1.out, fun i hi => ?_, HWO2.out.1.ch HCX.out (fun k hk e => HG1A.out k hk e), ?_⟩⟩
       ·rw [HK1.out, ← HUP.out]
        exact HAX.out
       ·refine HU1.out.transN (N := fun i => i = g1 ∨ i ∈ bO ah1) (HU2.out.transN (Upd.ofCh (S := fun i => i = g1 ∨ i ∈ bO ah1) HCX.out (by have := HA2.out.lt; omega) (fun e => HA2.out.gb e.symm) (fun i hi => .inl (.inl hi))) (fun i hi => .inl hi)) (fun i hi => ?_)
        rcases hi with hi | hi
        ·subst hi
         rcases HG1.out with h | h
         ·exact .inl (.inl h)
         ·exact .inr h
        ·rcases HH1.out i hi with h | h
         ·exact .inl (.inr h)
         ·exact .inr h
       ·rcases HH2.out i hi with h | h
        ·exact HH1.out i h
        ·exact .inr (by omega)
       ·rw [HK1.out, ← HUP.out]
        exact HWO2.out.2
      case measure => simp [intOf]; omega
  ·obtain rfl : m = 0 := by omega
   go_wp2_with fail
   go_loopw [3] (fun nv wx => nv = .int .i64 (0 : Nat) ∧ wx = wr) (fun _ _ => 0)
   case atStart => exact ⟨rfl, rfl⟩
   case round =>
    obtain ⟨rfl, rfl⟩ := hrel
    go_wp2_with fail
    refine bodyPost_end (v := .tuple #[]) (by simp [results, Tryz.results120]) rfl ?_
    obtain rfl : k = n := by omega
    rw [HS1.out]
    exact ⟨rfl, ⟨g1, cc1, ah1, dh1, HA1.out, HU1.out, HG1.out, HH1.out⟩, HWO1.out⟩
end
section
theorem spl_up {w A B : Nat} {l : List Cl} (hab : A ≤ B) (hb : B + w ≤ l.length) :
 splice (splice l A ((l.drop (A + w)).take (B - A))) B (bL w) = l.take A ++ ((l.drop (A + w)).take (B - A) ++ (bL w ++ l.drop (B + w))) := by
 obtain ⟨M, hM⟩ : ∃ M, (l.drop (A + w)).take (B - A) = M := ⟨_, rfl⟩
 have h1 : M.length = B - A := by rw [← hM]; simp only [List.length_take, List.length_drop]; omega
 have h2 : (l.take A).length = A := by simp only [List.length_take]; omega
 have h3 : (bL w).length = w := by simp [bL]
 have h4 : (l.take A ++ M).length = B := by rw [List.length_append, h1, h2]; omega
 rw [hM]
 unfold splice
 rw [h1, h3, show A + (B - A) = B by omega, ← List.append_assoc (l.take A) M, List.take_left' h4, List.drop_append, List.drop_eq_nil_of_le (by omega), List.nil_append, List.drop_drop, h4, List.append_assoc]
 congr 4
 omega
theorem spl_dn {w A B : Nat} {l : List Cl} (hab : A ≤ B) (hb : B + w ≤ l.length) :
 splice (splice l (A + w) ((l.drop A).take (B - A))) A (bL w) = l.take A ++ (bL w ++ ((l.drop A).take (B - A) ++ l.drop (B + w))) := by
 have h1 : ((l.drop A).take (B - A)).length = B - A := by simp only [List.length_take, List.length_drop]; omega
 have h2 : (l.take (A + w)).length = A + w := by simp only [List.length_take]; omega
 have h3 : (bL w).length = w := by simp [bL]
 unfold splice
 rw [h1, h3, show A + w + (B - A) = B + w by omega, List.take_append_of_le_length (by omega), List.take_take, Nat.min_eq_left (by omega), List.drop_append, List.drop_eq_nil_of_le (by omega), List.nil_append, h2, Nat.sub_self, List.drop_zero]
theorem SA.recell {lo b o : Nat} {s : Scr} {g cc : Nat} {ah : Option Addr} {dh : Nat} {w w' : World} {cs : List Cl} {n : Nat} (h : SA lo b o s g cc ah dh w) (hc : Ch (· = g) w w') (hn : s.cells.length = n) (hf : Fr Za0 87 2 lo w'.heap.size (.slice (some ⟨g, 0, none⟩) n cc) cs w') (hl : cs.length = n) : SA lo b o { s with cells := cs } g cc ah dh w' := by
 subst hn
 have hb : ¬ b = g := fun e => h.gb e.symm
 refine ⟨(hc.cell (p := ⟨b, o, none⟩) h.lt hb).trans h.c0, (hc.cell (p := ⟨b, o + 1, none⟩) h.lt hb).trans h.c1, (hc.cell (p := ⟨b, o + 2, none⟩) h.lt hb).trans h.c2, (hc.cell (p := ⟨b, o + 3, none⟩) h.lt hb).trans h.c3, (hc.cell (p := ⟨b, o + 4, none⟩) h.lt hb).trans h.c4, (hc.cell (p := ⟨b, o + 5, none⟩) h.lt hb).trans h.c5, (hc.cell (p := ⟨b, o + 6, none⟩) h.lt hb).trans h.c6, (hc.cell (p := ⟨b, o + 7, none⟩) h.lt hb).trans h.c7, (hc.cell (p := ⟨b, o + 8, none⟩) h.lt hb).trans h.c8, (hc.cell (p := ⟨b, o + 9, none⟩) h.lt hb).trans h.c9, ?_, (hc.cell (p := ⟨b, o + 11, none⟩) h.lt hb).trans h.c11, fun k => (hc.frozen (p := ⟨b, k, none⟩) h.lt hb).trans (h.fz k), Nat.lt_of_lt_of_le h.lt hc.size, ?_, h.win.ch hc (fun k hk e => (h.hb k hk).2 e), h.gb, h.hb⟩
 ·show w'.cell? ⟨b, o + 10, none⟩ = some (.slice (some ⟨g, 0, none⟩) cs.length cc)
  rw [hl]
  exact (hc.cell (p := ⟨b, o + 10, none⟩) h.lt hb).trans h.c10
 ·show Fr Za0 _ 2 lo _ (.slice (some ⟨g, 0, none⟩) cs.length cc) cs w'
  rw [hl]
  exact hf
theorem SA.capC {lo b o : Nat} {s : Scr} {g cc : Nat} {ah : Option Addr} {dh : Nat} {w : World} (h : SA lo b o s g cc ah dh w) : s.cells.length ≤ cc := hcapE h.row rfl
theorem Zi5 (lo b o : Nat) (s : Scr) (g cc : Nat) (ah : Option Addr) (dh : Nat) (w : World) (t bt n : Nat) (kp : Bool) (h : SA lo b o s g cc ah dh w) (ok : sK s) (htb : t ≤ bt) (hbt : bt < s.h) (hlo : lo ≤ w.heap.size) :
 Calls Tryz.prog 109 #[.pointer (some ⟨b, o, none⟩), .int .i64 t, .int .i64 bt, .int .i64 n, .bool kp] w fun e w' => e = .returned (.tuple #[]) ∧ sR lo b o (scU kp t bt (min n (bt - t + 1)) s) g ah w w' := by
 obtain ⟨iS, hS, hS0, hS1, hS2⟩ := info_parts Tryz.infoStr
 have hS := hS
 have HS := zz h
 have HOK := zz ok
 have hh2 := ok.h2
 obtain ⟨N, hN⟩ := eX (min n (bt - t + 1))
 have hmn : min (n : Int) ((bt : Int) - (t : Int) + 1) = (N : Int) := by omega
 have hw0 : IntKind.i64.wrap ((bt : Int) - (t : Int)) = (bt : Int) - (t : Int) := iIq _
 have hw1 : IntKind.i64.wrap ((bt : Int) - (t : Int) + 1) = (bt : Int) - (t : Int) + 1 := iIq _
 rw [hN]
 have hN10 : N ≤ 10 := by omega
 clear h ok hN
 go_enter Tryz.func109, Tryz.ntmps109
 go_wp2_with fail
 go_loopw [16] (fun iv wr => ∃ k : Nat, k ≤ N ∧ iv = .int .i64 k ∧ Hid (∃ ah' dh', SA lo b o (scU kp t bt k s) g cc ah' dh' wr ∧ Upd b o (o + 12) (fun i => i = g ∨ i ∈ bO ah) w wr ∧ ∀ i ∈ bO ah', i ∈ bO ah ∨ w.heap.size ≤ i)) (fun iv _ => N - (intOf iv).toNat)
 case atStart => exact ⟨0, Nat.zero_le _, rfl, zz ⟨ah, dh, HS.out, Upd.refl, fun _ hi => .inl hi⟩⟩
 case round =>
  obtain ⟨k, hk, rfl, HR⟩ := hrel
  obtain ⟨ah1, dh1, ha1, hu1, hh1⟩ := HR.out
  obtain ⟨s1, hs1⟩ := eX (scU kp t bt k s)
  obtain ⟨s9, hs9⟩ := eX (scU kp t bt (k + 1) s)
  have HK1 : Hid (scU1 kp t bt s1 = s9) := zz (by rw [← hs1, ← hs9]; rfl)
  have HS9 := zz hs9
  clear hs9
  have ok1 : sK s1 := by rw [← hs1]; exact HOK.out.okU htb hbt k
  have hbt1 : bt < s1.h := by rw [← hs1, (Zd2 kp t bt s k).2.1]; exact hbt
  have HS1 := zz hs1
  rw [hs1] at ha1
  have HA1 := zz ha1
  have HU1 := zz hu1
  have HH1 := zz hh1
  have HOK1 := zz ok1
  have hz1 := hu1.size
  clear ha1 hu1 hh1 hs1 HR
  by_cases hlt : k < N
  ·have hlt' : (k : Int) < (N : Int) := by omega
   obtain ⟨s2, hs2⟩ : ∃ x, ({ s1 with hist := if t = 0 ∧ kp = true then pushH s1.hist (rowT s1 0) else s1.hist } : Scr) = x := ⟨_, rfl⟩
   have HS2 := zz hs2
   clear hs2
   have hkey : (((t : Int) == 0) = true ∧ kp = true ∧ Hid (t = 0)) ∨ (((t : Int) == 0) = true ∧ kp = false) ∨ (((t : Int) == 0) = false ∧ Hid (¬ t = 0)) := by
    by_cases ht : t = 0
    ·cases kp
     ·exact .inr (.inl ⟨by simp [ht], rfl⟩)
     ·exact .inl ⟨by simp [ht], rfl, ht⟩
    ·exact .inr (.inr ⟨by simp [ht], ht⟩)
   rcases hkey with ⟨ht0', rfl, HT0⟩ | ⟨ht0', rfl⟩ | ⟨ht0', HT0⟩
   all_goals
    go_upto_if 22 with fail
    go_cut [] (fun wx => ∃ ah2 dh2, SA lo b o s2 g cc ah2 dh2 wx ∧ Upd b o (o + 12) (fun i => i = g ∨ i ∈ bO ah1) wr wx ∧ ∀ i ∈ bO ah2, i ∈ bO ah1 ∨ wr.heap.size ≤ i)
    case first =>
     first
      | (have ht := HT0.out
         have hs2' : s2 = s1 := by rw [← HS2.out, if_neg (fun e => ht e.1)]
         go_wp2_with fail
         go_meet
         exact ⟨ah1, dh1, by rw [hs2']; exact HA1.out, Upd.refl, fun _ hi => .inl hi⟩)
      | (have hs2' : s2 = s1 := by rw [← HS2.out, if_neg (fun e => absurd e.2 (by decide))]
         go_wp2_with fail
         go_meet
         exact ⟨ah1, dh1, by rw [hs2']; exact HA1.out, Upd.refl, fun _ hi => .inl hi⟩)
      | (skip
         have k_0 := HA1.out.c0
         have k_10 := HA1.out.c10
         have k_11 := HA1.out.c11
         have k_l := HA1.out.lt
         go_upto_region 3 with fail
         refine rB [8,11] [0,1,2,3,4,5,6,7,8,9,10,11] ?_
         repeat (first | refine oW (h := ?_) | refine oL (h := ?_))
         refine oO (h := ?_)
         intro K' hK
         go_simp
         refine (Yc6 b o g 0 cc s1 HOK1.out 0 (by have := HOK1.out.h1; omega) wr.drew HA1.out.lt HA1.out.c0 HA1.out.c10 HA1.out.sl.drew HA1.out.capC).mono ?_
         rintro e x1 ⟨rfl, hb1⟩
         have HBX1 : Below wr.heap.size wr x1 := ((Below.refl _ _).drew).trans hb1
         obtain ⟨r, hr⟩ := eX (rowT s1 0)
         have HRR := zz hr
         rw [hr]
         clear hr hb1
         refine oN hK (h := ?_)
         clear hK K'
         refine oO (h := ?_)
         intro K' hK
         go_simp
         obtain ⟨x2, hx2⟩ := eX (x1.alloc (.cells #[.string r] 9))
         have HB12 : Hid (Below x1.heap.size x1 x2) := zz (by rw [← hx2]; exact bA)
         have hbx2 : Below wr.heap.size wr x2 := HBX1.trans (HB12.out.mono HBX1.size)
         have HBX2 := zz hbx2
         have HAX2 := zz (HA1.out.below HBX2.out)
         have HSRC : Hid (Src Tryz.prog 1 24 (.slice (some ⟨x1.heap.size, 0, none⟩) 1 1) [r].length ([r].flatMap sE) x2) := zz (by rw [← hx2]; exact Src.ofBox (enc := sE) Tryz.underlying24 (fun _ => rfl) Zr2 r _ _ (by simp [sE]) _ (by simp))
         have hx12 : x1.heap.size = wr.heap.size ∨ wr.heap.size < x1.heap.size := by have := HBX1.size; omega
         rw [hx2]
         clear hx2
         refine oN hK (h := ?_)
         clear hK K'
         refine oO (h := ?_)
         intro K' hK
         rw [if_pos (by rfl)]
         refine Ze5 (.tmp 27) (.tmp 30) 24 24 iS (.string ⟨#[]⟩) 16 Tryz.underlying24 hS hS0 hS1 hS2 rfl (by decide) (fun _ => rfl) s1.hist.length rfl HAX2.out.win (.slice (some ⟨x1.heap.size, 0, none⟩) 1 1) [r] HSRC.out (by have := HOK1.out.hn; simp; omega) (by have := HBX2.out.size; omega) ?_ ?_ ?_ ?_
         ·rfl
         ·rfl
         ·rfl
         intro a4 c4 w4 us hus hf4 hc4 hk4 _ _
         have HUS := hus
         have HF4 := zz hf4
         have HC4 := zz hc4
         have HK4 := zz hk4
         have hbx := HBX2.out.size
         have HB1 : ¬ b ∈ bO ah1 := fun hb => (HA1.out.hb b hb).1 rfl
         have HA4 : Hid (SA lo b o { s1 with hist := us } g cc a4 c4 (w4.setCell ⟨b, o + 11, none⟩ (.slice a4 us.length c4))) := zz (by
          have hh := HA1.out
          have hgl := hh.glt
          have hn4 : ∀ k ∈ bO a4, k ≠ b ∧ k ≠ g := fun k hk => by
           rcases hk4 k hk with h | h
           ·exact hh.hb k h
           ·have := hh.lt; have := hh.glt.2; omega
          exact SA.hist' HAX2.out hc4 (fun h => HB1 h) (fun h => (hh.hb g h).2 rfl) hf4 hn4)
         have HU4 : Hid (Upd b o (o + 12) (fun i => i = g ∨ i ∈ bO ah1) wr (w4.setCell ⟨b, o + 11, none⟩ (.slice a4 us.length c4)) ∧ (∀ i ∈ bO a4, i ∈ bO ah1 ∨ wr.heap.size ≤ i)) := zz (by
          have hh := HA1.out
          refine ⟨((Upd.refl.below HBX2.out hh.lt).transN (Upd.ofCh (S := fun i => i = g ∨ i ∈ bO ah1) hc4 (by have := hh.lt; omega) HB1 (fun i hi => .inl (.inr hi))) (fun i hi => .inl hi)).set1'' (by omega) (by omega) _, fun i hi => ?_⟩
          ·rcases hk4 i hi with h | h
           ·exact .inl h
           ·exact .inr (by omega))
         have v_f : ∀ k, w4.frozen? ⟨b, k, none⟩ = false := fun k => (HC4.out.frozen (p := ⟨b, k, none⟩) HAX2.out.lt HB1).trans (HAX2.out.fz k)
         have v_11 := (HC4.out.cell (p := ⟨b, o + 11, none⟩) HAX2.out.lt HB1).trans HAX2.out.c11
         have v_l : b < w4.heap.size := Nat.lt_of_lt_of_le HAX2.out.lt HC4.out.size
         clear hus hf4 hc4 hk4 hbx2 HBX1
         refine oN hK (h := ?_)
         clear hK K'
         repeat (first | refine oW (h := ?_) | refine oL (h := ?_))
         refine oO (h := ?_)
         intro K' hK
         go_simp
         refine oN hK (h := ?_)
         clear hK K'
         refine oD ?_
         obtain ⟨w5, hw5⟩ := eX (w4.setCell ⟨b, o + 11, none⟩ (.slice a4 us.length c4))
         rw [hw5] at HA4 HU4 ⊢
         obtain ⟨ln, hln⟩ := eX (us.length)
         have k5_11 : w5.cell? ⟨b, o + 11, none⟩ = some (.slice a4 ln c4) := by rw [← hln]; exact HA4.out.c11
         have HLN := zz hln
         have hln7 : ln ≤ 7 := by have := HOK1.out.hn; rw [← hln, HUS.out]; simp; omega
         rw [hln]
         have k5_f := HA4.out.fz
         have k5_l := HA4.out.lt
         have HH : Hid (us = s1.hist ++ [rowT s1 0]) := zz (by rw [HRR.out]; exact HUS.out)
         clear hw5 hln v_f v_11 v_l k_0 k_10 k_11 k_l hx12
         by_cases h6 : 6 < ln
         ·have h6' : (6 : Int) < (ln : Int) := by omega
          obtain ⟨x, tl, hxt⟩ : ∃ x tl, us = x :: tl := by
           cases us with
           | nil => have := HLN.out; simp at this; omega
           | cons x tl => exact ⟨x, tl, rfl⟩
          have HXT := zz hxt
          have hw : Win sE 9 1 lo w5 a4 c4 us := HA4.out.win
          rw [hxt] at hw
          obtain ⟨g4, o4, ha4, hg4, _⟩ := hw.cells (by simp)
          subst ha4
          have HTL := zz (Win.tail (enc := sE) (sz := 1) (fun _ => rfl) hw)
          have hcap := hw.cap
          have hl4 : ln ≤ c4 := by have h1 := hcap.1; have h2 := HLN.out; rw [hxt] at h2; omega
          have hc41 : ¬ c4 = 1 := by omega
          have hl41 : (1 : Int) ≤ (ln : Int) := by omega
          have HS2' : Hid (ln - 1 = tl.length ∧ { s1 with hist := tl } = s2) := zz (by
           have h3 : 6 < (s1.hist ++ [rowT s1 0]).length := by rw [← HH.out, HLN.out]; exact h6
           have h4 : pushH s1.hist (rowT s1 0) = tl := Zr9 h3 (by rw [← HH.out]; exact hxt)
           refine ⟨by have h2 := HLN.out; rw [HXT.out] at h2; simp at h2; omega, ?_⟩
           rw [← HS2.out, if_pos ⟨HT0.out, rfl⟩, h4])
          clear hw hxt hcap
          go_wp2_with fail
          go_meet
          have hh := HA4.out
          have h8 : SA lo b o { s1 with hist := tl } g cc (some ⟨g4, o4 + 1, none⟩) (c4 - 1) (w5.setCell ⟨b, o + 11, none⟩ (.slice (some ⟨g4, o4 + 1, none⟩) tl.length (c4 - 1))) := SA.hist' (s := { s1 with hist := us }) hh Ch.refl (fun h => (hh.hb b h).1 rfl) (fun h => (hh.hb g h).2 rfl) HTL.out (fun k hk => hh.hb k hk)
          rw [HS2'.out.2, ← HS2'.out.1] at h8
          exact ⟨_, _, h8, HU4.out.1.set1'' (by omega) (by omega) _, HU4.out.2⟩
         ·have h6' : ¬ (6 : Int) < (ln : Int) := by omega
          have HS2' : Hid (({ s1 with hist := us } : Scr) = s2) := zz (by
           have h3 : ¬ 6 < (s1.hist ++ [rowT s1 0]).length := by rw [← HH.out, HLN.out]; exact h6
           rw [← HS2.out, if_pos ⟨HT0.out, rfl⟩, HH.out, Zr0 h3])
          go_wp2_with fail
          go_meet
          rw [HS2'.out] at HA4
          exact ⟨a4, c4, HA4.out, HU4.out.1, HU4.out.2⟩)
    case rest =>
     obtain ⟨ah2, dh2, ha2, hu2, hh2⟩ := hcut
     obtain ⟨w9, hw9⟩ : ∃ x, x = wc := ⟨_, rfl⟩
     subst hw9
     have HA2 := zz ha2
     have HU2 := zz hu2
     have HH2 := zz hh2
     have hz2 := hu2.size
     obtain ⟨wd, hwd⟩ := eX (s2.w)
     obtain ⟨n2, hn2⟩ := eX (s2.cells.length)
     have hsw : s1.w = wd := by rw [← hwd, ← HS2.out]
     have hsc : s2.cells = s1.cells := by rw [← HS2.out]
     have hn240 : n2 ≤ 240 := by rw [← hn2, hsc, HOK1.out.cn]; exact Nat.mul_le_mul HOK1.out.w2 HOK1.out.h2
     have hbw : (bt + 1) * wd ≤ n2 := by rw [← hn2, hsc, HOK1.out.cn, hsw, Nat.mul_comm]; exact Nat.mul_le_mul_left _ hbt1
     have htbw : t * wd ≤ bt * wd := Za2 htb
     have hn2c : n2 ≤ cc := by rw [← hn2]; exact ha2.capC
     obtain ⟨p, hp⟩ := eX (t * wd)
     obtain ⟨q, hq⟩ := eX (bt * wd)
     obtain ⟨r, hr⟩ : ∃ r, (bt + 1) * wd = r := ⟨_, rfl⟩
     obtain ⟨u, hu⟩ : ∃ r, (t + 1) * wd = r := ⟨_, rfl⟩
     have hrq : r = q + wd := by rw [← hr, ← hq]; exact Nat.succ_mul _ _
     have hup : u = p + wd := by rw [← hu, ← hp]; exact Nat.succ_mul _ _
     rw [hr] at hbw
     rw [hp, hq] at htbw
     have hwb : IntKind.i64.wrap ((bt : Int) + 1) = (bt : Int) + 1 := iIq _
     have hwt : IntKind.i64.wrap ((t : Int) + 1) = (t : Int) + 1 := iIq _
     have hd1 : IntKind.i64.wrap ((t : Int) * (wd : Int)) = (p : Int) := by rw [← Int.natCast_mul, hp]; exact iIq _
     have hd2 : IntKind.i64.wrap ((bt : Int) * (wd : Int)) = (q : Int) := by rw [← Int.natCast_mul, hq]; exact iIq _
     have hd3 : IntKind.i64.wrap (((bt : Int) + 1) * (wd : Int)) = (r : Int) := by
      rw [show ((bt : Int) + 1) * (wd : Int) = (r : Int) by rw [← hr]; exact (Int.natCast_mul (bt + 1) wd).symm]
      exact iIq _
     have hd4 : IntKind.i64.wrap (((t : Int) + 1) * (wd : Int)) = (u : Int) := by
      rw [show ((t : Int) + 1) * (wd : Int) = (u : Int) by rw [← hu]; exact (Int.natCast_mul (t + 1) wd).symm]
      exact iIq _
     have HUP : Hid (({ s2 with cells := splice (splice s2.cells p ((s2.cells.drop u).take (q - p))) q (bL wd) } : Scr) = s9) := zz (by
      rw [hup, spl_up htbw (by rw [hn2]; omega), ← hup, ← hrq]
      rw [← HK1.out]
      unfold scU1 up1
      rw [← HS2.out, ← hp, ← hr, ← hu, ← hq, ← Nat.sub_mul]
      simp [hsw])
     have hwd24 : wd ≤ 24 := by rw [← hsw]; exact HOK1.out.w2
     have hwd2 : 2 ≤ wd := by rw [← hsw]; exact HOK1.out.w1
     have HWD := zz hwd
     have HN2 := zz hn2
     have HRQ := zz hrq
     have HUP2 := zz hup
     have z_0 : w9.cell? ⟨b, o, none⟩ = some (.int .i64 wd) := by rw [← hwd]; exact ha2.c0
     have z_10 : w9.cell? ⟨b, o + 10, none⟩ = some (.slice (some ⟨g, 0, none⟩) n2 cc) := by rw [← hn2]; exact ha2.c10
     have z_l := ha2.lt
     have g1 : q ≤ cc := by omega
     have g2 : u ≤ r := by omega
     have g3 : r ≤ cc := by omega
     have g4 : ¬ cc = p := by omega
     have g5 : ¬ cc = q := by omega
     have g6 : q ≤ r := by omega
     have hys : ((s2.cells.drop u).take (q - p)).length = q - p := by simp only [List.length_take, List.length_drop, hn2]; omega
     have HYS := zz hys
     have HRW : Hid (Fr Za0 87 2 lo w9.heap.size (.slice (some ⟨g, 0, none⟩) n2 cc) s2.cells w9) := zz (by rw [← hn2]; exact ha2.row)
     have HYSL : Hid (0 < q - p → Sl Za0 2 w9.drew (some ⟨g, u * 2, none⟩) ((s2.cells.drop u).take (q - p))) := zz (fun hpos => by
      have := Sl.sub ha2.sl.drew u (q - p) (by rw [hn2]; omega)
      rwa [Nat.zero_add] at this)
     clear ha2 hu2 hh2 hwd hn2 hsw hsc hp hq hr hu hrq hup hys
     go_upto_region 6 with fail
     refine rB [36] [0,1,2,3,4,5,6,7,8,9,10,11,12,13,14,15,16,17,18,19,20,21,22,23,24,25,26,27,28,29,30,31,32,33,34,35,36] ?_
     repeat (first | refine oW (h := ?_) | refine oL (h := ?_))
     refine oO (h := ?_)
     intro K' hK
     rw [if_pos (by rfl)]
     refine sCf (enc := Za0) (sz := 2) (.tmp 64) (.tmp 83) 23 23 87 Tryz.underlying23 (by kernel_rfl) (fun _ => rfl) Ze2 HRW.out.drew (off := p) ((s2.cells.drop u).take (q - p)) ?c1 ?c2 ?c3 rfl rfl rfl ?_
     case c1 =>
      rw [HYS.out, show r - u = q - p by have := HRQ.out; have := HUP2.out; omega]
      exact (Nat.min_self _).symm
     case c2 =>
      intro h
      rw [HYS.out] at h
      have h1 := HUP2.out
      have h2 := HRQ.out
      refine ⟨by first | rfl | rw [if_neg (by omega)], ?_⟩
      first | exact HYSL.out | exact HYSL.out h | (rw [if_neg (by omega)]; first | exact HYSL.out | exact HYSL.out h)
     case c3 =>
      have h1 := HUP2.out
      have h2 := HRQ.out
      rw [HYS.out, HN2.out]
      omega
     intro w10 hf10 hc10
     have HC10 : Hid (Ch (· = g) w9 w10) := zz ((Ch.refl.drew).trans hc10 (fun _ h => .inl h))
     obtain ⟨c3, hc3⟩ := eX (splice s2.cells p ((s2.cells.drop u).take (q - p)))
     have hl3 : c3.length = n2 := by
      have h1 := HUP2.out
      have h2 := HRQ.out
      rw [← hc3, length_splice _ _ _ (by rw [HYS.out, HN2.out]; omega), HN2.out]
     rw [hc3] at hf10 HUP
     have HL3 := zz hl3
     have HA10 : Hid (SA lo b o { s2 with cells := c3 } g cc ah2 dh2 w10) := zz (HA2.out.recell HC10.out HN2.out (hf10.mono (Nat.le_refl _) HC10.out.size) hl3)
     clear hf10 hc10 hc3 hl3
     refine oN hK (h := ?_)
     clear hK K'
     refine oD ?_
     have y_0 : w10.cell? ⟨b, o, none⟩ = some (.int .i64 wd) := by rw [← HWD.out]; exact HA10.out.c0
     have y_10 : w10.cell? ⟨b, o + 10, none⟩ = some (.slice (some ⟨g, 0, none⟩) n2 cc) := by rw [← HL3.out]; exact HA10.out.c10
     have y_l := HA10.out.lt
     clear z_0 z_10 z_l
     go_upto_region 7 with fail
     refine rB [23] [0,1,2,3,4,5,6,7,8,9,10,11,12,13,14,15,16,17,18,19,20,21,22,23] ?_
     repeat (first | refine oW (h := ?_) | refine oL (h := ?_))
     refine oO (h := ?_)
     intro K' hK
     go_simp
     refine (Zg1 wd (by omega) (by omega) _).mono ?_
     rintro e x1 ⟨v, rfl, hf, hb⟩
     obtain ⟨ab, cb, rfl, hcb, ho⟩ := id hf
     have hbx : Below w10.heap.size w10 x1 := ((Below.refl _ _).drew).trans hb
     have HBX := zz hbx
     have HYB : Hid (Sl Za0 2 x1 ab (bL wd)) := zz (Sl.of_own (fun _ => rfl) ho)
     have HAX := zz (HA10.out.below hbx)
     have HRX : Hid (Fr Za0 87 2 lo x1.heap.size (.slice (some ⟨g, 0, none⟩) n2 cc) c3 x1) := zz (by rw [← HL3.out]; exact HAX.out.row)
     clear hf hcb ho hb
     refine oN hK (h := ?_)
     clear hK K'
     refine oO (h := ?_)
     intro K' hK
     rw [if_pos (by rfl)]
     refine sCf (enc := Za0) (sz := 2) (.tmp 102) (.tmp 107) 23 23 87 Tryz.underlying23 (by kernel_rfl) (fun _ => rfl) Ze2 HRX.out (off := q) (bL wd) ?d1 ?d2 ?d3 rfl rfl rfl ?_
     case d1 =>
      have h1 : (bL wd).length = wd := by simp [bL]
      rw [h1, show r - q = wd by have := HRQ.out; have := HUP2.out; omega]
      exact (Nat.min_self _).symm
     case d2 =>
      intro h
      refine ⟨by first | rfl | rw [if_neg (by omega)], HYB.out⟩
     case d3 =>
      have h1 : (bL wd).length = wd := by simp [bL]
      have h2 := HRQ.out
      have h3 := HUP2.out
      rw [h1, HL3.out]
      omega
     intro w11 hf11 hc11
     have HC11 : Hid (Ch (· = g) w9 w11) := zz ((HC10.out.below1 hbx).trans hc11 (fun _ h => .inl h))
     have HA11 : Hid (SA lo b o s9 g cc ah2 dh2 w11) := zz (by
      rw [← HUP.out]
      have h1 : (bL wd).length = wd := by simp [bL]
      have h2 := HRQ.out
      have h3 := HUP2.out
      exact HAX.out.recell hc11 HL3.out (hf11.mono (Nat.le_refl _) hc11.size) (by rw [length_splice _ _ _ (by rw [h1, HL3.out]; omega), HL3.out]))
     clear hf11 hc11 hbx
     refine oN hK (h := ?_)
     clear hK K'
     refine oD ?_
     clear y_0 y_10 y_l
     go_wp2_with fail
     go_roundw
     case rel =>
      refine ⟨k + 1, by omega, by go_num, zz ⟨ah2, dh2, by rw [HS9.out]; exact HA11.out, ?_, fun i hi => ?_⟩⟩
      ·refine HU1.out.transN (N := fun i => i = g ∨ i ∈ bO ah1) (HU2.out.transN (Upd.ofCh (S := fun i => i = g ∨ i ∈ bO ah1) HC11.out HA2.out.lt (fun e => HA2.out.gb e.symm) (fun i hi => .inl (.inl hi))) (fun i hi => .inl hi)) (fun i hi => ?_)
       rcases hi with hi | hi
       ·exact .inl (.inl hi)
       ·rcases HH1.out i hi with h | h
        ·exact .inl (.inr h)
        ·exact .inr h
      ·rcases HH2.out i hi with h | h
       ·exact HH1.out i h
       ·exact .inr (by omega)
     case measure => simp [intOf]; omega
  ·obtain rfl : k = N := by omega
   go_wp2_with fail
   refine bodyPost_end (v := .tuple #[]) (by simp [results, Tryz.results109]) rfl ?_
   rw [HS1.out]
   exact ⟨rfl, g, cc, ah1, dh1, HA1.out, HU1.out, .inl rfl, HH1.out⟩
end
section
theorem Zk2 (lo b : Nat) (s : Scr) (g cc : Nat) (ah : Option Addr) (dh : Nat) (w : World) (t bt n : Nat) (h : SA lo b 0 s g cc ah dh w) (ok : sK s) (htb : t ≤ bt) (hbt : bt < s.h) (hn : n ≤ 10) :
 Calls Tryz.prog 120 #[.pointer (some ⟨b, 0, none⟩), .int .i64 t, .int .i64 bt, .int .i64 (-(n : Int))] w fun e w' => e = .returned (.tuple #[]) ∧ SA lo b 0 (scD t bt n s) g cc ah dh w' ∧ Ch (· = g) w w' := by
 have HS := zz h
 have HOK := zz ok
 clear h ok
 obtain ⟨V, hV⟩ := eX (-(n : Int))
 have hVn : ¬ 0 < V := by omega
 rw [hV]
 go_enter Tryz.func120, Tryz.ntmps120
 go_wp2_with fail
 go_loopw [3] (fun nv wx => nv = .int .i64 V ∧ wx = w) (fun _ _ => 0)
 case atStart => exact ⟨rfl, rfl⟩
 case round =>
 obtain ⟨rfl, rfl⟩ := hrel
 rename World => w
 go_wp2_with fail
 go_loopw [3] (fun nv wr => ∃ (k m : Nat) (v : Int), k + m = n ∧ nv = .int .i64 v ∧ v = -(m : Int) ∧ Hid (SA lo b 0 (scD t bt k s) g cc ah dh wr ∧ Ch (· = g) w wr)) (fun nv _ => (-(intOf nv)).toNat)
 case atStart => exact ⟨0, n, V, by omega, rfl, hV.symm, zz ⟨HS.out, Ch.refl⟩⟩
 case round =>
  obtain ⟨k, m, v, hkm, rfl, hv, HR⟩ := hrel
  obtain ⟨s2, hs2⟩ := eX (scD t bt k s)
  have HK2 : Hid (scD t bt (k + 1) s = scD1 t bt s2) := zz (by rw [← hs2]; rfl)
  have ok2 : sK s2 := by rw [← hs2]; exact HOK.out.okD htb hbt k
  have hbt2 : bt < s2.h := by rw [← hs2, (Zc2 t bt s k).2.1]; exact hbt
  have HS2 := zz hs2
  have HRA := HR.out
  rw [hs2] at HRA
  have HA2 := zz HRA.1
  have HC2 := zz HRA.2
  have HOK2 := zz ok2
  clear HRA hs2 ok2 HR
  by_cases hm : 0 < m
  ·have hm' : v < 0 := by omega
   obtain ⟨w9, hw9⟩ : ∃ x, x = wr := ⟨_, rfl⟩
   subst hw9
   obtain ⟨wd, hwd⟩ := eX (s2.w)
   obtain ⟨n2, hn2⟩ := eX (s2.cells.length)
   have hn240 : n2 ≤ 240 := by rw [← hn2, HOK2.out.cn]; exact Nat.mul_le_mul HOK2.out.w2 HOK2.out.h2
   have hbw : (bt + 1) * wd ≤ n2 := by rw [← hn2, HOK2.out.cn, hwd, Nat.mul_comm]; exact Nat.mul_le_mul_left _ hbt2
   have htbw : t * wd ≤ bt * wd := Za2 htb
   obtain ⟨p, hp⟩ := eX (t * wd)
   obtain ⟨q, hq⟩ : ∃ q, (t + 1) * wd = q := ⟨_, rfl⟩
   obtain ⟨r, hr⟩ : ∃ r, (bt + 1) * wd = r := ⟨_, rfl⟩
   have hqp : q = p + wd := by rw [← hp, ← hq]; exact Nat.succ_mul _ _
   have hrq : q ≤ r := by rw [← hq, ← hr]; exact Za2 (by omega)
   have hpi : (t : Int) * (wd : Int) = (p : Int) := by rw [← hp]; exact (Int.natCast_mul _ _).symm
   have hqi : ((t : Int) + 1) * (wd : Int) = (q : Int) := by rw [← hq]; exact (Int.natCast_mul (t + 1) wd).symm
   have hri : ((bt : Int) + 1) * (wd : Int) = (r : Int) := by rw [← hr]; exact (Int.natCast_mul (bt + 1) wd).symm
   rw [hr] at hbw
   have hwd24 : wd ≤ 24 := by rw [← hwd]; exact HOK2.out.w2
   have hwd2 : 2 ≤ wd := by rw [← hwd]; exact HOK2.out.w1
   have HUP : Hid (({ s2 with cells := clrL p q (shD r q wd s2.cells) } : Scr) = scD1 t bt s2) := zz (by
    subst hp hq hr
    rw [dn1_sh htb (by rw [hn2]; exact hbw)]
    unfold scD1
    simp [hwd])
   have hbt24 : bt ≤ 10 := by have := HOK2.out.h2; omega
   have HWD := zz hwd
   have HN2 := zz hn2
   have HQP := zz hqp
   have hpq : p ≤ q := by omega
   have hwq : wd ≤ q := by omega
   clear hwd hn2 hp hq hr htbw hqp
   have z_0 : w9.cell? ⟨b, 0, none⟩ = some (.int .i64 wd) := by rw [← HWD.out]; exact HA2.out.c0
   go_wp2_with fail
   go_loopw [10] (fun iv wi => ∃ (mm : Nat) (u : Int), q ≤ mm ∧ mm ≤ r ∧ iv = .int .i64 u ∧ u + 1 = (mm : Int) ∧ Hid (SA lo b 0 { s2 with cells := shD r mm wd s2.cells } g cc ah dh wi ∧ Ch (· = g) w9 wi)) (fun iv _ => (intOf iv + 1).toNat)
   case atStart => exact ⟨r, (r : Int) - 1, hrq, Nat.le_refl _, by go_num, by omega, zz ⟨by rw [shD_none]; exact HA2.out, Ch.refl⟩⟩
   case round =>
    obtain ⟨mm, u, hqm, hmr, rfl, hu, HI⟩ := hrel
    have hlen : (shD r mm wd s2.cells).length = n2 := (Zu7 (by omega) hmr (by rw [HN2.out]; omega)).trans HN2.out
    have i_0 : wr.cell? ⟨b, 0, none⟩ = some (.int .i64 wd) := by rw [← HWD.out]; exact HI.out.1.c0
    have i_10 : wr.cell? ⟨b, 10, none⟩ = some (.slice (some ⟨g, 0, none⟩) n2 cc) := by rw [← hlen]; exact HI.out.1.c10
    have HLEN := zz hlen
    clear hlen
    by_cases hlt : q < mm
    ·obtain ⟨i, rfl⟩ : ∃ i, mm = i + 1 := ⟨mm - 1, by omega⟩
     obtain rfl : u = (i : Int) := by omega
     have hlt' : (q : Int) ≤ (i : Int) := by omega
     obtain ⟨j, hj⟩ := eX (i - wd)
     have hji : (i : Int) - (wd : Int) = (j : Int) := by omega
     have hjn : j < n2 := by omega
     have hjn' : (j : Int) < (n2 : Int) := by omega
     have hin' : (i : Int) < (n2 : Int) := by omega
     have hwj : IntKind.i64.wrap (j : Int) = (j : Int) := iIq _
     have hj0 : (0 : Int) ≤ (j : Int) := by omega
     have hi0 : (0 : Int) ≤ (i : Int) := by omega
     have hj2 : i - wd < s2.cells.length := by rw [HN2.out, hj]; exact hjn
     obtain ⟨c, hc⟩ := eX (s2.cells[i - wd])
     have hj3 : i - wd < (shD r (i + 1) wd s2.cells).length := by rw [HLEN.out, hj]; exact hjn
     have hcj := HI.out.1.cell (i := i - wd) hj3
     have hci := HI.out.1.cell (i := i) (show i < (shD r (i + 1) wd s2.cells).length by rw [HLEN.out]; omega)
     have hat : ({ s2 with cells := shD r (i + 1) wd s2.cells } : Scr).cells[i - wd]'hj3 = c := (shD_at (by omega) (by omega) (by rw [HN2.out]; omega) hj2 hj3).trans hc
     rw [hat, hj] at hcj
     obtain ⟨c_1, c_2⟩ := hcj
     obtain ⟨e_1, e_2⟩ := hci
     have HNX : Hid ((shD r (i + 1) wd s2.cells).set i c = shD r i wd s2.cells) := zz (by rw [← hc]; exact shD_next (by omega) (by omega) (by rw [HN2.out]; omega) hj2)
     have g_f := HI.out.1.gfz
     have g_l := HI.out.1.glt.2
     have HD : Hid (SA lo b 0 { s2 with cells := shD r i wd s2.cells } g cc ah dh ((wr.drew.setCell ⟨g, i * 2, none⟩ (.int .i64 c.1)).setCell ⟨g, i * 2 + 1, none⟩ (.int .i64 c.2)) ∧ Ch (· = g) w9 ((wr.drew.setCell ⟨g, i * 2, none⟩ (.int .i64 c.1)).setCell ⟨g, i * 2 + 1, none⟩ (.int .i64 c.2))) := zz (by
      have h1 := HI.out.1.drew.setC (i := i) (show i < (shD r (i + 1) wd s2.cells).length by rw [HLEN.out]; omega) c
      refine ⟨?_, ((HI.out.2.drew).trans (Ch.set1' _ g (i * 2) _) (fun _ h => .inl h)).trans (Ch.set1' _ g (i * 2 + 1) _) (fun _ h => .inl h)⟩
      have h2 := HNX.out
      simp only at h1
      rwa [h2] at h1)
     clear hat hc hj3 hj2 hu
     go_upto_region 17 with fail
     have hSc6 := And.intro i_0 (And.intro i_10 (And.intro c_1 c_2))
     refine rO (fun w' => w'.cell? ⟨b, 0, none⟩ = some (.int .i64 wd) ∧ w'.cell? ⟨b, 10, none⟩ = some (.slice (some ⟨g, 0, none⟩) n2 cc) ∧ w'.cell? ⟨g, j * 2, none⟩ = some (.int .i64 c.1) ∧ w'.cell? ⟨g, j * 2 + 1, none⟩ = some (.int .i64 c.2)) [18] [0,1,2,3,4,5,6,7,8,9,10,11,12,13,14,15,16,17,18] ?_
     iterate 18 (first | refine oW (h := ?_) | refine oL (hS := hSc6) (h := ?_))
     refine oO (hS := .inl rfl) (h := ?_)
     intro K' hK
     go_simp
     refine oN hK (hS := .inl rfl) (h := ?_)
     clear hK K'
     refine oD ?_
     go_wp2_with fail
     go_roundw
     case rel => first | exact ⟨i, by omega, by omega, by omega, HD⟩ | exact ⟨i, (i : Int) - 1, by omega, by omega, by go_num, by omega, HD⟩
     case measure => simp [intOf]; omega
    ·obtain rfl : mm = q := by omega
     have hu' : ¬ (mm : Int) ≤ u := by omega
     have hwr : IntKind.i64.wrap (mm : Int) = (mm : Int) := iIq _
     have hwp : IntKind.i64.wrap (p : Int) = (p : Int) := iIq _
     have hwb : IntKind.i64.wrap ((t : Int) + 1) = (t : Int) + 1 := iIq _
     go_upto_region 18 with fail
     have hSc7 := i_0
     refine rO (fun w' => w'.cell? ⟨b, 0, none⟩ = some (.int .i64 wd)) [] [0,1,2,3,4,5,6,7,8,9,10,11,12,13,14] ?_
     iterate 14 (first | refine oW (h := ?_) | refine oL (hS := hSc7) (h := ?_))
     refine oO (hS := .inr hSc7) (h := ?_)
     intro K' hK
     go_simp
     go_at_call 118
     refine (Zf6 lo b { s2 with cells := shD r mm wd s2.cells } g cc ah dh _ p mm HI.out.1.drew hpq (by show mm ≤ (shD r mm wd s2.cells).length; rw [HLEN.out]; omega) (by show (shD r mm wd s2.cells).length ≤ 240; rw [HLEN.out]; exact hn240)).mono ?_
     rintro e x1 ⟨rfl, hax, hcx⟩
     have HAX := zz hax
     have HCX : Hid (Ch (· = g) w9 x1) := zz (HI.out.2.drew.trans hcx (fun _ h => .inl h))
     have hSc8 : x1.cell? ⟨b, 0, none⟩ = some (.int .i64 wd) := by rw [← HWD.out]; exact HAX.out.c0
     clear hax hcx
     refine oN hK (hS := .inr hSc8) (h := ?_)
     clear hK K'
     refine oD ?_
     go_wp2_with fail
     go_roundw
     case rel =>
      refine ⟨k + 1, m - 1, v + 1, by omega, by go_num, by omega, zz ⟨?_, HC2.out.trans HCX.out (fun _ h => .inl h)⟩⟩
      rw [HK2.out, ← HUP.out]
      exact HAX.out
     case measure => simp [intOf]; omega
  ·obtain rfl : m = 0 := by omega
   have hv' : ¬ v < 0 := by omega
   go_wp2_with fail
   refine bodyPost_end (v := .tuple #[]) (by simp [results, Tryz.results120]) rfl ?_
   obtain rfl : k = n := by omega
   rw [HS2.out]
   exact ⟨rfl, HA2.out, HC2.out⟩
end
section
theorem Zy7 (lo b : Nat) (s : Scr) (g cc : Nat) (ah : Option Addr) (dh : Nat) (w : World) (h : SA lo b 0 s g cc ah dh w) (ok : sK s) (hlo : lo ≤ w.heap.size) :
 Calls Tryz.prog 115 #[.pointer (some ⟨b, 0, none⟩)] w fun e w' => e = .returned (.tuple #[]) ∧ sR lo b 0 (downS s) g ah w w' := by
 have HS := zz h
 have HOK := zz ok
 have hw1 := ok.w1
 have hw2 := ok.w2
 have hh1 := ok.h1
 have hh2 := ok.h2
 have hx := ok.hx
 have hy := ok.hy
 clear h ok
 have hwr0 : IntKind.i64.wrap ((s.h : Int) - 1) = (s.h : Int) - 1 := iIq _
 have hwr1 : IntKind.i64.wrap ((s.y : Int) + 1) = (s.y : Int) + 1 := iIq _
 have k_0 := HS.out.e0
 have k_1 := HS.out.e1
 have k_2 := HS.out.e2
 have k_3 := HS.out.e3
 have k_4 := HS.out.e4
 have k_5 := HS.out.e5
 have k_6 := HS.out.e6
 have k_7 := HS.out.e7
 have k_8 := HS.out.e8
 have k_9 := HS.out.e9
 have k_10 := HS.out.e10
 have k_11 := HS.out.e11
 have k_f := HS.out.fz
 have k_l := HS.out.lt
 by_cases hyb : s.y = s.bot
 ·have hyb' : ((s.y : Int) == (s.bot : Int)) = true := by simp [hyb]
  go_enter Tryz.func115, Tryz.ntmps115
  go_upto_region 0 with fail
  have hSc1 := And.intro k_3 k_6
  refine rO (fun w' => w'.cell? ⟨b, 3, none⟩ = some (.int .i64 s.y) ∧ w'.cell? ⟨b, 6, none⟩ = some (.int .i64 s.bot)) [] [0,1,2,3,4,5,6,7,8,9,10] ?_
  iterate 11 (first | refine oW (h := ?_) | refine oL (hS := hSc1) (h := ?_))
  refine oD ?_
  obtain ⟨v1, hv1⟩ := eX (w.drew)
  have HBv1 : Hid (Below w.heap.size w v1) := zz (by rw [← hv1]; exact (Below.refl _ _).drew)
  rw [hv1]
  have hzv1 := HBv1.out.size
  have Hv1 := zz (HS.out.below HBv1.out)
  have HUv1 : Hid (Upd b 0 (0 + 12) (fun k => k = g ∨ k ∈ bO ah) w v1) := zz (Upd.refl'.below HBv1.out HS.out.lt)
  clear k_f k_l k_0 k_1 k_2 k_3 k_4 k_5 k_6 k_7 k_8 k_9 k_10 k_11 hv1 hSc1
  have k_0 := Hv1.out.e0
  have k_1 := Hv1.out.e1
  have k_2 := Hv1.out.e2
  have k_3 := Hv1.out.e3
  have k_4 := Hv1.out.e4
  have k_5 := Hv1.out.e5
  have k_6 := Hv1.out.e6
  have k_7 := Hv1.out.e7
  have k_8 := Hv1.out.e8
  have k_9 := Hv1.out.e9
  have k_10 := Hv1.out.e10
  have k_11 := Hv1.out.e11
  have k_f := Hv1.out.fz
  have k_l := Hv1.out.lt
  go_upto_region 1 with fail
  have hSc2 := And.intro k_5 k_6
  refine rO (fun w' => w'.cell? ⟨b, 5, none⟩ = some (.int .i64 s.top) ∧ w'.cell? ⟨b, 6, none⟩ = some (.int .i64 s.bot)) [] [0,1,2,3,4,5,6,7,8,9,10,11] ?_
  iterate 11 (first | refine oW (h := ?_) | refine oL (hS := hSc2) (h := ?_))
  refine oO (hS := .inr hSc2) (h := ?_)
  intro K' hK
  go_simp
  refine (Zk8 lo b s g cc ah dh _ s.top s.bot 1 Hv1.out.drew HOK.out (Nat.le_of_lt HOK.out.tb) HOK.out.bh (by omega) (by show lo ≤ v1.heap.size; omega)).mono ?_
  rintro e x1 ⟨rfl, ⟨g1, cc1, ah1, dh1, ha, hu, hg, hh⟩, _⟩
  have hSx : x1.cell? ⟨b, 5, none⟩ = some (.int .i64 s.top) ∧ x1.cell? ⟨b, 6, none⟩ = some (.int .i64 s.bot) := ⟨ha.c5, ha.c6⟩
  have HR : Hid (sR lo b 0 (downS s) g ah w x1) := zz (by
   have e1 : downS s = scU true s.top s.bot 1 s := if_pos hyb
   rw [e1]
   exact sR.trans Hv1.out.drew HUv1.out.drew (.inl rfl) (fun _ h => .inl h) ⟨g1, cc1, ah1, dh1, ha, hu, hg, hh⟩)
  clear ha hu hg hh
  refine oN hK (hS := .inr hSx) (h := ?_)
  clear hK K'
  refine oD ?_
  go_wp2_with fail
  first | refine bodyPost_end (v := .tuple #[]) (by simp [results, Tryz.results115]) rfl ?_ | refine bodyPost_ret (v := .tuple #[]) (by simp [results, Tryz.results115]) rfl ?_
  exact ⟨rfl, HR.out⟩
 ·have hyb' : ((s.y : Int) == (s.bot : Int)) = false := beq_eq_false_iff_ne.2 (by omega)
  go_enter Tryz.func115, Tryz.ntmps115
  go_upto_region 0 with fail
  have hSc3 := And.intro k_3 k_6
  refine rO (fun w' => w'.cell? ⟨b, 3, none⟩ = some (.int .i64 s.y) ∧ w'.cell? ⟨b, 6, none⟩ = some (.int .i64 s.bot)) [] [0,1,2,3,4,5,6,7,8,9,10] ?_
  iterate 11 (first | refine oW (h := ?_) | refine oL (hS := hSc3) (h := ?_))
  refine oD ?_
  obtain ⟨v1, hv1⟩ := eX (w.drew)
  have HBv1 : Hid (Below w.heap.size w v1) := zz (by rw [← hv1]; exact (Below.refl _ _).drew)
  rw [hv1]
  have hzv1 := HBv1.out.size
  have Hv1 := zz (HS.out.below HBv1.out)
  have HUv1 : Hid (Upd b 0 (0 + 12) (fun k => k = g ∨ k ∈ bO ah) w v1) := zz (Upd.refl'.below HBv1.out HS.out.lt)
  clear k_f k_l k_0 k_1 k_2 k_3 k_4 k_5 k_6 k_7 k_8 k_9 k_10 k_11 hv1 hSc3
  have k_0 := Hv1.out.e0
  have k_1 := Hv1.out.e1
  have k_2 := Hv1.out.e2
  have k_3 := Hv1.out.e3
  have k_4 := Hv1.out.e4
  have k_5 := Hv1.out.e5
  have k_6 := Hv1.out.e6
  have k_7 := Hv1.out.e7
  have k_8 := Hv1.out.e8
  have k_9 := Hv1.out.e9
  have k_10 := Hv1.out.e10
  have k_11 := Hv1.out.e11
  have k_f := Hv1.out.fz
  have k_l := Hv1.out.lt
  go_upto_region 2 with fail
  have hSc4 := And.intro k_1 k_3
  refine rO (fun w' => w'.cell? ⟨b, 1, none⟩ = some (.int .i64 s.h) ∧ w'.cell? ⟨b, 3, none⟩ = some (.int .i64 s.y)) [17] [0,1,2,3,4,5,6,7,8,9,10,11,12,13,14,15,16,17] ?_
  iterate 17 (first | refine oW (h := ?_) | refine oL (hS := hSc4) (h := ?_))
  refine oO (hS := .inl rfl) (h := ?_)
  intro K' hK
  go_simp
  refine oN hK (hS := .inl rfl) (h := ?_)
  clear hK K'
  refine oD ?_
  go_wp2_with fail
  first | refine bodyPost_end (v := .tuple #[]) (by simp [results, Tryz.results115]) rfl ?_ | refine bodyPost_ret (v := .tuple #[]) (by simp [results, Tryz.results115]) rfl ?_
  have e1 : downS s = { s with y := min (s.h - 1) (s.y + 1) } := if_neg hyb
  rw [e1]
  refine ⟨rfl, ?_⟩
  refine sR.mk (cc := cc) (dh := dh) ?_ ?_
  ·repeat (with_reducible refine SA.drew ?_)
   exact Hv1.out.setv3 _ (by omega)
  ·repeat (with_reducible refine Upd.drew ?_)
   exact HUv1.out.set3 _
theorem up_c (lo b : Nat) (s : Scr) (g cc : Nat) (ah : Option Addr) (dh : Nat) (w : World) (h : SA lo b 0 s g cc ah dh w) (ok : sK s) (hlo : lo ≤ w.heap.size) :
 Calls Tryz.prog 116 #[.pointer (some ⟨b, 0, none⟩)] w fun e w' => e = .returned (.tuple #[]) ∧ sR lo b 0 (upS s) g ah w w' := by
 have HS := zz h
 have HOK := zz ok
 have hw1 := ok.w1
 have hw2 := ok.w2
 have hh1 := ok.h1
 have hh2 := ok.h2
 have hx := ok.hx
 have hy := ok.hy
 clear h ok
 have hwr0 : IntKind.i64.wrap ((s.y : Int) - 1) = (s.y : Int) - 1 := iIq _
 have k_0 := HS.out.e0
 have k_1 := HS.out.e1
 have k_2 := HS.out.e2
 have k_3 := HS.out.e3
 have k_4 := HS.out.e4
 have k_5 := HS.out.e5
 have k_6 := HS.out.e6
 have k_7 := HS.out.e7
 have k_8 := HS.out.e8
 have k_9 := HS.out.e9
 have k_10 := HS.out.e10
 have k_11 := HS.out.e11
 have k_f := HS.out.fz
 have k_l := HS.out.lt
 by_cases hyb : s.y = s.top
 ·have hyb' : ((s.y : Int) == (s.top : Int)) = true := by simp [hyb]
  go_enter Tryz.func116, Tryz.ntmps116
  go_upto_region 0 with fail
  have hSc1 := And.intro k_3 k_5
  refine rO (fun w' => w'.cell? ⟨b, 3, none⟩ = some (.int .i64 s.y) ∧ w'.cell? ⟨b, 5, none⟩ = some (.int .i64 s.top)) [] [0,1,2,3,4,5,6,7,8,9,10] ?_
  iterate 11 (first | refine oW (h := ?_) | refine oL (hS := hSc1) (h := ?_))
  refine oD ?_
  obtain ⟨v1, hv1⟩ := eX (w.drew)
  have HBv1 : Hid (Below w.heap.size w v1) := zz (by rw [← hv1]; exact (Below.refl _ _).drew)
  rw [hv1]
  have hzv1 := HBv1.out.size
  have Hv1 := zz (HS.out.below HBv1.out)
  have HUv1 : Hid (Upd b 0 (0 + 12) (fun k => k = g ∨ k ∈ bO ah) w v1) := zz (Upd.refl'.below HBv1.out HS.out.lt)
  clear k_f k_l k_0 k_1 k_2 k_3 k_4 k_5 k_6 k_7 k_8 k_9 k_10 k_11 hv1 hSc1
  have k_0 := Hv1.out.e0
  have k_1 := Hv1.out.e1
  have k_2 := Hv1.out.e2
  have k_3 := Hv1.out.e3
  have k_4 := Hv1.out.e4
  have k_5 := Hv1.out.e5
  have k_6 := Hv1.out.e6
  have k_7 := Hv1.out.e7
  have k_8 := Hv1.out.e8
  have k_9 := Hv1.out.e9
  have k_10 := Hv1.out.e10
  have k_11 := Hv1.out.e11
  have k_f := Hv1.out.fz
  have k_l := Hv1.out.lt
  go_upto_region 1 with fail
  have hSc2 := And.intro k_5 k_6
  refine rO (fun w' => w'.cell? ⟨b, 5, none⟩ = some (.int .i64 s.top) ∧ w'.cell? ⟨b, 6, none⟩ = some (.int .i64 s.bot)) [] [0,1,2,3,4,5,6,7,8,9,10,11] ?_
  iterate 11 (first | refine oW (h := ?_) | refine oL (hS := hSc2) (h := ?_))
  refine oO (hS := .inr hSc2) (h := ?_)
  intro K' hK
  go_simp
  refine (Zk2 lo b s g cc ah dh _ s.top s.bot 1 Hv1.out.drew HOK.out (Nat.le_of_lt HOK.out.tb) HOK.out.bh (by omega)).mono ?_
  rintro e x1 ⟨rfl, ha, hc⟩
  have hSx : x1.cell? ⟨b, 5, none⟩ = some (.int .i64 s.top) ∧ x1.cell? ⟨b, 6, none⟩ = some (.int .i64 s.bot) := ⟨ha.c5, ha.c6⟩
  have HR : Hid (sR lo b 0 (upS s) g ah w x1) := zz (by
   have e1 : upS s = scD s.top s.bot 1 s := if_pos hyb
   rw [e1]
   exact .mk ha (HUv1.out.drew.transN (Upd.ofCh (S := fun i => i = g) hc Hv1.out.lt (fun e => HS.out.gb e.symm) (fun i hi => .inl hi)) (fun i hi => .inl (.inl hi))))
  clear ha hc
  refine oN hK (hS := .inr hSx) (h := ?_)
  clear hK K'
  refine oD ?_
  go_wp2_with fail
  first | refine bodyPost_end (v := .tuple #[]) (by simp [results, Tryz.results116]) rfl ?_ | refine bodyPost_ret (v := .tuple #[]) (by simp [results, Tryz.results116]) rfl ?_
  exact ⟨rfl, HR.out⟩
 ·have hyb' : ((s.y : Int) == (s.top : Int)) = false := beq_eq_false_iff_ne.2 (by omega)
  go_enter Tryz.func116, Tryz.ntmps116
  go_upto_region 0 with fail
  have hSc3 := And.intro k_3 k_5
  refine rO (fun w' => w'.cell? ⟨b, 3, none⟩ = some (.int .i64 s.y) ∧ w'.cell? ⟨b, 5, none⟩ = some (.int .i64 s.top)) [] [0,1,2,3,4,5,6,7,8,9,10] ?_
  iterate 11 (first | refine oW (h := ?_) | refine oL (hS := hSc3) (h := ?_))
  refine oD ?_
  obtain ⟨v1, hv1⟩ := eX (w.drew)
  have HBv1 : Hid (Below w.heap.size w v1) := zz (by rw [← hv1]; exact (Below.refl _ _).drew)
  rw [hv1]
  have hzv1 := HBv1.out.size
  have Hv1 := zz (HS.out.below HBv1.out)
  have HUv1 : Hid (Upd b 0 (0 + 12) (fun k => k = g ∨ k ∈ bO ah) w v1) := zz (Upd.refl'.below HBv1.out HS.out.lt)
  clear k_f k_l k_0 k_1 k_2 k_3 k_4 k_5 k_6 k_7 k_8 k_9 k_10 k_11 hv1 hSc3
  have k_0 := Hv1.out.e0
  have k_1 := Hv1.out.e1
  have k_2 := Hv1.out.e2
  have k_3 := Hv1.out.e3
  have k_4 := Hv1.out.e4
  have k_5 := Hv1.out.e5
  have k_6 := Hv1.out.e6
  have k_7 := Hv1.out.e7
  have k_8 := Hv1.out.e8
  have k_9 := Hv1.out.e9
  have k_10 := Hv1.out.e10
  have k_11 := Hv1.out.e11
  have k_f := Hv1.out.fz
  have k_l := Hv1.out.lt
  go_wp2_with fail
  first | refine bodyPost_end (v := .tuple #[]) (by simp [results, Tryz.results116]) rfl ?_ | refine bodyPost_ret (v := .tuple #[]) (by simp [results, Tryz.results116]) rfl ?_
  have e1 : upS s = { s with y := s.y - 1 } := if_neg hyb
  rw [e1]
  refine ⟨rfl, ?_⟩
  refine sR.mk (cc := cc) (dh := dh) ?_ ?_
  ·repeat (with_reducible refine SA.drew ?_)
   exact Hv1.out.setv3 _ (by omega)
  ·repeat (with_reducible refine Upd.drew ?_)
   exact HUv1.out.set3 _
theorem sR.then {lo b : Nat} {s1 s2 : Scr} {g : Nat} {ah : Option Addr} {w w1 w2 : World} (h : sR lo b 0 s1 g ah w w1) (k : ∀ g1 cc1 ah1 dh1, SA lo b 0 s1 g1 cc1 ah1 dh1 w1 → sR lo b 0 s2 g1 ah1 w1 w2) : sR lo b 0 s2 g ah w w2 := by
 obtain ⟨g1, cc1, ah1, dh1, ha, hu, hg, hh⟩ := h
 exact sR.trans ha hu hg hh (k _ _ _ _ ha)
theorem sR.size {lo b : Nat} {s1 : Scr} {g : Nat} {ah : Option Addr} {w w1 : World} (h : sR lo b 0 s1 g ah w w1) : w.heap.size ≤ w1.heap.size := by
 obtain ⟨g1, cc1, ah1, dh1, ha, hu, hg, hh⟩ := h
 exact hu.size
theorem print_c (lo b : Nat) (s : Scr) (g cc : Nat) (ah : Option Addr) (dh : Nat) (w : World) (n : Int) (h : SA lo b 0 s g cc ah dh w) (ok : sK s) (hlo : lo ≤ w.heap.size) :
 Calls Tryz.prog 79 #[.pointer (some ⟨b, 0, none⟩), .int .i64 n] w fun e w' => e = .returned (.tuple #[]) ∧ sR lo b 0 (Zh5 s n) g ah w w' := by
 have HS := zz h
 have HOK := zz ok
 have hw1 := ok.w1
 have hw2 := ok.w2
 have hh1 := ok.h1
 have hh2 := ok.h2
 have hx := ok.hx
 have hy := ok.hy
 clear h ok
 have k_0 := HS.out.e0
 have k_1 := HS.out.e1
 have k_2 := HS.out.e2
 have k_3 := HS.out.e3
 have k_4 := HS.out.e4
 have k_5 := HS.out.e5
 have k_6 := HS.out.e6
 have k_7 := HS.out.e7
 have k_8 := HS.out.e8
 have k_9 := HS.out.e9
 have k_10 := HS.out.e10
 have k_11 := HS.out.e11
 have k_f := HS.out.fz
 have k_l := HS.out.lt
 go_enter Tryz.func79, Tryz.ntmps79
 go_upto_region 0 with fail
 have hSc1 := And.intro k_0 k_2
 refine rO (fun w' => w'.cell? ⟨b, 0, none⟩ = some (.int .i64 s.w) ∧ w'.cell? ⟨b, 2, none⟩ = some (.int .i64 s.x)) [] [0,1,2,3,4,5,6,7,8,9,10] ?_
 iterate 11 (first | refine oW (h := ?_) | refine oL (hS := hSc1) (h := ?_))
 refine oD ?_
 obtain ⟨v1, hv1⟩ := eX (w.drew)
 have HBv1 : Hid (Below w.heap.size w v1) := zz (by rw [← hv1]; exact (Below.refl _ _).drew)
 rw [hv1]
 have hzv1 := HBv1.out.size
 have Hv1 := zz (HS.out.below HBv1.out)
 have HUv1 : Hid (Upd b 0 (0 + 12) (fun k => k = g ∨ k ∈ bO ah) w v1) := zz (Upd.refl'.below HBv1.out HS.out.lt)
 clear k_f k_l k_0 k_1 k_2 k_3 k_4 k_5 k_6 k_7 k_8 k_9 k_10 k_11 hv1 hSc1
 have k_0 := Hv1.out.e0
 have k_1 := Hv1.out.e1
 have k_2 := Hv1.out.e2
 have k_3 := Hv1.out.e3
 have k_4 := Hv1.out.e4
 have k_5 := Hv1.out.e5
 have k_6 := Hv1.out.e6
 have k_7 := Hv1.out.e7
 have k_8 := Hv1.out.e8
 have k_9 := Hv1.out.e9
 have k_10 := Hv1.out.e10
 have k_11 := Hv1.out.e11
 have k_f := Hv1.out.fz
 have k_l := Hv1.out.lt
 go_upto_if 14 with fail
 go_cut [] (fun wx => sR lo b 0 (wrapS s) g ah w wx)
 case first =>
  by_cases hxw : s.x = s.w
  ·have hxw' : ((s.x : Int) == (s.w : Int)) = true := by simp [hxw]
   have HX : Hid (SA lo b 0 { s with x := 0 } g cc ah dh (v1.setCell ⟨b, 2, none⟩ (.int .i64 0)) ∧ Upd b 0 (0 + 12) (fun k => k = g ∨ k ∈ bO ah) w (v1.setCell ⟨b, 2, none⟩ (.int .i64 0))) := zz ⟨Hv1.out.setv2 0 rfl, HUv1.out.set2 _⟩
   have hz : lo ≤ (v1.setCell ⟨b, 2, none⟩ (.int .i64 0)).heap.size := by have := HX.out.2.size; omega
   go_wp2_with fail
   refine (Zy7 lo b { s with x := 0 } g cc ah dh _ HX.out.1 (HOK.out.xy (x := 0) (y := s.y) (Nat.zero_le _) hy) hz).mono ?_
   rintro e x1 ⟨rfl, hr⟩
   have HR := zz hr
   clear hr
   go_wp2_with fail
   go_meet
   have e1 : wrapS s = downS { s with x := 0 } := if_pos hxw
   rw [e1]
   exact sR.trans HX.out.1 HX.out.2 (.inl rfl) (fun _ h => .inl h) HR.out
  ·have hxw' : ((s.x : Int) == (s.w : Int)) = false := beq_eq_false_iff_ne.2 (by omega)
   go_wp2_with fail
   go_meet
   have e1 : wrapS s = s := if_neg hxw
   rw [e1]
   exact .mk Hv1.out HUv1.out
 case rest =>
  have HW := zz hcut
  obtain ⟨s1, hs1⟩ := eX (wrapS s)
  obtain ⟨g1, cc1, ah1, dh1, ha, hu, hg, hh⟩ := hcut
  have hok := HOK.out.wrap
  rw [hs1] at ha hok
  have HA := zz ha
  have HUW := zz hu
  have HGG := zz hg
  have HHH := zz hh
  have HOK1 := zz hok.1
  have hx1 := hok.2
  have hpr : Zh5 s n = putS s1 n := by unfold Zh5; rw [hs1]
  have HPR := zz hpr
  have hw2' := hok.1.w2
  have hh2' := hok.1.h2
  have hy' := hok.1.hy
  have hcn := hok.1.cn
  have hlk := hok.1.lk
  have hcur : s1.y * s1.w + s1.x < s1.cells.length := by
   have h1 : (s1.y + 1) * s1.w ≤ s1.h * s1.w := Za2 hy'
   rw [Nat.succ_mul] at h1
   rw [hcn, Nat.mul_comm s1.w s1.h]
   omega
  have hn240 : s1.cells.length ≤ 240 := by rw [hcn]; exact Nat.mul_le_mul hw2' hh2'
  obtain ⟨p, hp⟩ := eX (s1.y * s1.w)
  have hpi : (s1.y : Int) * (s1.w : Int) = (p : Int) := by rw [← hp]; exact (Int.natCast_mul _ _).symm
  rw [hp] at hcur
  obtain ⟨i, hi⟩ := eX (p + s1.x)
  have hii : (p : Int) + (s1.x : Int) = (i : Int) := by omega
  rw [hi] at hcur
  have HI : Hid (s1.y * s1.w + s1.x = i) := zz (by rw [hp, hi])
  obtain ⟨n2, hn2⟩ := eX (s1.cells.length)
  have HCUR := zz hcur
  have hci := ha.cell hcur
  obtain ⟨e_1, e_2⟩ := hci
  have g_f := ha.gfz
  have g_l := ha.glt.2
  rw [hn2] at hcur hn240
  have HN2 := zz hn2
  have hwrp : IntKind.i64.wrap (p : Int) = (p : Int) := iIq _
  have hwri : IntKind.i64.wrap (i : Int) = (i : Int) := iIq _
  have hi0 : (0 : Int) ≤ (i : Int) := by omega
  have hin : (i : Int) < (n2 : Int) := by omega
  obtain ⟨w9, hw9⟩ : ∃ x, x = wc := ⟨_, rfl⟩
  subst hw9
  clear hs1 hok ha hu hg hh hpr hp hi hcn k_0 k_1 k_2 k_3 k_4 k_5 k_6 k_7 k_8 k_9 k_10 k_11 k_f k_l
  have k_0 := HA.out.e0
  have k_1 := HA.out.e1
  have k_2 := HA.out.e2
  have k_3 := HA.out.e3
  have k_4 := HA.out.e4
  have k_5 := HA.out.e5
  have k_6 := HA.out.e6
  have k_7 := HA.out.e7
  have k_8 := HA.out.e8
  have k_9 := HA.out.e9
  have k_10 := HA.out.e10
  have k_11 := HA.out.e11
  have k_f := HA.out.fz
  have k_l := HA.out.lt
  rw [hn2] at k_10
  clear hn2
  have HD : Hid (SA lo b 0 { s1 with cells := s1.cells.set i (n, (s1.look : Int)) } g1 cc1 ah1 dh1 ((w9.setCell ⟨g1, i * 2, none⟩ (.int .i64 n)).setCell ⟨g1, i * 2 + 1, none⟩ (.int .i64 s1.look)).drew ∧ Upd b 0 (0 + 12) (fun k => k = g1 ∨ k ∈ bO ah1) w9 ((w9.setCell ⟨g1, i * 2, none⟩ (.int .i64 n)).setCell ⟨g1, i * 2 + 1, none⟩ (.int .i64 s1.look)).drew) := zz (by
   have h1 := HA.out.setC HCUR.out (n, (s1.look : Int))
   have hc : Ch (· = g1) w9 ((w9.setCell ⟨g1, i * 2, none⟩ (.int .i64 n)).setCell ⟨g1, i * 2 + 1, none⟩ (.int .i64 s1.look)).drew := ((Ch.set1' _ g1 (i * 2) _).trans (Ch.set1' _ g1 (i * 2 + 1) _) (fun _ h => .inl h)).drew
   exact ⟨h1.drew, Upd.ofCh hc HA.out.lt (fun e => HA.out.gb e.symm) (fun _ hi => .inl (.inl hi))⟩)
  go_upto_region 3 with fail
  have hSc3 := And.intro k_0 (And.intro k_2 (And.intro k_3 (And.intro k_4 k_10)))
  refine rO (fun w' => w'.cell? ⟨b, 0, none⟩ = some (.int .i64 s1.w) ∧ w'.cell? ⟨b, 2, none⟩ = some (.int .i64 s1.x) ∧ w'.cell? ⟨b, 3, none⟩ = some (.int .i64 s1.y) ∧ w'.cell? ⟨b, 4, none⟩ = some (.int .i64 s1.look) ∧ w'.cell? ⟨b, 10, none⟩ = some (.slice (some ⟨g1, 0, none⟩) n2 cc1)) [30] [0,1,2,3,4,5,6,7,8,9,10,11,12,13,14,15,16,17,18,19,20,21,22,23,24,25,26,27,28,29,30] ?_
  iterate 30 (first | refine oW (h := ?_) | refine oL (hS := hSc3) (h := ?_))
  refine oO (hS := .inl rfl) (h := ?_)
  intro K' hK
  go_simp
  refine oN hK (hS := .inl rfl) (h := ?_)
  clear hK K'
  refine oD ?_
  obtain ⟨w10, hw10⟩ : ∃ x, ((w9.setCell ⟨g1, i * 2, none⟩ (.int .i64 n)).setCell ⟨g1, i * 2 + 1, none⟩ (.int .i64 s1.look)).drew = x := ⟨_, rfl⟩
  rw [hw10] at HD ⊢
  clear hw10 k_0 k_1 k_2 k_3 k_4 k_5 k_6 k_7 k_8 k_9 k_10 k_11 k_f k_l hSc3 e_1 e_2 g_f g_l
  have z_2 : w10.cell? ⟨b, 2, none⟩ = some (.int .i64 s1.x) := HD.out.1.c2
  have z_f := HD.out.1.fz
  have z_l := HD.out.1.lt
  go_wp2_with fail
  first | refine bodyPost_end (v := .tuple #[]) (by simp [results, Tryz.results79]) rfl ?_ | refine bodyPost_ret (v := .tuple #[]) (by simp [results, Tryz.results79]) rfl ?_
  rw [HPR.out]
  have hput : putS s1 n = { s1 with cells := s1.cells.set i (n, (s1.look : Int)), x := s1.x + 1 } := by unfold putS; rw [HI.out]
  rw [hput]
  have h2 : sR lo b 0 { s1 with cells := s1.cells.set i (n, (s1.look : Int)), x := s1.x + 1 } g1 ah1 w9 (w10.setCell ⟨b, 2, none⟩ (.int .i64 ((s1.x : Int) + 1))) := .mk (HD.out.1.setv2 (s1.x + 1) (by omega)) (HD.out.2.set2 _)
  exact ⟨rfl, sR.trans HA.out HUW.out HGG.out HHH.out h2⟩
end
section
theorem Yg8 (lo b : Nat) (s : Scr) (g cc : Nat) (ah : Option Addr) (dh : Nat) (w : World) (n : Int) (h : SA lo b 0 s g cc ah dh w) (ok : sK s) (hlo : lo ≤ w.heap.size) :
 Calls Tryz.prog 80 #[.pointer (some ⟨b, 0, none⟩), .int .i64 n] w fun e w' => e = .returned (.tuple #[]) ∧ sR lo b 0 (ctlS s n) g ah w w' := by
 have HS := zz h
 have HOK := zz ok
 have hw1 := ok.w1
 have hw2 := ok.w2
 have hh1 := ok.h1
 have hh2 := ok.h2
 have hx := ok.hx
 have hy := ok.hy
 clear h ok
 obtain ⟨x8, hx8⟩ := eX (s.x / 8)
 have hq8 : (s.x : Int).tdiv 8 = (x8 : Int) := by rw [Int.tdiv_eq_ediv_of_nonneg (by omega)]; omega
 have hq9 : (s.x : Int) / 8 = (x8 : Int) := by omega
 have HX8 := zz hx8
 have hx83 : x8 ≤ 3 := by omega
 clear hx8
 have hwr0 : IntKind.i64.wrap ((s.w : Int) - 1) = (s.w : Int) - 1 := iIq _
 have hwr1 : IntKind.i64.wrap (min (s.x : Int) ((s.w : Int) - 1)) = min (s.x : Int) ((s.w : Int) - 1) := iIq _
 have hwr2 : IntKind.i64.wrap (min (s.x : Int) ((s.w : Int) - 1) - 1) = min (s.x : Int) ((s.w : Int) - 1) - 1 := iIq _
 have hwr3 : IntKind.i64.wrap ((x8 : Int)) = (x8 : Int) := iIq _
 have hwr4 : IntKind.i64.wrap ((x8 : Int) + 1) = (x8 : Int) + 1 := iIq _
 have hwr5 : IntKind.i64.wrap (((x8 : Int) + 1) * 8) = ((x8 : Int) + 1) * 8 := iIq _
 have k_0 := HS.out.e0
 have k_1 := HS.out.e1
 have k_2 := HS.out.e2
 have k_3 := HS.out.e3
 have k_4 := HS.out.e4
 have k_5 := HS.out.e5
 have k_6 := HS.out.e6
 have k_7 := HS.out.e7
 have k_8 := HS.out.e8
 have k_9 := HS.out.e9
 have k_10 := HS.out.e10
 have k_11 := HS.out.e11
 have k_f := HS.out.fz
 have k_l := HS.out.lt
 by_cases h8 : n = 8
 ·subst h8
  go_enter Tryz.func80, Tryz.ntmps80
  go_upto_region 2 with fail
  have hSc1 := And.intro k_0 k_2
  refine rO (fun w' => w'.cell? ⟨b, 0, none⟩ = some (.int .i64 s.w) ∧ w'.cell? ⟨b, 2, none⟩ = some (.int .i64 s.x)) [18] [0,1,2,3,4,5,6,7,8,9,10,11,12,13,14,15,16,17,18] ?_
  iterate 18 (first | refine oW (h := ?_) | refine oL (hS := hSc1) (h := ?_))
  refine oO (hS := .inl rfl) (h := ?_)
  intro K' hK
  go_simp
  refine oN hK (hS := .inl rfl) (h := ?_)
  clear hK K'
  refine oD ?_
  go_wp2_with fail
  first | refine bodyPost_end (v := .tuple #[]) (by simp [results, Tryz.results80]) rfl ?_ | refine bodyPost_ret (v := .tuple #[]) (by simp [results, Tryz.results80]) rfl ?_
  refine ⟨rfl, ?_⟩
  unfold ctlS
  rw [if_pos rfl]
  refine sR.mk (cc := cc) (dh := dh) ?_ ?_
  ·repeat (with_reducible refine SA.drew ?_)
   exact HS.out.setv2 _ (by omega)
  ·repeat (with_reducible refine Upd.drew ?_)
   exact Upd.refl'.set2 _
 by_cases h9 : n = 9
 ·subst h9
  go_enter Tryz.func80, Tryz.ntmps80
  go_upto_region 4 with fail
  have hSc2 := And.intro k_0 k_2
  refine rO (fun w' => w'.cell? ⟨b, 0, none⟩ = some (.int .i64 s.w) ∧ w'.cell? ⟨b, 2, none⟩ = some (.int .i64 s.x)) [19] [0,1,2,3,4,5,6,7,8,9,10,11,12,13,14,15,16,17,18,19] ?_
  iterate 19 (first | refine oW (h := ?_) | refine oL (hS := hSc2) (h := ?_))
  refine oO (hS := .inl rfl) (h := ?_)
  intro K' hK
  go_simp
  refine oN hK (hS := .inl rfl) (h := ?_)
  clear hK K'
  refine oD ?_
  go_wp2_with fail
  first | refine bodyPost_end (v := .tuple #[]) (by simp [results, Tryz.results80]) rfl ?_ | refine bodyPost_ret (v := .tuple #[]) (by simp [results, Tryz.results80]) rfl ?_
  refine ⟨rfl, ?_⟩
  unfold ctlS
  rw [if_neg (by decide), if_pos rfl, HX8.out]
  refine sR.mk (cc := cc) (dh := dh) ?_ ?_
  ·repeat (with_reducible refine SA.drew ?_)
   exact HS.out.setv2 _ (by omega)
  ·repeat (with_reducible refine Upd.drew ?_)
   exact Upd.refl'.set2 _
 by_cases h10 : n = 10
 ·subst h10
  go_enter Tryz.func80, Tryz.ntmps80
  go_wp2_with fail
  refine (Zy7 lo b s g cc ah dh _ HS.out HOK.out (by first | omega | (have := Upd.refl'.size; omega))).mono ?_
  rintro e x1 ⟨rfl, hr⟩
  have HR : Hid (sR lo b 0 (downS s) g ah w x1) := zz (sR.trans HS.out Upd.refl' (.inl rfl) (fun _ h => .inl h) hr)
  clear hr
  go_wp2_with fail
  first | refine bodyPost_end (v := .tuple #[]) (by simp [results, Tryz.results80]) rfl ?_ | refine bodyPost_ret (v := .tuple #[]) (by simp [results, Tryz.results80]) rfl ?_
  refine ⟨rfl, ?_⟩
  unfold ctlS
  rw [if_neg (by decide), if_neg (by decide), if_pos rfl]
  exact HR.out
 by_cases h13 : n = 13
 ·subst h13
  go_enter Tryz.func80, Tryz.ntmps80
  go_wp2_with fail
  first | refine bodyPost_end (v := .tuple #[]) (by simp [results, Tryz.results80]) rfl ?_ | refine bodyPost_ret (v := .tuple #[]) (by simp [results, Tryz.results80]) rfl ?_
  refine ⟨rfl, ?_⟩
  unfold ctlS
  rw [if_neg (by decide), if_neg (by decide), if_neg (by decide), if_pos rfl]
  refine sR.mk (cc := cc) (dh := dh) ?_ ?_
  ·repeat (with_reducible refine SA.drew ?_)
   exact HS.out.setv2 _ (by omega)
  ·repeat (with_reducible refine Upd.drew ?_)
   exact Upd.refl'.set2 _
 have q8 : (n == 8) = false := beq_eq_false_iff_ne.2 h8
 have q9 : (n == 9) = false := beq_eq_false_iff_ne.2 h9
 have q10 : (n == 10) = false := beq_eq_false_iff_ne.2 h10
 have q13 : (n == 13) = false := beq_eq_false_iff_ne.2 h13
 go_enter Tryz.func80, Tryz.ntmps80
 go_wp2_with fail
 first | refine bodyPost_end (v := .tuple #[]) (by simp [results, Tryz.results80]) rfl ?_ | refine bodyPost_ret (v := .tuple #[]) (by simp [results, Tryz.results80]) rfl ?_
 refine ⟨rfl, ?_⟩
 unfold ctlS
 rw [if_neg h8, if_neg h9, if_neg h10, if_neg h13]
 exact .mk HS.out Upd.refl'
end
section
theorem Zi1 (lo b o : Nat) (s : Scr) (g cc : Nat) (ah : Option Addr) (dh : Nat) (w : World) (t bt n : Nat) (h : SA lo b o s g cc ah dh w) (ok : sK s) (htb : t ≤ bt) (hbt : bt < s.h) (hlo : lo ≤ w.heap.size) :
 Calls Tryz.prog 113 #[.pointer (some ⟨b, o, none⟩), .int .i64 t, .int .i64 bt, .int .i64 n] w fun e w' => e = .returned (.tuple #[]) ∧ sR lo b o (scD t bt (min n (bt - t + 1)) s) g ah w w' := by
 have HS := zz h
 have HOK := zz ok
 have hh2 := ok.h2
 obtain ⟨N, hN⟩ := eX (min n (bt - t + 1))
 have hmn : min (n : Int) ((bt : Int) - (t : Int) + 1) = (N : Int) := by omega
 have hw0 : IntKind.i64.wrap ((bt : Int) - (t : Int)) = (bt : Int) - (t : Int) := iIq _
 have hw1 : IntKind.i64.wrap ((bt : Int) - (t : Int) + 1) = (bt : Int) - (t : Int) + 1 := iIq _
 rw [hN]
 have hN10 : N ≤ 10 := by omega
 clear h ok hN
 go_enter Tryz.func113, Tryz.ntmps113
 go_wp2_with fail
 go_loopw [14] (fun iv wr => ∃ k : Nat, k ≤ N ∧ iv = .int .i64 k ∧ Hid (SA lo b o (scD t bt k s) g cc ah dh wr ∧ Upd b o (o + 12) (fun i => i = g ∨ i ∈ bO ah) w wr)) (fun iv _ => N - (intOf iv).toNat)
 case atStart => exact ⟨0, Nat.zero_le _, rfl, zz ⟨HS.out, Upd.refl⟩⟩
 case round =>
  obtain ⟨k, hk, rfl, HR⟩ := hrel
  obtain ⟨ha1, hu1⟩ := HR.out
  obtain ⟨s2, hs1⟩ := eX (scD t bt k s)
  obtain ⟨s9, hs9⟩ := eX (scD t bt (k + 1) s)
  have HK1 : Hid (scD1 t bt s2 = s9) := zz (by rw [← hs1, ← hs9]; rfl)
  have HS9 := zz hs9
  clear hs9
  have ok1 : sK s2 := by rw [← hs1]; exact HOK.out.okD htb hbt k
  have hbt1 : bt < s2.h := by rw [← hs1, (Zc2 t bt s k).2.1]; exact hbt
  have HS1 := zz hs1
  rw [hs1] at ha1
  have HA2 := zz ha1
  have HU1 := zz hu1
  have HOK1 := zz ok1
  have hz1 := hu1.size
  clear hu1 hs1 HR
  by_cases hlt : k < N
  ·have hlt' : (k : Int) < (N : Int) := by omega
   obtain ⟨w9, hw9⟩ : ∃ x, x = wr := ⟨_, rfl⟩
   subst hw9
   obtain ⟨wd, hwd⟩ := eX (s2.w)
   obtain ⟨n2, hn2⟩ := eX (s2.cells.length)
   have hn240 : n2 ≤ 240 := by rw [← hn2, ok1.cn]; exact Nat.mul_le_mul ok1.w2 ok1.h2
   have hbw : (bt + 1) * wd ≤ n2 := by rw [← hn2, ok1.cn, hwd, Nat.mul_comm]; exact Nat.mul_le_mul_left _ hbt1
   have htbw : t * wd ≤ bt * wd := Za2 htb
   have hn2c : n2 ≤ cc := by rw [← hn2]; exact ha1.capC
   obtain ⟨p, hp⟩ := eX (t * wd)
   obtain ⟨q, hq⟩ := eX (bt * wd)
   obtain ⟨r, hr⟩ : ∃ r, (bt + 1) * wd = r := ⟨_, rfl⟩
   obtain ⟨u, hu⟩ : ∃ r, (t + 1) * wd = r := ⟨_, rfl⟩
   have hrq : r = q + wd := by rw [← hr, ← hq]; exact Nat.succ_mul _ _
   have hup : u = p + wd := by rw [← hu, ← hp]; exact Nat.succ_mul _ _
   rw [hr] at hbw
   rw [hp, hq] at htbw
   have hwb : IntKind.i64.wrap ((bt : Int) + 1) = (bt : Int) + 1 := iIq _
   have hwt : IntKind.i64.wrap ((t : Int) + 1) = (t : Int) + 1 := iIq _
   have hd1 : IntKind.i64.wrap ((t : Int) * (wd : Int)) = (p : Int) := by rw [← Int.natCast_mul, hp]; exact iIq _
   have hd2 : IntKind.i64.wrap ((bt : Int) * (wd : Int)) = (q : Int) := by rw [← Int.natCast_mul, hq]; exact iIq _
   have hd3 : IntKind.i64.wrap (((bt : Int) + 1) * (wd : Int)) = (r : Int) := by
    rw [show ((bt : Int) + 1) * (wd : Int) = (r : Int) by rw [← hr]; exact (Int.natCast_mul (bt + 1) wd).symm]
    exact iIq _
   have hd4 : IntKind.i64.wrap (((t : Int) + 1) * (wd : Int)) = (u : Int) := by
    rw [show ((t : Int) + 1) * (wd : Int) = (u : Int) by rw [← hu]; exact (Int.natCast_mul (t + 1) wd).symm]
    exact iIq _
   have HUP : Hid (({ s2 with cells := splice (splice s2.cells u ((s2.cells.drop p).take (q - p))) p (bL wd) } : Scr) = s9) := zz (by
    rw [hup, spl_dn htbw (by rw [hn2]; omega), ← hrq]
    rw [← HK1.out]
    unfold scD1 dn1
    rw [← hp, ← hr, ← hq, ← Nat.sub_mul, hwd])
   have hwd24 : wd ≤ 24 := by rw [← hwd]; exact ok1.w2
   have hwd2 : 2 ≤ wd := by rw [← hwd]; exact ok1.w1
   have HWD := zz hwd
   have HN2 := zz hn2
   have HRQ := zz hrq
   have HUP2 := zz hup
   have z_0 : w9.cell? ⟨b, o, none⟩ = some (.int .i64 wd) := by rw [← hwd]; exact ha1.c0
   have z_10 : w9.cell? ⟨b, o + 10, none⟩ = some (.slice (some ⟨g, 0, none⟩) n2 cc) := by rw [← hn2]; exact ha1.c10
   have z_l := ha1.lt
   have g1 : q ≤ cc := by omega
   have g2 : u ≤ r := by omega
   have g3 : r ≤ cc := by omega
   have g4 : ¬ cc = p := by omega
   have g5 : ¬ cc = q := by omega
   have g6 : q ≤ r := by omega
   have g7 : p ≤ u := by omega
   have g8 : u ≤ cc := by omega
   have hys : ((s2.cells.drop p).take (q - p)).length = q - p := by simp only [List.length_take, List.length_drop, hn2]; omega
   have HYS := zz hys
   have HRW : Hid (Fr Za0 87 2 lo w9.heap.size (.slice (some ⟨g, 0, none⟩) n2 cc) s2.cells w9) := zz (by rw [← hn2]; exact ha1.row)
   have HYSL : Hid (Sl Za0 2 w9.drew (some ⟨g, p * 2, none⟩) ((s2.cells.drop p).take (q - p))) := zz (by
    have := Sl.sub ha1.sl.drew p (q - p) (by rw [hn2]; omega)
    rwa [Nat.zero_add] at this)
   clear ha1 ok1 hwd hn2 hp hq hr hu hrq hup hys
   go_upto_region 2 with fail
   refine rB [36] [0,1,2,3,4,5,6,7,8,9,10,11,12,13,14,15,16,17,18,19,20,21,22,23,24,25,26,27,28,29,30,31,32,33,34,35,36] ?_
   repeat (first | refine oW (h := ?_) | refine oL (h := ?_))
   refine oO (h := ?_)
   intro K' hK
   rw [if_pos (by rfl)]
   refine sCf (enc := Za0) (sz := 2) (.tmp 34) (.tmp 51) 23 23 87 Tryz.underlying23 (by kernel_rfl) (fun _ => rfl) Ze2 HRW.out.drew (off := u) ((s2.cells.drop p).take (q - p)) ?c1 ?c2 ?c3 rfl rfl rfl ?_
   case c1 =>
    rw [HYS.out, show r - u = q - p by have := HRQ.out; have := HUP2.out; omega]
    exact (Nat.min_self _).symm
   case c2 =>
    intro h
    rw [HYS.out] at h
    have h1 := HUP2.out
    have h2 := HRQ.out
    refine ⟨by first | rfl | rw [if_neg (by omega)], ?_⟩
    first | exact HYSL.out | exact HYSL.out h | (rw [if_neg (by omega)]; first | exact HYSL.out | exact HYSL.out h)
   case c3 =>
    have h1 := HUP2.out
    have h2 := HRQ.out
    rw [HYS.out, HN2.out]
    omega
   intro w10 hf10 hc10
   have HC10 : Hid (Ch (· = g) w9 w10) := zz ((Ch.refl.drew).trans hc10 (fun _ h => .inl h))
   obtain ⟨c3, hc3⟩ := eX (splice s2.cells u ((s2.cells.drop p).take (q - p)))
   have hl3 : c3.length = n2 := by
    have h1 := HUP2.out
    have h2 := HRQ.out
    rw [← hc3, length_splice _ _ _ (by rw [HYS.out, HN2.out]; omega), HN2.out]
   rw [hc3] at hf10 HUP
   have HL3 := zz hl3
   have HA10 : Hid (SA lo b o { s2 with cells := c3 } g cc ah dh w10) := zz (HA2.out.recell HC10.out HN2.out (hf10.mono (Nat.le_refl _) HC10.out.size) hl3)
   clear hf10 hc10 hc3 hl3
   refine oN hK (h := ?_)
   clear hK K'
   refine oD ?_
   have y_0 : w10.cell? ⟨b, o, none⟩ = some (.int .i64 wd) := by rw [← HWD.out]; exact HA10.out.c0
   have y_10 : w10.cell? ⟨b, o + 10, none⟩ = some (.slice (some ⟨g, 0, none⟩) n2 cc) := by rw [← HL3.out]; exact HA10.out.c10
   have y_l := HA10.out.lt
   clear z_0 z_10 z_l
   go_upto_region 3 with fail
   refine rB [23] [0,1,2,3,4,5,6,7,8,9,10,11,12,13,14,15,16,17,18,19,20,21,22,23] ?_
   repeat (first | refine oW (h := ?_) | refine oL (h := ?_))
   refine oO (h := ?_)
   intro K' hK
   go_simp
   refine (Zg1 wd (by omega) (by omega) _).mono ?_
   rintro e x1 ⟨v, rfl, hf, hb⟩
   obtain ⟨ab, cb, rfl, hcb, ho⟩ := id hf
   have hbx : Below w10.heap.size w10 x1 := ((Below.refl _ _).drew).trans hb
   have HBX := zz hbx
   have HYB : Hid (Sl Za0 2 x1 ab (bL wd)) := zz (Sl.of_own (fun _ => rfl) ho)
   have HAX := zz (HA10.out.below hbx)
   have HRX : Hid (Fr Za0 87 2 lo x1.heap.size (.slice (some ⟨g, 0, none⟩) n2 cc) c3 x1) := zz (by rw [← HL3.out]; exact HAX.out.row)
   clear hf hcb ho hb
   refine oN hK (h := ?_)
   clear hK K'
   refine oO (h := ?_)
   intro K' hK
   rw [if_pos (by rfl)]
   refine sCf (enc := Za0) (sz := 2) (.tmp 70) (.tmp 75) 23 23 87 Tryz.underlying23 (by kernel_rfl) (fun _ => rfl) Ze2 HRX.out (off := p) (bL wd) ?d1 ?d2 ?d3 rfl rfl rfl ?_
   case d1 =>
    have h1 : (bL wd).length = wd := by simp [bL]
    rw [h1, show u - p = wd by have := HRQ.out; have := HUP2.out; omega]
    exact (Nat.min_self _).symm
   case d2 =>
    intro h
    refine ⟨by first | rfl | rw [if_neg (by omega)], HYB.out⟩
   case d3 =>
    have h1 : (bL wd).length = wd := by simp [bL]
    have h2 := HRQ.out
    have h3 := HUP2.out
    rw [h1, HL3.out]
    omega
   intro w11 hf11 hc11
   have HC11 : Hid (Ch (· = g) w9 w11) := zz ((HC10.out.below1 hbx).trans hc11 (fun _ h => .inl h))
   have HA11 : Hid (SA lo b o s9 g cc ah dh w11) := zz (by
    rw [← HUP.out]
    have h1 : (bL wd).length = wd := by simp [bL]
    have h2 := HRQ.out
    have h3 := HUP2.out
    exact HAX.out.recell hc11 HL3.out (hf11.mono (Nat.le_refl _) hc11.size) (by rw [length_splice _ _ _ (by rw [h1, HL3.out]; omega), HL3.out]))
   clear hf11 hc11 hbx
   refine oN hK (h := ?_)
   clear hK K'
   refine oD ?_
   clear y_0 y_10 y_l
   go_wp2_with fail
   go_roundw
   case rel =>
    refine ⟨k + 1, by omega, by go_num, zz ⟨by rw [HS9.out]; exact HA11.out, ?_⟩⟩
    exact HU1.out.transN (N := fun i => i = g ∨ i ∈ bO ah) (Upd.ofCh (S := fun i => i = g ∨ i ∈ bO ah) HC11.out HA2.out.lt (fun e => HA2.out.gb e.symm) (fun i hi => .inl (.inl hi))) (fun i hi => .inl hi)
   case measure => simp [intOf]; omega
  ·obtain rfl : k = N := by omega
   go_wp2_with fail
   refine bodyPost_end (v := .tuple #[]) (by simp [results, Tryz.results113]) rfl ?_
   rw [HS1.out]
   exact ⟨rfl, g, cc, ah, dh, HA2.out, HU1.out, .inl rfl, fun _ hi => .inl hi⟩
theorem sR.src {lo b o : Nat} {s s2 : Scr} {g cc : Nat} {ah : Option Addr} {dh : Nat} {w w2 : World} (h : SA lo b o s g cc ah dh w) (k : sR lo b o s2 g ah w.drew w2) : sR lo b o s2 g ah w w2 :=
 sR.trans h.drew Upd.refl.drew (.inl rfl) (fun _ h => .inl h) k
theorem Zo4 (lo b o : Nat) (s : Scr) (g cc : Nat) (ah : Option Addr) (dh : Nat) (w : World) (h : SA lo b o s g cc ah dh w) (ok : sK s) (hlo : lo ≤ w.heap.size) :
 Calls Tryz.prog 73 #[.pointer (some ⟨b, o, none⟩)] w fun e w' => e = .returned (.tuple #[]) ∧ sR lo b o (downS s) g ah w w' := by
 have HS := zz h
 have HOK := zz ok
 have hw1 := ok.w1
 have hw2 := ok.w2
 have hh1 := ok.h1
 have hh2 := ok.h2
 have hx := ok.hx
 have hy := ok.hy
 clear ok
 have k_1 := h.c1
 have k_3 := h.c3
 have k_5 := h.c5
 have k_6 := h.c6
 have k_f := h.fz
 have k_l := h.lt
 have htb := HOK.out.tb
 have hbh := HOK.out.bh
 clear h
 by_cases hyb : s.y = s.bot
 ·have hyb' : ((s.y : Int) == (s.bot : Int)) = true := by rw [hyb]; simp
  have HYB := zz hyb
  clear hyb
  go_enter Tryz.func73, Tryz.ntmps73
  go_upto_region 0 with fail
  refine rB [] [0,1,2,3,4,5,6,7,8] ?_
  repeat (first | refine oW (h := ?_) | refine oL (h := ?_))
  refine oD ?_
  go_upto_region 1 with fail
  refine rB [9] [0,1,2,3,4,5,6,7,8,9] ?_
  repeat (first | refine oW (h := ?_) | refine oL (h := ?_))
  refine oO (h := ?_)
  intro K' hK
  go_simp
  refine (Zi5 lo b o s g cc ah dh _ s.top s.bot 1 true (HS.out.drew.drew) HOK.out (Nat.le_of_lt htb) hbh hlo).mono ?_
  rintro e x1 ⟨rfl, hr⟩
  rw [show min 1 (s.bot - s.top + 1) = 1 by omega] at hr
  have HR : Hid (sR lo b o (downS s) g ah w x1) := zz (sR.src HS.out (sR.src HS.out.drew (by rw [show downS s = scU true s.top s.bot 1 s from if_pos HYB.out]; exact hr)))
  clear hr
  refine oN hK (h := ?_)
  clear hK K'
  refine oD ?_
  go_wp2_with fail
  first | refine bodyPost_end (v := .tuple #[]) (by simp [results, Tryz.results73]) rfl ?_ | refine bodyPost_ret (v := .tuple #[]) (by simp [results, Tryz.results73]) rfl ?_
  exact ⟨rfl, HR.out⟩
 ·have hyb' : ((s.y : Int) == (s.bot : Int)) = false := by simp; omega
  have hr0 : IntKind.i64.wrap ((s.y : Int) + 1) = (s.y : Int) + 1 := iIq _
  have hr1 : IntKind.i64.wrap ((s.h : Int) - 1) = (s.h : Int) - 1 := iIq _
  have hr2 : min ((s.y : Int) + 1) ((s.h : Int) - 1) = ((min (s.h - 1) (s.y + 1) : Nat) : Int) := by omega
  go_enter Tryz.func73, Tryz.ntmps73
  go_upto_region 0 with fail
  refine rB [] [0,1,2,3,4,5,6,7,8] ?_
  repeat (first | refine oW (h := ?_) | refine oL (h := ?_))
  refine oD ?_
  go_upto_region 2 with fail
  refine rB [14] [0,1,2,3,4,5,6,7,8,9,10,11,12,13,14] ?_
  repeat (first | refine oW (h := ?_) | refine oL (h := ?_))
  refine oO (h := ?_)
  intro K' hK
  go_simp
  refine oN hK (h := ?_)
  clear hK K'
  refine oD ?_
  go_wp2_with fail
  first | refine bodyPost_end (v := .tuple #[]) (by simp [results, Tryz.results73]) rfl ?_ | refine bodyPost_ret (v := .tuple #[]) (by simp [results, Tryz.results73]) rfl ?_
  refine ⟨rfl, ?_⟩
  rw [show downS s = { s with y := min (s.h - 1) (s.y + 1) } from if_neg hyb]
  refine sR.mk (cc := cc) (dh := dh) ?_ ?_
  ·repeat (with_reducible refine SA.drew ?_)
   exact HS.out.setv3 _ rfl
  ·repeat (with_reducible refine Upd.drew ?_)
   exact Upd.refl'.set3 _
theorem iUp_c (lo b o : Nat) (s : Scr) (g cc : Nat) (ah : Option Addr) (dh : Nat) (w : World) (h : SA lo b o s g cc ah dh w) (ok : sK s) (hlo : lo ≤ w.heap.size) :
 Calls Tryz.prog 110 #[.pointer (some ⟨b, o, none⟩)] w fun e w' => e = .returned (.tuple #[]) ∧ sR lo b o (upS s) g ah w w' := by
 have HS := zz h
 have HOK := zz ok
 have hw1 := ok.w1
 have hw2 := ok.w2
 have hh1 := ok.h1
 have hh2 := ok.h2
 have hx := ok.hx
 have hy := ok.hy
 clear ok
 have k_1 := h.c1
 have k_3 := h.c3
 have k_5 := h.c5
 have k_6 := h.c6
 have k_f := h.fz
 have k_l := h.lt
 have htb := HOK.out.tb
 have hbh := HOK.out.bh
 clear h
 by_cases hyb : s.y = s.top
 ·have hyb' : ((s.y : Int) == (s.top : Int)) = true := by rw [hyb]; simp
  have HYB := zz hyb
  clear hyb
  go_enter Tryz.func110, Tryz.ntmps110
  go_upto_region 0 with fail
  refine rB [] [0,1,2,3,4,5,6,7,8] ?_
  repeat (first | refine oW (h := ?_) | refine oL (h := ?_))
  refine oD ?_
  go_upto_region 1 with fail
  refine rB [9] [0,1,2,3,4,5,6,7,8,9] ?_
  repeat (first | refine oW (h := ?_) | refine oL (h := ?_))
  refine oO (h := ?_)
  intro K' hK
  go_simp
  refine (Zi1 lo b o s g cc ah dh _ s.top s.bot 1 (HS.out.drew.drew) HOK.out (Nat.le_of_lt htb) hbh hlo).mono ?_
  rintro e x1 ⟨rfl, hr⟩
  rw [show min 1 (s.bot - s.top + 1) = 1 by omega] at hr
  have HR : Hid (sR lo b o (upS s) g ah w x1) := zz (sR.src HS.out (sR.src HS.out.drew (by rw [show upS s = scD s.top s.bot 1 s from if_pos HYB.out]; exact hr)))
  clear hr
  refine oN hK (h := ?_)
  clear hK K'
  refine oD ?_
  go_wp2_with fail
  first | refine bodyPost_end (v := .tuple #[]) (by simp [results, Tryz.results110]) rfl ?_ | refine bodyPost_ret (v := .tuple #[]) (by simp [results, Tryz.results110]) rfl ?_
  exact ⟨rfl, HR.out⟩
 ·have hyb' : ((s.y : Int) == (s.top : Int)) = false := by simp; omega
  have hr0 : IntKind.i64.wrap ((s.y : Int) - 1) = (s.y : Int) - 1 := iIq _
  have hr2 : max ((s.y : Int) - 1) 0 = ((s.y - 1 : Nat) : Int) := by omega
  go_enter Tryz.func110, Tryz.ntmps110
  go_upto_region 0 with fail
  refine rB [] [0,1,2,3,4,5,6,7,8] ?_
  repeat (first | refine oW (h := ?_) | refine oL (h := ?_))
  refine oD ?_
  go_wp2_with fail
  first | refine bodyPost_end (v := .tuple #[]) (by simp [results, Tryz.results110]) rfl ?_ | refine bodyPost_ret (v := .tuple #[]) (by simp [results, Tryz.results110]) rfl ?_
  refine ⟨rfl, ?_⟩
  rw [show upS s = { s with y := s.y - 1 } from if_neg hyb]
  refine sR.mk (cc := cc) (dh := dh) ?_ ?_
  ·repeat (with_reducible refine SA.drew ?_)
   exact HS.out.setv3 _ rfl
  ·repeat (with_reducible refine Upd.drew ?_)
   exact Upd.refl'.set3 _
end
end Go.Proofs.YtjmpgeffkdjpdaaGreatDoor
