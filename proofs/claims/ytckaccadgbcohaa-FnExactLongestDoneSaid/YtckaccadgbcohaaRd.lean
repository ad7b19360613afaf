/- Fields and numbers read from bytes: impl.readFields, impl.readNumbers, impl.someNumbers. No conditions but sizes. -/
import Derived.Test.YtckaccadgbcohaaFld2
import Derived.Test.YtckaccadgbcohaaCut2
namespace Go.Proofs.Ytckaccadgbcohaa
set_option linter.unusedVariables false
set_option linter.unusedSimpArgs false
open Go.RowKit
def rdF : Nat → List UInt8 → Option (List ByteArray)
  | 0, l => if l = [] then some [] else none
  | n + 1, l => if l.length < 2 then none else if 20000 < bn (l.take 2) then none else if l.length < 2 + bn (l.take 2) then none
    else (rdF n (l.drop (2 + bn (l.take 2)))).map (strOf ((l.drop 2).take (bn (l.take 2))) :: ·)
def rdAll : List UInt8 → Option (List ByteArray)
  | [] => none
  | c :: r => if 60 < c.toNat then none else rdF c.toNat r
def ReadR (o : Option (List ByteArray)) (w : World) (e : Ending) (w' : World) : Prop :=
  ∃ a c L, e = .returned (.tuple #[.slice a L.length c, .bool o.isSome]) ∧ Fresh strE 9 1 w.heap.size (.slice a L.length c) L w' ∧ (∀ L', o = some L' → L = L') ∧ Below w.heap.size w w'
theorem extract_mid (l : List UInt8) (i m : Nat) : (strOf l).extract i (i + m) = strOf ((l.drop i).take m) := by
  apply ByteArray.ext
  apply Array.toList_inj.1
  rw [Lib.extract_data, Nat.add_sub_cancel_left]
  rfl
theorem rdF_succ {n : Nat} {l : List UInt8} (h1 : 2 ≤ l.length) (h2 : bn (l.take 2) ≤ 20000) (h3 : 2 + bn (l.take 2) ≤ l.length) : rdF (n + 1) l = (rdF n (l.drop (2 + bn (l.take 2)))).map (strOf ((l.drop 2).take (bn (l.take 2))) :: ·) := by
  rw [rdF, if_neg (by omega), if_neg (by omega), if_neg (by omega)]
theorem rdF_short {n : Nat} {l : List UInt8} (h1 : l.length < 2) : rdF (n + 1) l = none := by rw [rdF, if_pos h1]
theorem rdF_big {n : Nat} {l : List UInt8} (h1 : 2 ≤ l.length) (h : 20000 < bn (l.take 2)) : rdF (n + 1) l = none := by rw [rdF, if_neg (by omega), if_pos h]
theorem rdF_cut {n : Nat} {l : List UInt8} (h1 : 2 ≤ l.length) (h : l.length < 2 + bn (l.take 2)) : rdF (n + 1) l = none := by
  rw [rdF, if_neg (by omega)]
  split
  · rfl
  · rfl
theorem ReadR.none {w w' : World} {o : Option (List ByteArray)} (ho : o = none) (hb : Below w.heap.size w w') : ReadR o w (.returned (.tuple #[.slice none 0 0, .bool false])) w' := by
  subst ho
  exact ⟨Option.none, 0, [], rfl, (FreshIn.nil _ _ _ _ 0 _).1, (fun _ h => by cases h), hb⟩
set_option maxRecDepth 100000 in
set_option maxHeartbeats 8000000 in
theorem readFields_c (l0 : List UInt8) (w : World) (hs : l0.length ≤ 65536) :
    Calls Try.prog 113 #[.string (strOf l0)] w (ReadR (rdAll l0) w) := by
  obtain ⟨i0, hi, hz0, hz1, hz2⟩ := info_parts Try.infoString
  have hss : (strOf l0).size ≤ 65536 := hs
  cases l0 with
  | nil =>
    have e1 : (strOf ([] : List UInt8)).toList = [] := strOf_toL _
    go_enter Try.func113, Try.ntmps113
    go_wp2_with fail
    go_ret2
    exact ReadR.none rfl (Below.refl _ _)
  | cons c r =>
    have e1 : ((strOf (c :: r)).toList == []) = false := by rw [strOf_toL]; rfl
    have hsz0 : 0 < (strOf (c :: r)).size := by rw [strOf_size]; simp
    have hc0 : ((strOf (c :: r))[0]'hsz0).toNat = c.toNat := rfl
    have hex : (strOf (c :: r)).extract 1 (strOf (c :: r)).size = strOf r := by rw [extract_drop]; rfl
    have HEX := Lib.hid hex
    have hrl : r.length ≤ 65536 := by simp at hs; omega
    by_cases h60 : 60 < c.toNat
    · have hro : rdAll (c :: r) = none := by rw [rdAll, if_pos h60]
      have HRO := Lib.hid hro
      have h60' : (60 : Int) < (c.toNat : Int) := by omega
      clear hro hex
      generalize strOf (c :: r) = S at *
      go_enter Try.func113, Try.ntmps113
      go_wp2_with fail
      go_ret2
      exact ReadR.none HRO.out (Below.refl _ _)
    · have hro : rdAll (c :: r) = rdF c.toNat r := by rw [rdAll, if_neg h60]
      have HRO := Lib.hid hro
      have h60' : (c.toNat : Int) ≤ 60 := by omega
      have h65 : (((strOf (c :: r)).size : Nat) : Int) ≤ 65536 := by omega
      rw [hro]
      clear hro hex h60 hs
      generalize strOf (c :: r) = S at *
      generalize hcn : c.toNat = cn at *
      have HCN := Lib.hid hcn
      clear hcn
      go_enter Try.func113, Try.ntmps113
      go_wp2_with fail
      go_loopw [4, 5, 23] (fun v s i wr => ∃ (j n : Nat) (l : List UInt8) (av : Option Addr) (cv : Nat) (L : List ByteArray), Hid (j + n = cn) ∧ j ≤ cn ∧ l.length ≤ 65536 ∧ L.length ≤ j ∧ i = .int .u8 j ∧ s = .string (strOf l) ∧ v = .slice av L.length cv ∧ Hid ((rdF n l).map (L ++ ·) = rdF cn r) ∧ Fresh strE 9 1 w.heap.size (.slice av L.length cv) L wr ∧ Below w.heap.size w wr) (fun _ _ i _ => cn - (intOf i).toNat)
      case atStart => exact ⟨0, cn, r, none, 0, [], by show _ = _; omega, by omega, hrl, by simp, rfl, by rw [HEX.out], rfl, by show _ = _; simp, (FreshIn.nil _ _ _ _ 0 _).1, Below.refl _ _⟩
      case round =>
        obtain ⟨j, n, l, av, cv, L, hjn, hj, hl, hLj, rfl, rfl, rfl, hT, hf, hbel⟩ := hrel
        have HF := Lib.hid hf.here
        have HBW := Lib.hid hbel
        have hz := hbel.size
        have hsl : (strOf l).size ≤ 65536 := hl
        have HSL : Hid ((strOf l).size = l.length) := rfl
        clear hf hbel
        by_cases hjc : j < cn
        · obtain ⟨m, rfl⟩ : ∃ m, n = m + 1 := ⟨n - 1, by have := hjn.out; omega⟩
          by_cases g1 : l.length < 2
          · have g1' : (strOf l).size < 2 := g1
            have hr : rdF cn r = none := by rw [← hT.out, rdF_short g1]; rfl
            have HR := Lib.hid hr
            clear hr
            go_wp2_with fail
            go_ret2
            exact ReadR.none HR.out HBW.out
          · have g1' : 2 ≤ (strOf l).size := by rw [HSL.out]; omega
            have hb2 : bn (l.take 2) < 65536 := Nat.lt_of_lt_of_le (bn_lt _) (by
              have : (l.take 2).length ≤ 2 := by simp; omega
              exact Nat.le_trans (Nat.pow_le_pow_right (by omega) this) (by decide))
            have hx2 : ((strOf l).extract 0 2).size ≤ 5 := by rw [extract_take, strOf_size]; simp; omega
            go_wp2_with fail
            refine (bigNumber_c ((strOf l).extract 0 2) _ hx2).mono ?_
            rw [extract_take, strOf_toList]
            rintro e w2 ⟨rfl, rfl⟩
            have HA := fun h => Lib.hid (rdF_succ (n := m) (l := l) (by omega) h)
            have HB := fun h => Lib.hid (rdF_big (n := m) (l := l) (by omega) h)
            have HC := fun h => Lib.hid (rdF_cut (n := m) (l := l) (by omega) h)
            generalize bn (l.take 2) = B at *
            by_cases g2 : 20000 < B
            · have hr : rdF cn r = none := by rw [← hT.out, (HB g2).out]; rfl
              have HR := Lib.hid hr
              clear hr HA HB HC
              go_wp2_with fail
              go_ret2
              exact ReadR.none HR.out HBW.out
            · by_cases g3 : l.length < 2 + B
              · have g3' : (strOf l).size < 2 + B := g3
                have hr : rdF cn r = none := by rw [← hT.out, (HC g3).out]; rfl
                have HR := Lib.hid hr
                clear hr HA HB HC
                go_wp2_with fail
                go_ret2
                exact ReadR.none HR.out HBW.out
              · have g3' : 2 + B ≤ (strOf l).size := by rw [HSL.out]; omega
                have HA2 := Lib.hid ((HA (by omega)).out (by omega))
                have hxm : (strOf l).extract 2 (2 + B) = strOf ((l.drop 2).take B) := extract_mid l 2 B
                have hxd : (strOf l).extract (2 + B) (strOf l).size = strOf (l.drop (2 + B)) := extract_drop l (2 + B)
                have HXD := Lib.hid hxd
                have HXM := Lib.hid hxm
                clear hxm hxd HA HB HC
                go_wp2_with (first
                  | (skip
                     at_builtin
                     refine wpList_append_fresh rfl (.tmp 40) (.tmp 45) 25 25 rfl (w.heap.size) (wr.heap.size) 9 i0 (.string ⟨#[]⟩) 1 16 Try.underlying25 hi hz0 hz1 hz2 rfl (by decide) (.slice av L.length cv) (L) rfl (HF.out.alloc _) _ ([(strOf l).extract 2 (2 + B)]) rfl (Src.ofBox (enc := strE) (w := wr) Try.underlying25 (fun _ => rfl) strOne ((strOf l).extract 2 (2 + B)) #[.string ((strOf l).extract 2 (2 + B))] 9 rfl wr.heap.size rfl) (by (try simp) <;> (try omega)) (by (try simp) <;> (try omega)) ?_
                     intro a2 c2 w2 L2 hL2 hf2 hm2
                     skip))
                go_roundw
                case rel =>
                  refine ⟨j + 1, m, l.drop (2 + B), a2, c2, L2, by show _ = _; have := hjn.out; omega, by omega, by simp; omega, by rw [hL2.out]; simp; omega, by go_num, by rw [← HXD.out], rfl, ?_, hf2.1, ?_⟩
                  · show _ = _
                    rw [← hT.out, HA2.out, hL2.out, HXM.out, Option.map_map]
                    congr 1
                    funext x
                    simp
                  · exact (HBW.out.alloc hz _).trans (hm2.below (Nat.le_refl _) (by simp; omega))
                case measure => simp [intOf]; omega
        · obtain rfl : n = 0 := by have := hjn.out; omega
          obtain rfl : j = cn := by have := hjn.out; omega
          by_cases hnil : l = []
          · have e2 : ((strOf l).toList == []) = true := by rw [strOf_toL, hnil]; rfl
            have e3 : (strOf l).toList = [] := by rw [strOf_toL, hnil]
            have hr : rdF j r = some L := by rw [← hT.out, rdF, if_pos hnil]; simp
            have HR := Lib.hid hr
            clear hr hnil
            go_wp2_with fail
            go_ret2
            rw [HR.out]
            exact ⟨_, _, L, rfl, HF.out.1, (fun L' h => by cases h; rfl), HBW.out⟩
          · have e2 : ((strOf l).toList == []) = false := by rw [strOf_toL]; simpa using hnil
            have hr : rdF j r = none := by rw [← hT.out, rdF, if_neg hnil]; rfl
            have HR := Lib.hid hr
            clear hr hnil
            go_wp2_with fail
            go_ret2
            rw [HR.out]
            exact ⟨_, _, L, rfl, HF.out.1, (fun L' h => by cases h), HBW.out⟩
end Go.Proofs.Ytckaccadgbcohaa
