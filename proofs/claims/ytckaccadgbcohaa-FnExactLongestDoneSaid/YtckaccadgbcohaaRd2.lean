/- Fields read from bytes: spec.l02Read. No conditions but sizes. -/
import Derived.Test.YtckaccadgbcohaaRd
namespace Go.Proofs.Ytckaccadgbcohaa
set_option linter.unusedVariables false
set_option linter.unusedSimpArgs false
open Go.RowKit
def ReadS (o : Option (List ByteArray)) (w : World) (e : Ending) (w' : World) : Prop :=
  ∃ a c L, e = .returned (.tuple #[.slice a L.length c, .bool o.isSome]) ∧ Fresh strE 9 1 w.heap.size (.slice a L.length c) L w' ∧ (∀ L', o = some L' → L = L') ∧ Below w.heap.size w w'
theorem fresh_made (w : World) (B : Nat) (hB : B ≤ w.heap.size) : Fresh strE 9 1 B (.slice (some ⟨w.heap.size, 0, none⟩) 0 0) [] (w.alloc (.cells #[] 9)) :=
  Fresh.of_own (World.ownsRow_made (base := B) w #[] 0 hB (by decide) rfl) rfl rfl
theorem ReadS.none {w w' : World} {o : Option (List ByteArray)} (ho : o = none) (hb : Below w.heap.size w w') : ReadS o w (.returned (.tuple #[.slice (some ⟨w'.heap.size, 0, Option.none⟩) 0 0, .bool false])) (w'.alloc (.cells #[] 9)) := by
  subst ho
  exact ⟨some ⟨w'.heap.size, 0, Option.none⟩, 0, [], rfl, fresh_made w' _ hb.size, (fun _ h => by cases h), hb.alloc hb.size _⟩
set_option maxRecDepth 100000 in
set_option maxHeartbeats 8000000 in
theorem l02Read_c (l0 : List UInt8) (w : World) (hs : l0.length ≤ 1048576) :
    Calls Try.prog 95 #[.string (strOf l0)] w (ReadS (rdAll l0) w) := by
  obtain ⟨i0, hi, hz0, hz1, hz2⟩ := info_parts Try.infoString
  have hss : (strOf l0).size ≤ 1048576 := hs
  cases l0 with
  | nil =>
    have e1 : (strOf ([] : List UInt8)).toList = [] := strOf_toL _
    go_enter Try.func95, Try.ntmps95
    go_wp2_with fail
    go_ret2
    exact ReadS.none rfl (Below.refl _ _)
  | cons c r =>
    have e1 : ((strOf (c :: r)).toList == []) = false := by rw [strOf_toL]; rfl
    have hsz0 : 0 < (strOf (c :: r)).size := by rw [strOf_size]; simp
    have hc0 : ((strOf (c :: r))[0]'hsz0).toNat = c.toNat := rfl
    have hsz1 : (strOf (c :: r)).size = r.length + 1 := by rw [strOf_size]; simp
    have HSZ := Lib.hid hsz1
    have hex := fun k m => extract_mid (c :: r) (1 + k) m
    have HEX := Lib.hid hex
    have hrl : r.length ≤ 1048576 := by simp at hs; omega
    by_cases h60 : 60 < c.toNat
    · have hro : rdAll (c :: r) = none := by rw [rdAll, if_pos h60]
      have HRO := Lib.hid hro
      have h60' : (60 : Int) < (c.toNat : Int) := by omega
      clear hro hex hsz1
      generalize strOf (c :: r) = S at *
      go_enter Try.func95, Try.ntmps95
      go_wp2_with fail
      go_ret2
      exact ReadS.none HRO.out (Below.refl _ _)
    · have hro : rdAll (c :: r) = rdF c.toNat r := by rw [rdAll, if_neg h60]
      have HRO := Lib.hid hro
      have h60' : (c.toNat : Int) ≤ 60 := by omega
      have hsl1 : (strOf (c :: r)).size ≤ r.length + 1 := by omega
      have hsl2 : r.length + 1 ≤ (strOf (c :: r)).size := by omega
      rw [hro]
      clear hro hex h60 hs hsz1
      have HDR : Hid (∀ k, (c :: r).drop (1 + k) = r.drop k) := fun k => by rw [Nat.add_comm, List.drop_succ_cons]
      generalize strOf (c :: r) = S at *
      generalize hcn : c.toNat = cn at *
      have HCN := Lib.hid hcn
      clear hcn
      go_enter Try.func95, Try.ntmps95
      go_wp2_with fail
      go_loopw [4, 5, 6] (fun v p i wr => ∃ (n k : Nat) (av : Option Addr) (cv : Nat) (L : List ByteArray), n ≤ cn ∧ k ≤ r.length ∧ Hid (L.length + n = cn) ∧ i = .int .i64 n ∧ p = .int .i64 ((1 + k : Nat)) ∧ v = .slice av L.length cv ∧ Hid ((rdF n (r.drop k)).map (L ++ ·) = rdF cn r) ∧ Fresh strE 9 1 w.heap.size (.slice av L.length cv) L wr ∧ Below w.heap.size w wr) (fun _ _ i _ => (intOf i).toNat)
      case atStart => exact ⟨cn, 0, _, _, [], by omega, by omega, by show _ = _; simp, rfl, rfl, rfl, by show _ = _; simp, fresh_made w _ (Nat.le_refl _), (by repeat (first | exact Below.refl _ _ | (refine Below.alloc ?_ (by (try simp) <;> (try omega)) _) | (refine Below.setCell ?_ (by (try simp) <;> (try omega)) _) | (refine Below.drew ?_) | (refine Below.trans ?_ (Below.mono (by assumption) (by (try simp) <;> (try omega))))))⟩
      case round =>
        obtain ⟨n, k, av, cv, L, hn, hk, hLn, rfl, rfl, rfl, hT, hf, hbel⟩ := hrel
        have HF := Lib.hid hf.here
        have HBW := Lib.hid hbel
        have hz := hbel.size
        have hLl : L.length ≤ cn := by have := hLn.out; omega
        have hcn60 : cn ≤ 60 := by omega
        have hdl : (r.drop k).length = r.length - k := by simp
        have HDL := Lib.hid hdl
        clear hf hbel hdl
        by_cases hn0 : 0 < n
        · obtain ⟨m, rfl⟩ : ∃ m, n = m + 1 := ⟨n - 1, by omega⟩
          by_cases g1 : r.length < k + 2
          · have hr : rdF cn r = none := by rw [← hT.out, rdF_short (by rw [HDL.out]; omega)]; rfl
            have HR := Lib.hid hr
            clear hr
            go_wp2_with fail
            go_ret2
            exact ReadS.none HR.out HBW.out
          · have hb2 : bn ((r.drop k).take 2) < 65536 := Nat.lt_of_lt_of_le (bn_lt _) (by
              have : ((r.drop k).take 2).length ≤ 2 := by simp; omega
              exact Nat.le_trans (Nat.pow_le_pow_right (by omega) this) (by decide))
            have hx2 : (S.extract (1 + k) (1 + k + 2)).size ≤ 5 := by rw [HEX.out, strOf_size, HDR.out]; simp; omega
            go_wp2_with fail
            refine (l02Of_c (S.extract (1 + k) (1 + k + 2)) _ hx2).mono ?_
            rw [HEX.out, strOf_toList, HDR.out]
            rintro e w2 ⟨rfl, rfl⟩
            have hle : 2 ≤ (r.drop k).length := by rw [HDL.out]; omega
            have HA := fun h => Lib.hid (rdF_succ (n := m) (l := r.drop k) hle h)
            have HB := fun h => Lib.hid (rdF_big (n := m) (l := r.drop k) hle h)
            have HC := fun h => Lib.hid (rdF_cut (n := m) (l := r.drop k) hle h)
            generalize bn ((r.drop k).take 2) = B at *
            clear hle
            by_cases g2 : 20000 < B
            · have hr : rdF cn r = none := by rw [← hT.out, (HB g2).out]; rfl
              have HR := Lib.hid hr
              clear hr HA HB HC
              go_wp2_with fail
              go_ret2
              exact ReadS.none HR.out HBW.out
            · by_cases g3 : r.length < k + 2 + B
              · have hr : rdF cn r = none := by rw [← hT.out, (HC (by rw [HDL.out]; omega)).out]; rfl
                have HR := Lib.hid hr
                clear hr HA HB HC
                go_wp2_with fail
                go_ret2
                exact ReadS.none HR.out HBW.out
              · have HA2 := Lib.hid ((HA (by omega)).out (by rw [HDL.out]; omega))
                clear HA HB HC
                go_wp2_with (first
                  | (skip
                     at_builtin
                     refine wpList_append_fresh rfl (.tmp 48) (.tmp 57) 25 25 rfl (w.heap.size) (wr.heap.size) 9 i0 (.string ⟨#[]⟩) 1 16 Try.underlying25 hi hz0 hz1 hz2 rfl (by decide) (.slice av L.length cv) (L) rfl (HF.out.alloc _) _ ([S.extract (1 + k + 2) (1 + k + 2 + B)]) rfl (Src.ofBox (enc := strE) (w := wr) Try.underlying25 (fun _ => rfl) strOne (S.extract (1 + k + 2) (1 + k + 2 + B)) #[.string (S.extract (1 + k + 2) (1 + k + 2 + B))] 9 rfl wr.heap.size rfl) (by (try simp) <;> (try omega)) (by (try simp) <;> (try omega)) ?_
                     intro a2 c2 w2 L2 hL2 hf2 hm2
                     skip))
                go_roundw
                case rel =>
                  refine ⟨m, k + (2 + B), a2, c2, L2, by omega, by omega, by show _ = _; rw [hL2.out]; have := hLn.out; simp; omega, by go_num, by go_num, rfl, ?_, hf2.1, ?_⟩
                  · show _ = _
                    rw [← hT.out, HA2.out, hL2.out, Option.map_map, List.drop_drop, show 1 + k + 2 = 1 + (k + 2) by omega, HEX.out, HDR.out, List.drop_drop]
                    congr 1
                    funext x
                    simp
                  · exact (HBW.out.alloc hz _).trans (hm2.below (Nat.le_refl _) (by simp; omega))
                case measure => simp [intOf]
        · obtain rfl : n = 0 := by omega
          by_cases hkr : k = r.length
          · have hr : rdF cn r = some L := by rw [← hT.out, rdF, if_pos (by rw [hkr, List.drop_length])]; simp
            have HR := Lib.hid hr
            have g4 : ((1 + k : Nat) : Int) = (S.size : Int) := by omega
            have G4 : (((1 : Int) + (k : Int)) != (S.size : Int)) = false := by simp; omega
            clear hr g4
            have HKR := Lib.hid hkr
            clear hkr
            go_wp2_with fail
            go_ret2
            rw [HR.out]
            exact ⟨_, _, L, rfl, HF.out.1, (fun L' h => by cases h; rfl), HBW.out⟩
          · have hr : rdF cn r = none := by
              rw [← hT.out, rdF, if_neg (by intro h; have := congrArg List.length h; simp at this; omega)]; rfl
            have HR := Lib.hid hr
            have G4 : (((1 : Int) + (k : Int)) != (S.size : Int)) = true := by simp; omega
            clear hr
            go_wp2_with fail
            go_ret2
            exact ReadS.none HR.out HBW.out
end Go.Proofs.Ytckaccadgbcohaa
