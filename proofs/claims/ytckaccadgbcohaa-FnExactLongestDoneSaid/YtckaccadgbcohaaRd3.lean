/- Numbers read from bytes. No conditions but sizes. -/
import Derived.Test.YtckaccadgbcohaaRd2
namespace Go.Proofs.Ytckaccadgbcohaa
set_option linter.unusedVariables false
set_option linter.unusedSimpArgs false
open Go.RowKit
def rnF : Nat → List UInt8 → List Int
  | 0, _ => []
  | n + 1, l => ((bn (l.take 3) : Int) - 1) :: rnF n (l.drop 3)
theorem rnF_length : ∀ (n : Nat) (l : List UInt8), (rnF n l).length = n
  | 0, _ => rfl
  | n + 1, l => by simp [rnF, rnF_length n]
def IntsR (L : List Int) (w : World) (e : Ending) (w' : World) : Prop :=
  ∃ a c, e = .returned (.slice a L.length c) ∧ Fresh intE 3 1 w.heap.size (.slice a L.length c) L w' ∧ Below w.heap.size w w'
theorem bn3 (l : List UInt8) : bn (l.take 3) < 16777216 := Nat.lt_of_lt_of_le (bn_lt _) (by
  have : (l.take 3).length ≤ 3 := by simp; omega
  exact Nat.le_trans (Nat.pow_le_pow_right (by omega) this) (by decide))
set_option maxRecDepth 100000 in
set_option maxHeartbeats 4000000 in
theorem readNumbers_c (l0 : List UInt8) (N : Nat) (w : World) (hN : l0.length = 3 * N) (hs : N ≤ 1048576) :
    Calls Try.prog 119 #[.string (strOf l0)] w (IntsR (rnF N l0) w) := by
  obtain ⟨i0, hi, hz0, hz1, hz2⟩ := info_parts Try.infoInt
  go_enter Try.func119, Try.ntmps119
  go_wp2_with fail
  go_loopw [0, 3] (fun s v wr => ∃ (n : Nat) (l : List UInt8) (av : Option Addr) (cv : Nat) (L : List Int), n ≤ N ∧ Hid (l.length = 3 * n) ∧ Hid (L.length + n = N) ∧ s = .string (strOf l) ∧ v = .slice av L.length cv ∧ Hid (L ++ rnF n l = rnF N l0) ∧ Fresh intE 3 1 w.heap.size (.slice av L.length cv) L wr ∧ Below w.heap.size w wr) (fun s _ _ => lenOf s)
  case atStart => exact ⟨N, l0, none, 0, [], Nat.le_refl _, hN, by show _ = _; simp, rfl, rfl, rfl, (FreshIn.nil _ _ _ _ 0 _).1, Below.refl _ _⟩
  case round =>
    obtain ⟨n, l, av, cv, L, hn, hl, hLn, rfl, rfl, hT, hf, hbel⟩ := hrel
    have HF := Lib.hid hf.here
    have HBW := Lib.hid hbel
    have hz := hbel.size
    have hLl : L.length ≤ N := by have := hLn.out; omega
    have hsl : (strOf l).size ≤ 3145728 := by rw [strOf_size]; have := hl.out; omega
    clear hf hbel
    by_cases hn0 : 0 < n
    · obtain ⟨m, rfl⟩ : ∃ m, n = m + 1 := ⟨n - 1, by omega⟩
      have g1 : 3 ≤ (strOf l).size := by rw [strOf_size]; have := hl.out; omega
      have hb3 := bn3 l
      have hx3 : ((strOf l).extract 0 3).size ≤ 5 := by rw [extract_take, strOf_size]; simp; omega
      go_wp2_with fail
      refine (bigNumber_c ((strOf l).extract 0 3) _ hx3).mono ?_
      rw [extract_take, strOf_toList]
      rintro e w2 ⟨rfl, rfl⟩
      have HA : Hid (rnF (m + 1) l = ((bn (l.take 3) : Int) - 1) :: rnF m (l.drop 3)) := rfl
      have hxd : (strOf l).extract 3 (strOf l).size = strOf (l.drop 3) := extract_drop l 3
      have HXD := Lib.hid hxd
      generalize bn (l.take 3) = B at *
      clear hxd
      go_wp2_with (first
        | (skip
           at_builtin
           refine wpList_append_fresh rfl (.tmp 9) (.tmp 14) 52 52 rfl (w.heap.size) (wr.heap.size) 3 i0 (.int .i64 0) 1 8 Try.underlying52 hi hz0 hz1 hz2 rfl (by decide) (.slice av L.length cv) (L) rfl (HF.out.alloc _) _ ([(B : Int) - 1]) rfl (Src.ofBox (enc := intE) (w := wr) Try.underlying52 (fun _ => rfl) intOne ((B : Int) - 1) #[.int .i64 ((B : Int) - 1)] 3 rfl wr.heap.size rfl) (by (try simp) <;> (try omega)) (by (try simp) <;> (try omega)) ?_
           intro a2 c2 w2 L2 hL2 hf2 hm2
           skip))
      go_roundw
      case rel =>
        refine ⟨m, l.drop 3, a2, c2, L2, by omega, by show _ = _; have := hl.out; simp; omega, by show _ = _; rw [hL2.out]; have := hLn.out; simp; omega, by rw [← HXD.out], rfl, ?_, hf2.1, ?_⟩
        · show _ = _
          rw [hL2.out, ← hT.out, HA.out, List.append_assoc]
          rfl
        · exact (HBW.out.alloc hz _).trans (hm2.below (Nat.le_refl _) (by simp; omega))
      case measure => simp [lenOf, strOf_size]; have := hl.out; omega
    · obtain rfl : n = 0 := by omega
      have g1 : (strOf l).size < 3 := by rw [strOf_size]; have := hl.out; omega
      have e1 : L = rnF N l0 := by rw [← hT.out]; simp [rnF]
      have E1 := Lib.hid e1
      clear e1
      go_wp2_with fail
      go_ret
      rw [← E1.out]
      exact ⟨_, _, rfl, HF.out.1, HBW.out⟩
def NumsR (o : Option (List Int)) (w : World) (e : Ending) (w' : World) : Prop :=
  ∃ a c L, e = .returned (.tuple #[.slice a L.length c, .bool o.isSome]) ∧ Fresh intE 3 1 w.heap.size (.slice a L.length c) L w' ∧ (∀ L', o = some L' → L = L') ∧ Below w.heap.size w w'
def someN (l : List UInt8) (c : Nat) : Option (List Int) := if l.length = 3 * c then some (rnF c l) else none
set_option maxHeartbeats 2000000 in
theorem someNumbers_c (l : List UInt8) (c : Nat) (w : World) (hl : l.length ≤ 3145728) (hc : c ≤ 1048576) :
    Calls Try.prog 115 #[.string (strOf l), .int .i64 c] w (NumsR (someN l c) w) := by
  have hsz : (strOf l).size = l.length := rfl
  by_cases h : l.length = 3 * c
  · have hv : someN l c = some (rnF c l) := by rw [someN, if_pos h]
    rw [hv]
    have H := Lib.hid h
    have hg : (((strOf l).size : Int) != 3 * (c : Int)) = false := by simp; omega
    clear hv hsz h
    go_enter Try.func115, Try.ntmps115
    go_wp2_with fail
    refine (readNumbers_c l c _ H.out hc).mono ?_
    rintro e w1 ⟨a, c1, rfl, hf, hb⟩
    go_wp2_with fail
    go_ret2
    exact ⟨_, _, rnF c l, rfl, hf, (fun L' h => by cases h; rfl), hb⟩
  · have hv : someN l c = none := by rw [someN, if_neg h]
    rw [hv]
    have hg : (((strOf l).size : Int) != 3 * (c : Int)) = true := by simp; omega
    clear hv hsz h
    go_enter Try.func115, Try.ntmps115
    go_wp2_with fail
    go_ret2
    exact ⟨none, 0, [], rfl, (FreshIn.nil _ _ _ _ 0 _).1, (fun L' h => by cases h), Below.refl _ _⟩
def allN (l : List UInt8) : Option (List Int) := if l.length % 3 = 0 then some (rnF (l.length / 3) l) else none
theorem rnF_step (N : Nat) : ∀ (l : List UInt8) (k : Nat), rnF (N + 1) (l.drop (3 * k)) = ((bn ((l.drop (3 * k)).take 3) : Int) - 1) :: rnF N (l.drop (3 * (k + 1))) := fun l k => by
  show _ :: rnF N ((l.drop (3 * k)).drop 3) = _
  rw [List.drop_drop, show 3 * k + 3 = 3 * (k + 1) by omega]
set_option maxRecDepth 100000 in
set_option maxHeartbeats 4000000 in
theorem l02ReadNumbers_c (l0 : List UInt8) (w : World) (hs : l0.length ≤ 1048576) :
    Calls Try.prog 96 #[.string (strOf l0)] w (NumsR (allN l0) w) := by
  obtain ⟨i0, hi, hz0, hz1, hz2⟩ := info_parts Try.infoInt
  have hsz : (strOf l0).size = l0.length := rfl
  have hss : (strOf l0).size ≤ 1048576 := hs
  by_cases h : l0.length % 3 = 0
  · obtain ⟨N, hN⟩ : ∃ N, l0.length = 3 * N := ⟨l0.length / 3, by omega⟩
    have hv : allN l0 = some (rnF N l0) := by rw [allN, if_pos h, show l0.length / 3 = N by omega]
    rw [hv]
    have hg : ((((strOf l0).size : Nat) : Int) % 3 != 0) = false := by simp; omega
    have hs1 : (strOf l0).size ≤ 3 * N := by omega
    have hs2 : 3 * N ≤ (strOf l0).size := by omega
    have HEX := Lib.hid (fun k => extract_mid l0 (3 * k) 3)
    clear hv hsz h hN
    generalize hS : strOf l0 = S at *
    clear hS
    go_enter Try.func96, Try.ntmps96
    go_wp2_with fail
    go_loopw [4, 5] (fun v i wr => ∃ (k : Nat) (av : Option Addr) (cv : Nat) (L : List Int), k ≤ N ∧ L.length ≤ k ∧ i = .int .i64 ((3 * k : Nat)) ∧ v = .slice av L.length cv ∧ Hid (L ++ rnF (N - k) (l0.drop (3 * k)) = rnF N l0) ∧ Fresh intE 3 1 w.heap.size (.slice av L.length cv) L wr ∧ Below w.heap.size w wr) (fun _ i _ => S.size - (intOf i).toNat)
    case atStart => exact ⟨0, _, _, [], Nat.zero_le _, by simp, rfl, rfl, rfl, Fresh.of_own (World.ownsRow_made (base := w.heap.size) w #[] 0 (Nat.le_refl _) (by decide) rfl) rfl rfl, (by repeat (first | exact Below.refl _ _ | (refine Below.alloc ?_ (by (try simp) <;> (try omega)) _) | (refine Below.setCell ?_ (by (try simp) <;> (try omega)) _) | (refine Below.drew ?_) | (refine Below.trans ?_ (Below.mono (by assumption) (by (try simp) <;> (try omega))))))⟩
    case round =>
      obtain ⟨k, av, cv, L, hk, hLk, rfl, rfl, hT, hf, hbel⟩ := hrel
      have HF := Lib.hid hf.here
      have HBW := Lib.hid hbel
      have hz := hbel.size
      clear hf hbel
      by_cases hlt : k < N
      · have hb3 := bn3 (l0.drop (3 * k))
        have hx3 : (S.extract (3 * k) (3 * k + 3)).size ≤ 5 := by rw [HEX.out, strOf_size]; simp; omega
        go_wp2_with fail
        refine (l02Of_c (S.extract (3 * k) (3 * k + 3)) _ hx3).mono ?_
        rw [HEX.out, strOf_toList]
        rintro e w2 ⟨rfl, rfl⟩
        have HA := Lib.hid (rnF_step (N - (k + 1)) l0 k)
        generalize bn ((l0.drop (3 * k)).take 3) = B at *
        go_wp2_with (first
          | (skip
             at_builtin
             refine wpList_append_fresh rfl (.tmp 18) (.tmp 26) 52 52 rfl (w.heap.size) (wr.heap.size) 3 i0 (.int .i64 0) 1 8 Try.underlying52 hi hz0 hz1 hz2 rfl (by decide) (.slice av L.length cv) (L) rfl (HF.out.alloc _) _ ([(B : Int) - 1]) rfl (Src.ofBox (enc := intE) (w := wr) Try.underlying52 (fun _ => rfl) intOne ((B : Int) - 1) #[.int .i64 ((B : Int) - 1)] 3 rfl wr.heap.size rfl) (by (try simp) <;> (try omega)) (by (try simp) <;> (try omega)) ?_
             intro a2 c2 w2 L2 hL2 hf2 hm2
             skip))
        go_roundw
        case rel =>
          refine ⟨k + 1, a2, c2, L2, by omega, by rw [hL2.out]; simp; omega, by go_num, rfl, ?_, hf2.1, ?_⟩
          · show _ = _
            rw [hL2.out, ← hT.out, show N - k = N - (k + 1) + 1 by omega, HA.out, List.append_assoc]
            rfl
          · exact (HBW.out.alloc hz _).trans (hm2.below (Nat.le_refl _) (by simp; omega))
        case measure => simp [intOf]; omega
      · obtain rfl : k = N := by omega
        have e1 : L = rnF k l0 := by rw [← hT.out, Nat.sub_self]; simp [rnF]
        have E1 := Lib.hid e1
        clear e1
        go_wp2_with fail
        go_ret2
        rw [← E1.out]
        exact ⟨_, _, L, rfl, HF.out.1, (fun L' h => by cases h; rfl), HBW.out⟩
  · have hv : allN l0 = none := by rw [allN, if_neg h]
    rw [hv]
    have hg : ((((strOf l0).size : Nat) : Int) % 3 != 0) = true := by simp; omega
    clear hv hsz h
    go_enter Try.func96, Try.ntmps96
    go_wp2_with fail
    go_ret2
    exact ⟨some ⟨w.heap.size, 0, none⟩, 0, [], rfl, Fresh.of_own (World.ownsRow_made (base := w.heap.size) w #[] 0 (Nat.le_refl _) (by decide) rfl) rfl rfl, (fun L' h => by cases h), (by repeat (first | exact Below.refl _ _ | (refine Below.alloc ?_ (by (try simp) <;> (try omega)) _) | (refine Below.setCell ?_ (by (try simp) <;> (try omega)) _) | (refine Below.drew ?_) | (refine Below.trans ?_ (Below.mono (by assumption) (by (try simp) <;> (try omega))))))⟩
end Go.Proofs.Ytckaccadgbcohaa
