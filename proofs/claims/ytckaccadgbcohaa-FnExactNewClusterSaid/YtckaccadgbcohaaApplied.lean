/- The functions of FnExactAppliedCount. -/
import Derived.Test.YtckaccadgbcohaaTo
import Derived.OwnWalk
namespace Go.Proofs.Ytckaccadgbcohaa
set_option linter.unusedVariables false
set_option linter.unusedSimpArgs false
open Go.RowKit
def nonE (xs : List ByteArray) : List ByteArray := xs.filter fun s => !s.toList.isEmpty
theorem nonE_le (xs : List ByteArray) : (nonE xs).length ≤ xs.length := List.length_filter_le _ _
theorem nonE_snoc (xs : List ByteArray) (k : Nat) (hk : k < xs.length) : nonE (xs.take (k + 1)) = if xs[k].toList.isEmpty then nonE (xs.take k) else nonE (xs.take k) ++ [xs[k]] := by
  rw [List.take_succ_eq_append_getElem hk]
  unfold nonE
  rw [List.filter_append]
  cases h : xs[k].toList.isEmpty <;> simp [List.filter_cons, h]
set_option maxHeartbeats 400000 in
theorem filled_c (a : Option Addr) (ca : Nat) (xs : List ByteArray) (w : World) (ha : Sl strE 1 w a xs) (la : xs.length ≤ 1048576) :
    Calls Try.prog 49 #[.slice a xs.length ca] w (FreshR strE 9 1 w (nonE xs)) := by
  obtain ⟨i0, hi, hz0, hz1, hz2⟩ := info_parts Try.infoString
  go_enter Try.func49, Try.ntmps49
  go_wp2_with fail
  go_loopw [3, 8] (fun v i wr => ∃ k : Nat, k ≤ xs.length ∧ i = .int .i64 k ∧ Fresh strE 9 1 w.heap.size v (nonE (xs.take k)) wr ∧ Below w.heap.size w wr) (fun _ i _ => xs.length - (intOf i).toNat)
  case atStart => exact ⟨0, Nat.zero_le _, rfl, ⟨none, 0, rfl, Nat.le_refl _, World.ownsRow_nil _ _ _ _⟩, Below.refl _ _⟩
  case round =>
    obtain ⟨k, hk, rfl, ⟨av, cv, rfl, hcv, ho⟩, hbel⟩ := hrel
    by_cases hlt : k < xs.length
    · obtain ⟨b1, o1, rfl, hb1, hc1⟩ := (ha.keep hbel).at hlt
      have c1 := hc1 k hlt 0 (by omega)
      simp only [strE, Nat.mul_one, Nat.add_zero, List.getElem?_cons_zero] at c1
      clear hc1
      have hs := nonE_snoc xs k hlt
      have hle := nonE_le (xs.take k)
      have hle2 : (xs.take k).length ≤ xs.length := by simp; omega
      generalize hL : nonE (xs.take k) = L at *
      have HL := Lib.hid hL
      clear hL
      by_cases he : xs[k].toList.isEmpty = true
      · rw [if_pos he] at hs
        have HS := Lib.hid hs
        have HO := Lib.hid ho
        have he2 : xs[k].toList = [] := by simpa using he
        clear hs ho
        go_wp2_with fail
        go_roundw
        case rel => exact ⟨k + 1, by omega, by go_num, by rw [HS.out]; exact ⟨_, _, rfl, hcv, HO.out⟩, hbel⟩
        case measure => simp [intOf]; omega
      · rw [if_neg he] at hs
        have HS := Lib.hid hs
        have HO := Lib.hid ho
        have he2 : (!xs[k].toList.isEmpty) = true := by simpa using he
        have he3 : (xs[k].toList == []) = false := by simpa using he
        clear hs
        go_wp2_with (at_builtin; refine wpList_append_own _ rfl _ _ 25 rfl w.heap.size 9 i0 (.string ⟨#[]⟩) 1 16 Try.underlying25 hi hz0 hz1 hz2 rfl (by decide) _ _ _ rfl (ho.alloc _) ⟨wr.heap.size, 0, none⟩ 1 1 [.string xs[k]] rfl rfl ?c1 ?c2 ?c3 ?c4 ?c5 ?_)
        case c1 => intro j u hu; match j, hu with | 0, hu => simp at hu; subst hu; simp [Addr.add]
        case c2 => simp [Value.oneCell']
        case c3 => unfold maxLen; omega
        case c4 => omega
        case c5 => have := hbel.size; simp; omega
        intro v' w1 hown1 hgrow _
        have hb1' : Below w.heap.size w w1 := (hbel.alloc hbel.size _).grown hgrow (by have := hbel.size; simp; omega) (fun k hk => (HO.out.lt k hk).1)
        have hf : Fresh strE 9 1 w.heap.size v' (nonE (xs.take (k + 1))) w1 := by rw [HS.out]; exact Fresh.of_own hown1 (by simp) (by simp [strE])
        clear hown1 hgrow ho
        have HF := Lib.hid hf
        clear hf
        go_wp2_with fail
        go_roundw
        case rel => exact ⟨k + 1, by omega, by go_num, HF.out, hb1'⟩
        case measure => simp [intOf]; omega
    · obtain rfl : k = xs.length := by omega
      rw [List.take_length] at *
      have HO := Lib.hid ho
      clear ho
      go_wp2_with fail
      go_ret
      exact ⟨_, rfl, ⟨_, _, rfl, hcv, HO.out⟩, hbel⟩
set_option maxHeartbeats 400000 in
theorem l09Data_c (a : Option Addr) (ca : Nat) (xs : List ByteArray) (w : World) (ha : Sl strE 1 w a xs) (la : xs.length ≤ 1048576) :
    Calls Try.prog 48 #[.slice a xs.length ca] w (FreshR strE 9 1 w (nonE xs)) := by
  obtain ⟨i0, hi, hz0, hz1, hz2⟩ := info_parts Try.infoString
  go_enter Try.func48, Try.ntmps48
  go_wp2_with fail
  go_loopw [3, 4] (fun v i wr => ∃ k : Nat, k ≤ xs.length ∧ i = .int .i64 k ∧ Fresh strE 9 1 w.heap.size v (nonE (xs.take k)) wr ∧ Below w.heap.size w wr) (fun _ i _ => xs.length - (intOf i).toNat)
  case atStart => exact ⟨0, Nat.zero_le _, rfl, Fresh.of_own (World.ownsRow_made _ #[] 0 (Nat.le_refl _) (by decide) rfl) rfl rfl, (by repeat (first | exact Below.refl _ _ | (refine Below.alloc ?_ (by (try simp) <;> (try omega)) _) | (refine Below.setCell ?_ (by (try simp) <;> (try omega)) _) | (refine Below.drew ?_) | (refine Below.trans ?_ (Below.mono (by assumption) (by (try simp) <;> (try omega))))))⟩
  case round =>
    obtain ⟨k, hk, rfl, ⟨av, cv, rfl, hcv, ho⟩, hbel⟩ := hrel
    by_cases hlt : k < xs.length
    · obtain ⟨b1, o1, rfl, hb1, hc1⟩ := (ha.keep hbel).at hlt
      have c1 := hc1 k hlt 0 (by omega)
      simp only [strE, Nat.mul_one, Nat.add_zero, List.getElem?_cons_zero] at c1
      clear hc1
      have hs := nonE_snoc xs k hlt
      have hle := nonE_le (xs.take k)
      have hle2 : (xs.take k).length ≤ xs.length := by simp; omega
      generalize hL : nonE (xs.take k) = L at *
      have HL := Lib.hid hL
      clear hL
      by_cases he : xs[k].toList.isEmpty = true
      · rw [if_pos he] at hs
        have HS := Lib.hid hs
        have HO := Lib.hid ho
        have he2 : xs[k].toList = [] := by simpa using he
        clear hs ho
        go_wp2_with fail
        go_roundw
        case rel => exact ⟨k + 1, by omega, by go_num, by rw [HS.out]; exact ⟨_, _, rfl, hcv, HO.out⟩, hbel⟩
        case measure => simp [intOf]; omega
      · rw [if_neg he] at hs
        have HS := Lib.hid hs
        have HO := Lib.hid ho
        have he2 : (!xs[k].toList.isEmpty) = true := by simpa using he
        have he3 : (xs[k].toList == []) = false := by simpa using he
        clear hs
        go_wp2_with (at_builtin; refine wpList_append_own _ rfl _ _ 25 rfl w.heap.size 9 i0 (.string ⟨#[]⟩) 1 16 Try.underlying25 hi hz0 hz1 hz2 rfl (by decide) _ _ _ rfl (ho.alloc _) ⟨wr.heap.size, 0, none⟩ 1 1 [.string xs[k]] rfl rfl ?c1 ?c2 ?c3 ?c4 ?c5 ?_)
        case c1 => intro j u hu; match j, hu with | 0, hu => simp at hu; subst hu; simp [Addr.add]
        case c2 => simp [Value.oneCell']
        case c3 => unfold maxLen; omega
        case c4 => omega
        case c5 => have := hbel.size; simp; omega
        intro v' w1 hown1 hgrow _
        have hb1' : Below w.heap.size w w1 := (hbel.alloc hbel.size _).grown hgrow (by have := hbel.size; simp; omega) (fun k hk => (HO.out.lt k hk).1)
        have hf : Fresh strE 9 1 w.heap.size v' (nonE (xs.take (k + 1))) w1 := by rw [HS.out]; exact Fresh.of_own hown1 (by simp) (by simp [strE])
        clear hown1 hgrow ho
        have HF := Lib.hid hf
        clear hf
        go_wp2_with fail
        go_roundw
        case rel => exact ⟨k + 1, by omega, by go_num, HF.out, hb1'⟩
        case measure => simp [intOf]; omega
    · obtain rfl : k = xs.length := by omega
      rw [List.take_length] at *
      have HO := Lib.hid ho
      clear ho
      go_wp2_with fail
      go_ret
      exact ⟨_, rfl, ⟨_, _, rfl, hcv, HO.out⟩, hbel⟩
def countV (xs : List ByteArray) : Value := .tuple (if xs.length ≤ 60 then #[.int .i64 (nonE xs).length, .int .i64 0] else if xs.length ≤ 4096 then #[.int .i64 0, .int .i64 6] else #[.int .i64 0, .int .i64 2])
def SzRes (small : Prop) (w : World) (e : Ending) (w' : World) : Prop := (∃ n : Int, e = .returned (.int .i64 n) ∧ n ≤ 1048576 ∧ (0 ≤ n → small)) ∧ Below w.heap.size w w'
set_option maxHeartbeats 400000 in
theorem szStringS_c (a : Option Addr) (ca : Nat) (xs : List ByteArray) (left : Int) (w : World) (ha : Sl strE 1 w a xs) (la : xs.length ≤ 9223372036854775807) (hs : ∀ s ∈ xs, s.size ≤ 9223372036854775807) (h0 : 0 ≤ left) (h1 : left ≤ 1048576) :
    Calls Try.prog 29 #[.slice a xs.length ca, .int .i64 left] w (SzRes (xs.length ≤ 1048576 ∧ ∀ s ∈ xs, s.size ≤ 1048576) w) := by
  by_cases hl : xs.length ≤ 1048576
  · have HS := Lib.hid hs
    clear hs
    by_cases hn : left - xs.length < 0
    · go_enter Try.func29, Try.ntmps29
      go_wp2_with fail
      go_ret
      exact ⟨⟨_, rfl, by omega, fun h => by omega⟩, Below.refl _ _⟩
    · go_enter Try.func29, Try.ntmps29
      go_wp2_with fail
      go_loopw [1, 5] (fun l i wr => ∃ (k : Nat) (n : Int), k ≤ xs.length ∧ i = .int .i64 k ∧ l = .int .i64 n ∧ 0 ≤ n ∧ n ≤ 1048576 ∧ (∀ s ∈ xs.take k, s.size ≤ 1048576) ∧ Below w.heap.size w wr) (fun _ i _ => xs.length - (intOf i).toNat)
      case atStart => exact ⟨0, _, Nat.zero_le _, rfl, rfl, by omega, by omega, by simp, Below.refl _ _⟩
      case round =>
        obtain ⟨k, n, hk, rfl, rfl, hn0, hn1, ht, hbel⟩ := hrel
        have HT := Lib.hid ht
        clear ht
        by_cases hlt : k < xs.length
        · obtain ⟨b1, o1, rfl, hb1, hc1⟩ := (ha.keep hbel).at hlt
          have c1 := hc1 k hlt 0 (by omega)
          simp only [strE, Nat.mul_one, Nat.add_zero, List.getElem?_cons_zero] at c1
          clear hc1
          have hsz := HS.out xs[k] (List.getElem_mem _)
          by_cases hneg : n - xs[k].size < 0
          · go_wp2_with fail
            go_ret
            exact ⟨⟨_, rfl, by omega, fun h => by omega⟩, hbel⟩
          · go_wp2_with fail
            go_roundw
            case rel =>
              refine ⟨k + 1, _, by omega, by go_num, rfl, by omega, by omega, ?_, hbel⟩
              rw [List.take_succ_eq_append_getElem hlt]
              intro s hs'
              rcases List.mem_append.1 hs' with h | h
              · exact HT.out s h
              · simp at h; subst h; omega
            case measure => simp [intOf]; omega
        · obtain rfl : k = xs.length := by omega
          go_wp2_with fail
          go_ret
          have := HT.out
          rw [List.take_length] at this
          exact ⟨⟨_, rfl, by omega, fun _ => ⟨hl, this⟩⟩, hbel⟩
  · clear hs
    go_enter Try.func29, Try.ntmps29
    go_wp2_with fail
    go_ret
    exact ⟨⟨_, rfl, by omega, fun h => by omega⟩, Below.refl _ _⟩
theorem countV_form (xs : List ByteArray) : ∃ p q, countV xs = .tuple #[.int .i64 p, .int .i64 q] := by
  unfold countV
  split
  · exact ⟨_, _, rfl⟩
  · split <;> exact ⟨_, _, rfl⟩
end Go.Proofs.Ytckaccadgbcohaa
