/- The laws' helper functions on entries and slices of entries. -/
import Derived.Test.YtcakldgbhjkkfaaApplied
import Derived.StillTailTactics
import Derived.Deep.RegionWith
namespace Go.Proofs.Ytcakldgbhjkkfaa
set_option linter.unusedVariables false
set_option linter.unusedSimpArgs false
open Go.RowKit
abbrev Ent := Int × ByteArray
theorem Try.infoEntry : (Try.prog.info? 48).map (fun i => (i.zero, i.size, i.bytes)) = some (some (.agg #[.int .i64 0, .string ⟨#[]⟩]), 2, 24) := by kernel_rfl
set_option maxHeartbeats 400000 in
theorem eqEntry_c (x y : Ent) (w : World) :
    Calls Try.prog 49 #[.agg #[.int .i64 x.1, .string x.2], .agg #[.int .i64 y.1, .string y.2]] w fun e w' => e = .returned (.bool (decide (x = y))) ∧ Below w.heap.size w w' := by
  obtain ⟨n, d⟩ := x
  obtain ⟨n', d'⟩ := y
  by_cases h2 : n = n'
  · subst h2
    by_cases h1 : d = d'
    · subst h1
      go_enter Try.func49, Try.ntmps49
      go_wp2_with fail
      go_ret
      exact ⟨by simp, (by repeat (first | exact Below.refl _ _ | (refine Below.alloc ?_ (by (try simp) <;> (try omega)) _) | (refine Below.setCell ?_ (by (try simp) <;> (try omega)) _) | (refine Below.drew ?_) | (refine Below.trans ?_ (Below.mono (by assumption) (by (try simp) <;> (try omega))))))⟩
    · have h1' : (d.toList == d'.toList) = false := by simpa [toList_eq] using h1
      go_enter Try.func49, Try.ntmps49
      go_wp2_with fail
      go_ret
      exact ⟨by simp [h1], (by repeat (first | exact Below.refl _ _ | (refine Below.alloc ?_ (by (try simp) <;> (try omega)) _) | (refine Below.setCell ?_ (by (try simp) <;> (try omega)) _) | (refine Below.drew ?_) | (refine Below.trans ?_ (Below.mono (by assumption) (by (try simp) <;> (try omega))))))⟩
  · have h2' : (n == n') = false := by simpa using h2
    go_enter Try.func49, Try.ntmps49
    go_wp2_with fail
    go_ret
    exact ⟨by simp [h2], (by repeat (first | exact Below.refl _ _ | (refine Below.alloc ?_ (by (try simp) <;> (try omega)) _) | (refine Below.setCell ?_ (by (try simp) <;> (try omega)) _) | (refine Below.drew ?_) | (refine Below.trans ?_ (Below.mono (by assumption) (by (try simp) <;> (try omega))))))⟩
set_option maxHeartbeats 400000 in
theorem toEntry_c (x : Ent) (w : World) :
    Calls Try.prog 41 #[.agg #[.int .i64 x.1, .string x.2]] w fun e w' => e = .returned (.agg #[.int .i64 x.1, .string x.2]) ∧ Below w.heap.size w w' := by
  obtain ⟨n, d⟩ := x
  go_enter Try.func41, Try.ntmps41
  go_wp2_with fail
  refine ⟨rfl, _, (by simp [results, Try.results41, go_sem]; rfl), ?_⟩
  exact ⟨rfl, (by repeat (first | exact Below.refl _ _ | (refine Below.alloc ?_ (by (try simp) <;> (try omega)) _) | (refine Below.setCell ?_ (by (try simp) <;> (try omega)) _) | (refine Below.drew ?_) | (refine Below.trans ?_ (Below.mono (by assumption) (by (try simp) <;> (try omega))))))⟩
set_option maxRecDepth 100000 in
set_option maxHeartbeats 1000000 in
theorem eqEntryS_c (a b : Option Addr) (ca cb : Nat) (xs ys : List Ent) (w : World) (ha : Sl entE 2 w a xs) (hb : Sl entE 2 w b ys) (la : xs.length ≤ 1048576) (lb : ys.length ≤ 1048576) :
    Calls Try.prog 28 #[.slice a xs.length ca, .slice b ys.length cb] w fun e w' => e = .returned (.bool (decide (xs = ys))) ∧ Below w.heap.size w w' := by
  by_cases hl : xs.length = ys.length
  · go_enter Try.func28, Try.ntmps28
    go_wp2_with fail
    go_loopw [5] (fun i wr => ∃ k : Nat, k ≤ xs.length ∧ i = .int .i64 k ∧ xs.take k = ys.take k ∧ Below w.heap.size w wr) (fun i _ => xs.length - (intOf i).toNat)
    case atStart => exact ⟨0, Nat.zero_le _, rfl, rfl, Below.refl _ _⟩
    case round =>
      obtain ⟨k, hk, rfl, ht, hbel⟩ := hrel
      have HT := Lib.hid ht
      clear ht
      by_cases hlt : k < xs.length
      · have hlt2 : k < ys.length := by omega
        obtain ⟨b1, o1, rfl, hb1, hc1⟩ := (ha.keep hbel).at hlt
        obtain ⟨b2, o2, rfl, hb2, hc2⟩ := (hb.keep hbel).at hlt2
        have c1 := hc1 k hlt 0 (by omega)
        have c2 := hc2 k hlt2 0 (by omega)
        have d1 := hc1 k hlt 1 (by omega)
        have d2 := hc2 k hlt2 1 (by omega)
        simp only [entE, Nat.add_zero, List.getElem?_cons_zero, List.getElem?_cons_succ] at c1 c2 d1 d2
        clear hc1 hc2
        have HL := Lib.hid hl
        clear hl
        by_cases he : xs[k] = ys[k]
        · have HE := Lib.hid he
          have hee := eqEntry_c xs[k] ys[k]
          rw [decide_eq_true he] at hee
          have HC := Lib.hid hee
          clear he hee
          go_wp2_with fail
          go_still_tail 8, (by kernel_rfl)
          change wpList _ _ _ _ _ wr.drew
          have hb0 := hbel.drew
          generalize wr.drew = wd at *
          go_wp2_with fail
          refine (HC.out _).mono ?_
          rintro e w1 ⟨rfl, hb1'⟩
          go_wp2_with fail
          go_roundw
          case rel =>
            refine ⟨k + 1, by omega, by go_num, ?_, hb0.trans (hb1'.mono hb0.size)⟩
            rw [List.take_succ_eq_append_getElem hlt, List.take_succ_eq_append_getElem hlt2, HT.out, HE.out]
          case measure => simp [intOf]; omega
        · have HE := Lib.hid he
          have hee := eqEntry_c xs[k] ys[k]
          rw [decide_eq_false he] at hee
          have HC := Lib.hid hee
          clear he hee
          go_wp2_with fail
          go_still_tail 8, (by kernel_rfl)
          change wpList _ _ _ _ _ wr.drew
          have hb0 := hbel.drew
          generalize wr.drew = wd at *
          go_wp2_with fail
          refine (HC.out _).mono ?_
          rintro e w1 ⟨rfl, hb1'⟩
          go_wp2_with fail
          go_ret
          refine ⟨?_, hb0.trans (hb1'.mono hb0.size)⟩
          have hne : xs ≠ ys := by rintro rfl; exact HE.out rfl
          simp [hne]
      · have hkn : k = xs.length := by omega
        go_wp2_with fail
        go_ret
        refine ⟨?_, hbel⟩
        have h1 := HT.out
        rw [List.take_of_length_le (by omega), List.take_of_length_le (by omega)] at h1
        simp [h1]
  · have hl' : ((xs.length : Int) == (ys.length : Int)) = false := by simp; omega
    have hd : decide (xs = ys) = false := by simp; intro h; exact hl (by rw [h])
    rw [hd]
    clear hd
    go_enter Try.func28, Try.ntmps28
    go_wp2_with fail
    go_ret
    exact ⟨rfl, (by repeat (first | exact Below.refl _ _ | (refine Below.alloc ?_ (by (try simp) <;> (try omega)) _) | (refine Below.setCell ?_ (by (try simp) <;> (try omega)) _) | (refine Below.drew ?_) | (refine Below.trans ?_ (Below.mono (by assumption) (by (try simp) <;> (try omega))))))⟩
set_option maxHeartbeats 400000 in
theorem szEntry_c (x : Ent) (left : Int) (w : World) (h1 : 0 ≤ left) (h2 : left ≤ 1048576) (h3 : x.2.size ≤ 9223372036854775807) :
    Calls Try.prog 35 #[.agg #[.int .i64 x.1, .string x.2], .int .i64 left] w (SzRes (x.2.size ≤ 1048576) w) := by
  obtain ⟨n, d⟩ := x
  simp only at h3 ⊢
  go_enter Try.func35, Try.ntmps35
  go_wp2_with fail
  all_goals
    go_ret
    exact ⟨⟨_, rfl, by omega, fun h => by omega⟩, (by repeat (first | exact Below.refl _ _ | (refine Below.alloc ?_ (by (try simp) <;> (try omega)) _) | (refine Below.setCell ?_ (by (try simp) <;> (try omega)) _) | (refine Below.drew ?_) | (refine Below.trans ?_ (Below.mono (by assumption) (by (try simp) <;> (try omega))))))⟩
set_option maxHeartbeats 1000000 in
theorem szEntryS_c (a : Option Addr) (ca : Nat) (xs : List Ent) (left : Int) (w : World) (ha : Sl entE 2 w a xs) (la : xs.length ≤ 9223372036854775807) (hs : ∀ s ∈ xs, s.2.size ≤ 9223372036854775807) (h0 : 0 ≤ left) (h1 : left ≤ 1048576) :
    Calls Try.prog 14 #[.slice a xs.length ca, .int .i64 left] w (SzRes (xs.length ≤ 1048576 ∧ ∀ s ∈ xs, s.2.size ≤ 1048576) w) := by
  by_cases hl : xs.length ≤ 1048576
  · have HS := Lib.hid hs
    clear hs
    by_cases hn : left - xs.length < 0
    · go_enter Try.func14, Try.ntmps14
      go_wp2_with fail
      go_ret
      exact ⟨⟨_, rfl, by omega, fun h => by omega⟩, Below.refl _ _⟩
    · go_enter Try.func14, Try.ntmps14
      go_wp2_with fail
      go_loopw [1, 5] (fun l i wr => ∃ (k : Nat) (n : Int), k ≤ xs.length ∧ i = .int .i64 k ∧ l = .int .i64 n ∧ 0 ≤ n ∧ n ≤ 1048576 ∧ (∀ s ∈ xs.take k, s.2.size ≤ 1048576) ∧ Below w.heap.size w wr) (fun _ i _ => xs.length - (intOf i).toNat)
      case atStart => exact ⟨0, _, Nat.zero_le _, rfl, rfl, by omega, by omega, by simp, Below.refl _ _⟩
      case round =>
        obtain ⟨k, n, hk, rfl, rfl, hn0, hn1, ht, hbel⟩ := hrel
        have HT := Lib.hid ht
        clear ht
        by_cases hlt : k < xs.length
        · obtain ⟨b1, o1, rfl, hb1, hc1⟩ := (ha.keep hbel).at hlt
          have c1 := hc1 k hlt 0 (by omega)
          have d1 := hc1 k hlt 1 (by omega)
          simp only [entE, Nat.add_zero, List.getElem?_cons_zero, List.getElem?_cons_succ] at c1 d1
          clear hc1
          have hsz := HS.out xs[k] (List.getElem_mem _)
          go_wp2_with fail
          refine (szEntry_c xs[k] n _ hn0 hn1 hsz).mono ?_
          rintro e w1 ⟨⟨m, rfl, hm1, hm2⟩, hb1'⟩
          have HM := Lib.hid hm2
          clear hm2
          by_cases hneg : m < 0
          · go_wp2_with fail
            go_ret
            exact ⟨⟨_, rfl, by omega, fun h => by omega⟩, hbel.trans (hb1'.mono hbel.size)⟩
          · go_wp2_with fail
            go_roundw
            case rel =>
              refine ⟨k + 1, _, by omega, by go_num, rfl, by omega, by omega, ?_, hbel.trans (hb1'.mono hbel.size)⟩
              rw [List.take_succ_eq_append_getElem hlt]
              intro s hs'
              rcases List.mem_append.1 hs' with h | h
              · exact HT.out s h
              · simp at h; subst h; exact HM.out (by omega)
            case measure => simp [intOf]; omega
        · obtain rfl : k = xs.length := by omega
          go_wp2_with fail
          go_ret
          have := HT.out
          rw [List.take_length] at this
          exact ⟨⟨_, rfl, by omega, fun _ => ⟨hl, this⟩⟩, hbel⟩
  · clear hs
    go_enter Try.func14, Try.ntmps14
    go_wp2_with fail
    go_ret
    exact ⟨⟨_, rfl, by omega, fun h => by omega⟩, Below.refl _ _⟩
set_option maxHeartbeats 1000000 in
theorem toEntryS_c (a : Option Addr) (ca : Nat) (xs : List Ent) (w : World) (ha : Sl entE 2 w a xs) (la : xs.length ≤ 1048576) :
    Calls Try.prog 20 #[.slice a xs.length ca] w (FreshR entE 48 2 w xs) := by
  obtain ⟨i0, hi, hz0, hz1, hz2⟩ := info_parts Try.infoEntry
  go_enter Try.func20, Try.ntmps20
  go_wp2_with (at_make; refine wpList_make_full _ rfl _ _ 27 rfl w.heap.size 48 i0 (.agg #[.int .i64 0, .string ⟨#[]⟩]) 2 Try.underlying27 hi hz0 hz1 .i64 .i64 _ _ xs.length rfl rfl rfl rfl ?c1 ?c2 ?c3 ?_)
  case c1 => rw [hz2]; omega
  case c2 => unfold maxLen; omega
  case c3 => exact Nat.le_refl _
  intro w1 hown hg
  have hm := madeCells_flat entE 2 ((0, ⟨#[]⟩) : Ent) #[.int .i64 0, .string ⟨#[]⟩] rfl (fun _ => rfl) xs.length
  have hown2 : w1.ownsRow w.heap.size 48 2 (.slice (some ⟨w.heap.size, 0, none⟩) xs.length xs.length) xs.length ((List.replicate xs.length ((0, ⟨#[]⟩) : Ent)).flatMap entE) := by rw [← hm]; exact hown
  clear hm hown
  go_wp2_with fail
  go_loopw [4] (fun i wr => ∃ k : Nat, k ≤ xs.length ∧ i = .int .i64 k ∧ wr.ownsRow w.heap.size 48 2 (.slice (some ⟨w.heap.size, 0, none⟩) xs.length xs.length) xs.length ((xs.take k ++ List.replicate (xs.length - k) ((0, ⟨#[]⟩) : Ent)).flatMap entE) ∧ Below w.heap.size w wr) (fun i _ => xs.length - (intOf i).toNat)
  case atStart => exact ⟨0, Nat.zero_le _, rfl, by simpa using hown2, (Below.refl _ _).grown hg (Nat.le_refl _) (by simp)⟩
  case round =>
    obtain ⟨k, hk, rfl, ho, hbel⟩ := hrel
    by_cases hlt : k < xs.length
    · obtain ⟨b1, o1, rfl, hb1, hc1⟩ := (ha.keep hbel).at hlt
      have c1 := hc1 k hlt 0 (by omega)
      have d1 := hc1 k hlt 1 (by omega)
      simp only [entE, Nat.add_zero, List.getElem?_cons_zero, List.getElem?_cons_succ] at c1 d1
      clear hc1
      have HO := Lib.hid ho
      clear ho hown2
      go_wp2_with fail
      refine (toEntry_c xs[k] _).mono ?_
      rintro e w2 ⟨rfl, hb2⟩
      have ho2 := HO.out.kept (grownBy_of_below hb2) (.inr (by simp [Value.ownBlock]))
      have f0 := ho2.frozenAt (k * 2)
      have f1 := ho2.frozenAt (k * 2 + 1)
      have g0 := ho2.cellAt (k * 2) (by omega)
      have g1 := ho2.cellAt (k * 2 + 1) (by omega)
      have hlen : ((xs.take k ++ List.replicate (xs.length - k) ((0, ⟨#[]⟩) : Ent)).flatMap entE).length = xs.length * 2 := by rw [flat_length entE 2 (fun _ => rfl), take_set_length _ _ _ hk]
      rw [List.getElem?_eq_getElem (by omega)] at g0 g1
      generalize ((xs.take k ++ List.replicate (xs.length - k) ((0, ⟨#[]⟩) : Ent)).flatMap entE)[k * 2]'(by omega) = v0 at g0
      generalize ((xs.take k ++ List.replicate (xs.length - k) ((0, ⟨#[]⟩) : Ent)).flatMap entE)[k * 2 + 1]'(by omega) = v1 at g1
      have HO2 := Lib.hid ho2
      clear ho2 hlen
      go_wp2_with fail
      go_roundw
      case rel =>
        have ho := HO2.out
        have hs := ((ho.stored (k * 2) (.int .i64 xs[k].1)).1.stored (k * 2 + 1) (.string xs[k].2)).1
        rw [flat_set2 entE (fun _ => rfl) _ k (by rw [take_set_length _ _ _ hk]; exact hlt) xs[k] _ _ rfl, take_set_next _ _ _ hlt] at hs
        exact ⟨k + 1, by omega, by go_num, hs, ((hbel.trans (hb2.mono hbel.size)).setCell (Nat.le_refl _) _).setCell (Nat.le_refl _) _⟩
      case measure => simp [intOf]; omega
    · obtain rfl : k = xs.length := by omega
      rw [take_set_done] at ho
      have HO := Lib.hid ho
      clear ho hown2
      go_wp2_with fail
      go_ret
      exact ⟨_, rfl, ⟨_, _, rfl, Nat.le_refl _, HO.out⟩, hbel⟩
end Go.Proofs.Ytcakldgbhjkkfaa
