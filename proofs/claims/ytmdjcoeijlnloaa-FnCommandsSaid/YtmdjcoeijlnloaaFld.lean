/- Fields and numbers as bytes: impl.numbersOf, impl.fieldsOf, impl.fields. No conditions but sizes. -/
import Derived.Test.YtmdjcoeijlnloaaBld2
import Derived.Test.YtmdjcoeijlnloaaLong
namespace Go.Proofs.Ytmdjcoeijlnloaa
set_option linter.unusedVariables false
set_option linter.unusedSimpArgs false
open Go.RowKit
def numL (ns : List Int) : List UInt8 := ns.flatMap fun n => be (n + 1).toNat 3
theorem numL_length (ns : List Int) : (numL ns).length = 3 * ns.length := by
  induction ns with
  | nil => rfl
  | cons n ns ih => simp only [numL, List.flatMap_cons, List.length_append, be_length, List.length_cons] at *; omega
theorem numL_snoc (ns : List Int) (k : Nat) (hk : k < ns.length) : numL (ns.take (k + 1)) = numL (ns.take k) ++ be (ns[k] + 1).toNat 3 := by
  unfold numL
  rw [List.take_succ_eq_append_getElem hk, List.flatMap_append]
  simp only [List.flatMap_cons, List.flatMap_nil, List.append_nil]
def fieldL (s : ByteArray) : List UInt8 := be s.size 2 ++ s.data.toList
def fldB (fs : List ByteArray) : List UInt8 := fs.flatMap fieldL
def fldL (fs : List ByteArray) : List UInt8 := UInt8.ofNat fs.length :: fldB fs
theorem fieldL_length (s : ByteArray) : (fieldL s).length = 2 + s.size := by simp [fieldL, be_length]
theorem fldB_snoc (fs : List ByteArray) (k : Nat) (hk : k < fs.length) : fldB (fs.take (k + 1)) = fldB (fs.take k) ++ fieldL fs[k] := by
  unfold fldB
  rw [List.take_succ_eq_append_getElem hk, List.flatMap_append]
  simp only [List.flatMap_cons, List.flatMap_nil, List.append_nil]
theorem fldB_le (fs : List ByteArray) (M : Nat) (h : ∀ s ∈ fs, s.size ≤ M) : (fldB fs).length ≤ fs.length * (2 + M) := by
  induction fs with
  | nil => simp [fldB]
  | cons s fs ih =>
    have h1 := h s (by simp)
    have h2 := ih (fun x hx => h x (by simp [hx]))
    simp only [fldB, List.flatMap_cons, List.length_append, List.length_cons, fieldL_length] at *
    rw [Nat.add_mul]
    omega
def bigP (s : ByteArray) : Bool := decide (20000 < s.size)
set_option maxRecDepth 100000 in
set_option maxHeartbeats 2000000 in
theorem numbersOf_c (a : Option Addr) (ca : Nat) (ns : List Int) (w : World) (ha : Sl intE 1 w a ns) (la : ns.length ≤ 1048576) (hn : ∀ n ∈ ns, -1 ≤ n ∧ n ≤ 1099511627775) :
    Calls Try.prog 125 #[.slice a ns.length ca] w fun e w' => e = .returned (.string (strOf (numL ns))) ∧ Below w.heap.size w w' := by
  have HN := Lib.hid hn
  clear hn
  go_enter Try.func125, Try.ntmps125
  go_wp2_with fail
  go_loopw [5, 8] (fun _ i wr => ∃ k : Nat, k ≤ ns.length ∧ i = .int .i64 k ∧ Bld w.heap.size w.heap.size (numL (ns.take k)) wr ∧ Below w.heap.size w wr) (fun _ i _ => ns.length - (intOf i).toNat)
  case atStart => exact ⟨0, Nat.zero_le _, rfl, bld_new w _ (Nat.le_refl _), (by repeat (first | exact Below.refl _ _ | (refine Below.alloc ?_ (by (try simp) <;> (try omega)) _) | (refine Below.setCell ?_ (by (try simp) <;> (try omega)) _) | (refine Below.drew ?_) | (refine Below.trans ?_ (Below.mono (by assumption) (by (try simp) <;> (try omega))))))⟩
  case round =>
    obtain ⟨k, hk, rfl, hB, hbel⟩ := hrel
    have hlen := numL_length (ns.take k)
    have hlen' : (numL (ns.take k)).length ≤ 3145728 := by rw [hlen, List.length_take]; omega
    have hz := hbel.size
    have HBW := Lib.hid hbel
    have HS := fun h => Lib.hid (numL_snoc ns k h)
    clear hlen
    by_cases hlt : k < ns.length
    · have HSN := HS hlt
      obtain ⟨b1, o1, rfl, hb1, hc1⟩ := (ha.keep hbel).at hlt
      have c1 := hc1 k hlt 0 (by omega)
      simp only [intE, Nat.mul_one, Nat.add_zero, List.getElem?_cons_zero] at c1
      have hin := HN.out ns[k] (List.getElem_mem _)
      obtain ⟨n, hn⟩ : ∃ n : Nat, ns[k] = (n : Int) - 1 := ⟨(ns[k] + 1).toNat, by omega⟩
      have hn40 : n ≤ 1099511627776 := by omega
      have hnn : (ns[k] + 1).toNat = n := by omega
      rw [hnn] at HSN
      rw [hn] at c1
      generalize numL (ns.take k) = L at *
      have HB := Lib.hid hB
      clear hc1 hbel HS hin hn hnn hB
      have e1 : ((n : Int) - 1 + 1) = (n : Int) := by omega
      have E1 := Lib.hid e1
      clear e1
      go_wp2_with fail
      try rw [E1.out]
      refine (bigBytes_c n 3 _ (by omega) (by omega)).mono ?_
      rintro e w2 ⟨rfl, hb2⟩
      have hz2 := hb2.size
      have HB2 := Lib.hid hb2
      have HBK2 := Lib.hid (HB.out.below hb2)
      have hsb : (strOf (be n 3)).size ≤ 3 := by rw [strOf_size, be_length]; omega
      clear hb2
      go_wp2_with fail
      refine (writeString_c w.heap.size w.heap.size L (strOf (be n 3)) _ HBK2.out (by omega) (by omega) (by omega)).mono ?_
      rintro e w3 ⟨rfl, hB3, hb3⟩
      rw [strOf_toList] at hB3
      have HB3 := Lib.hid hB3
      have HBB3 := Lib.hid hb3
      clear hB3 hb3
      go_wp2_with fail
      go_roundw
      case rel => exact ⟨k + 1, by omega, by go_num, by rw [HSN.out]; exact HB3.out, (HBW.out.trans (HB2.out.mono hz)).trans HBB3.out⟩
      case measure => simp [intOf]; omega
    · obtain rfl : k = ns.length := by omega
      rw [List.take_length] at hB
      have HB := Lib.hid hB
      clear hB hbel HS
      go_wp2_with fail
      refine (bldString_c w.heap.size w.heap.size (numL ns) _ HB.out hz).mono ?_
      rintro e w3 ⟨rfl, hb3⟩
      go_wp2_with fail
      go_ret
      exact ⟨rfl, HBW.out.trans hb3⟩
def sz_impl_fieldsOf_1 (_ : ByteArray) : Prop := True
set_option maxHeartbeats 1000000 in
theorem f_impl_fieldsOf_1 (r : ByteArray) (w : World) (_ : sz_impl_fieldsOf_1 r) : Calls Try.prog 178 #[.string r] w fun e w' => e = .returned (.bool (bigP r)) ∧ w = w' := by
  by_cases h : 20000 < r.size
  all_goals
    go_enter Try.func178, Try.ntmps178
    go_wp2_with fail
    go_ret
    exact ⟨by simp [bigP]; try omega, rfl⟩
set_option maxRecDepth 100000 in
set_option maxHeartbeats 1000000 in
theorem index_impl_fieldsOf_1 (a : Option Addr) (ca : Nat) (xs : List ByteArray) (w : World) (ha : Sl strE 1 w a xs) (la : xs.length ≤ 1099511627776) (hq : ∀ x ∈ xs, sz_impl_fieldsOf_1 x) :
    Calls Try.prog 149 #[.slice a xs.length ca, .func (.func 178) #[] #[]] w fun e w' => (∃ i : Int, e = .returned (.int .i64 i) ∧ Hid (decide (0 ≤ i) = xs.any bigP)) ∧ w = w' := by
  have HQ := Lib.hid hq
  clear hq
  go_enter Try.func149, Try.ntmps149
  go_wp2_with fail
  go_loop [5, 8] (fun _ i => ∃ k : Nat, k ≤ xs.length ∧ i = .int .i64 k ∧ ∀ j (hj : j < xs.length), j < k → bigP xs[j] = false) (fun _ i => xs.length - (intOf i).toNat)
  case atStart => exact ⟨0, Nat.zero_le _, rfl, fun j _ h => absurd h (Nat.not_lt_zero _)⟩
  case round =>
    obtain ⟨k, hk, rfl, hp⟩ := hrel
    have HP := Lib.hid hp
    clear hp
    by_cases hlt : k < xs.length
    · obtain ⟨b1, o1, rfl, hb1, hc1⟩ := ha.at hlt
      have c1 := hc1 k hlt 0 (by omega)
      simp only [strE, Nat.mul_one, Nat.add_zero, List.getElem?_cons_zero] at c1
      have hx := HQ.out xs[k] (List.getElem_mem _)
      clear hc1
      cases hpk : bigP xs[k]
      · have HPK := Lib.hid hpk
        clear hpk
        go_wp2_with (go_at_call 178; refine (f_impl_fieldsOf_1 xs[k] _ hx).mono ?_; rw [HPK.out]; rintro e w' ⟨rfl, rfl⟩)
        go_round
        case rel => exact ⟨k + 1, by omega, by go_num, fun j hj h => by
          rcases Nat.lt_succ_iff_lt_or_eq.1 h with h | rfl
          · exact HP.out j hj h
          · exact HPK.out⟩
        case measure => simp [intOf]; omega
      · have HPK := Lib.hid hpk
        clear hpk
        go_wp2_with (go_at_call 178; refine (f_impl_fieldsOf_1 xs[k] _ hx).mono ?_; rw [HPK.out]; rintro e w' ⟨rfl, rfl⟩)
        go_ret
        exact ⟨⟨_, rfl, by rw [any_at hlt HPK.out]; show decide _ = _; simp⟩, rfl⟩
    · obtain rfl : k = xs.length := by omega
      go_wp2_with fail
      go_ret
      exact ⟨⟨_, rfl, by rw [take_none HP.out (Nat.le_refl _)]; rfl⟩, rfl⟩
set_option maxHeartbeats 1000000 in
theorem contains_impl_fieldsOf_1 (a : Option Addr) (ca : Nat) (xs : List ByteArray) (w : World) (ha : Sl strE 1 w a xs) (la : xs.length ≤ 1099511627776) (hq : ∀ x ∈ xs, sz_impl_fieldsOf_1 x) :
    Calls Try.prog 89 #[.slice a xs.length ca, .func (.func 178) #[] #[]] w fun e w' => e = .returned (.bool (xs.any bigP)) ∧ w = w' := by
  have HQ := Lib.hid hq
  clear hq
  go_enter Try.func89, Try.ntmps89
  go_wp2_with fail
  refine (index_impl_fieldsOf_1 a ca xs _ ha la HQ.out).mono ?_
  rintro e w' ⟨⟨i, rfl, hi⟩, rfl⟩
  go_wp2_with fail
  go_ret
  exact ⟨by rw [← hi.out]; rfl, rfl⟩
def fldV (fs : List ByteArray) : List UInt8 × Int :=
  if 60 < fs.length then ([], 6) else if fs.any bigP then ([], 4) else if 65536 < (fldL fs).length then ([], 7) else (fldL fs, 0)
theorem big_le {fs : List ByteArray} (h : fs.any bigP = false) : ∀ r ∈ fs, r.size ≤ 20000 := by
  intro r hr
  have h1 : ∀ x ∈ fs, bigP x = false := by simpa using h
  have := h1 r hr
  simp [bigP] at this
  omega
set_option maxRecDepth 100000 in
set_option maxHeartbeats 2000000 in
theorem fieldsOf_c (a : Option Addr) (ca : Nat) (fs : List ByteArray) (w : World) (ha : Sl strE 1 w a fs) (la : fs.length ≤ 1048576) :
    Calls Try.prog 163 #[.slice a fs.length ca] w fun e w' => e = .returned (.tuple #[.string (strOf (fldV fs).1), .int .i64 (fldV fs).2]) ∧ Below w.heap.size w w' := by
  by_cases h1 : 60 < fs.length
  · have hv : fldV fs = ([], 6) := by simp [fldV, h1]
    rw [hv]
    clear hv
    go_enter Try.func163, Try.ntmps163
    go_wp2_with fail
    go_ret2
    exact ⟨rfl, Below.refl _ _⟩
  cases h2 : fs.any bigP
  · have hbig := big_le h2
    have H2 := Lib.hid h2
    have HBIG := Lib.hid hbig
    have HV : Hid (fldV fs = if 65536 < (fldL fs).length then ([], 7) else (fldL fs, 0)) := by show _ = _; unfold fldV; rw [if_neg h1, h2]; rfl
    clear h2 hbig
    go_enter Try.func163, Try.ntmps163
    go_wp2_with fail
    refine (contains_impl_fieldsOf_1 a ca fs _ ha (by omega) (fun _ _ => trivial)).mono ?_
    rw [H2.out]
    rintro e w1 ⟨rfl, rfl⟩
    go_wp2_with fail
    have hu8 : (fs.length : Int) % 256 = ((UInt8.ofNat fs.length).toNat : Int) := by rw [UInt8.toNat_ofNat']; omega
    refine Calls.mono (writeByte_c w.heap.size w.heap.size [] (UInt8.ofNat fs.length) _ _ (bld_new w _ (Nat.le_refl _)) ?_ (by simp) (by simp)) ?_
    · first | exact hu8 | (rw [← hu8]; omega)
    rintro e w1 ⟨rfl, hB1, hb1⟩
    have HB1 := Lib.hid hB1
    have HBB1 : Hid (Below w.heap.size w w1) := (by repeat (first | exact Below.refl _ _ | (refine Below.alloc ?_ (by (try simp) <;> (try omega)) _) | (refine Below.setCell ?_ (by (try simp) <;> (try omega)) _) | (refine Below.drew ?_) | (refine Below.trans ?_ (Below.mono (by assumption) (by (try simp) <;> (try omega))))))
    clear hu8 hB1 hb1
    go_wp2_with fail
    go_loopw [6, 18] (fun _ i wr => ∃ k : Nat, k ≤ fs.length ∧ i = .int .i64 k ∧ Bld w.heap.size w.heap.size (UInt8.ofNat fs.length :: fldB (fs.take k)) wr ∧ Below w.heap.size w wr) (fun _ i _ => fs.length - (intOf i).toNat)
    case atStart => exact ⟨0, Nat.zero_le _, rfl, HB1.out, HBB1.out⟩
    case round =>
      obtain ⟨k, hk, rfl, hB, hbel⟩ := hrel
      have hlen := fldB_le (fs.take k) 20000 (fun s hs => HBIG.out s (List.mem_of_mem_take hs))
      have hlen' : (UInt8.ofNat fs.length :: fldB (fs.take k)).length ≤ 2000000 := by simp only [List.length_cons, List.length_take] at hlen ⊢; omega
      have hz := hbel.size
      have HBW := Lib.hid hbel
      have HS := fun h => Lib.hid (fldB_snoc fs k h)
      clear hlen
      by_cases hlt : k < fs.length
      · have HSN := HS hlt
        obtain ⟨b1, o1, rfl, hb1, hc1⟩ := (ha.keep hbel).at hlt
        have c1 := hc1 k hlt 0 (by omega)
        simp only [strE, Nat.mul_one, Nat.add_zero, List.getElem?_cons_zero] at c1
        have hsz := HBIG.out fs[k] (List.getElem_mem _)
        generalize fs[k] = G at *
        generalize hL : UInt8.ofNat fs.length :: fldB (fs.take k) = L at *
        have HL := Lib.hid hL
        have HB := Lib.hid hB
        clear hc1 hbel HS hB hL
        go_wp2_with fail
        refine (bigBytes_c G.size 2 _ (by omega) (by omega)).mono ?_
        rintro e w2 ⟨rfl, hb2⟩
        have hz2 := hb2.size
        have HB2 := Lib.hid hb2
        have HBK2 := Lib.hid (HB.out.below hb2)
        have hsb : (strOf (be G.size 2)).size ≤ 2 := by rw [strOf_size, be_length]; omega
        have hsc : (strOf (be G.size 2) ++ G).size ≤ 20002 := by rw [ByteArray.size_append]; omega
        clear hb2
        generalize hE : strOf (be G.size 2) = E at *
        have HE := Lib.hid hE
        clear hE
        go_wp2_with fail
        refine (writeString_c w.heap.size w.heap.size L (E ++ G) _ HBK2.out (by omega) (by omega) (by omega)).mono ?_
        rintro e w3 ⟨rfl, hB3, hb3⟩
        have HB3 := Lib.hid hB3
        have HBB3 := Lib.hid hb3
        clear hB3 hb3
        go_wp2_with fail
        go_roundw
        case rel =>
          refine ⟨k + 1, by omega, by go_num, ?_, (HBW.out.trans (HB2.out.mono hz)).trans HBB3.out⟩
          have h3 := HB3.out
          rw [← HL.out, ← HE.out, ← strOf_data G, strOf_append, strOf_toList, List.cons_append] at h3
          rw [HSN.out]
          exact h3
        case measure => simp [intOf]; omega
      · obtain rfl : k = fs.length := by omega
        rw [List.take_length] at hB hlen'
        have hE : UInt8.ofNat fs.length :: fldB fs = fldL fs := rfl
        rw [hE] at hB hlen'
        have HB := Lib.hid hB
        have HV3 : Hid (fldV fs = if 65536 < (fldL fs).length then ([], 7) else (fldL fs, 0)) := HV.out
        clear hB hbel HS hE
        clear HV
        have HV := HV3
        clear HV3
        generalize fldL fs = L at *
        go_wp2_with fail
        refine (bldLen_c w.heap.size w.heap.size L _ HB.out).mono ?_
        rintro e w3 ⟨rfl, rfl⟩
        by_cases hl : 65536 < L.length
        · have hv : fldV fs = ([], 7) := by rw [HV.out, if_pos hl]
          have HV2 := Lib.hid hv
          clear hv
          go_wp2_with fail
          go_ret2
          exact ⟨by rw [HV2.out]; rfl, HBW.out⟩
        · have hv : fldV fs = (L, 0) := by rw [HV.out, if_neg hl]
          have HV2 := Lib.hid hv
          clear hv
          go_wp2_with fail
          refine (bldString_c w.heap.size w.heap.size L _ HB.out hz).mono ?_
          rintro e w3 ⟨rfl, hb3⟩
          go_wp2_with fail
          go_ret2
          exact ⟨by rw [HV2.out]; rfl, HBW.out.trans hb3⟩
  · have hv : fldV fs = ([], 4) := by simp only [fldV, if_neg h1, h2, if_true]
    have H2 := Lib.hid h2
    rw [hv]
    clear hv h2
    go_enter Try.func163, Try.ntmps163
    go_wp2_with fail
    refine (contains_impl_fieldsOf_1 a ca fs _ ha (by omega) (fun _ _ => trivial)).mono ?_
    rw [H2.out]
    rintro e w1 ⟨rfl, rfl⟩
    go_wp2_with fail
    go_ret2
    exact ⟨rfl, Below.refl _ _⟩
set_option maxHeartbeats 2000000 in
theorem fields_c (a : Option Addr) (ca : Nat) (fs : List ByteArray) (w : World) (ha : Sl strE 1 w a fs) (la : fs.length ≤ 1048576) :
    Calls Try.prog 124 #[.slice a fs.length ca] w fun e w' => e = .returned (.string (strOf (fldV fs).1)) ∧ Below w.heap.size w w' := by
  go_enter Try.func124, Try.ntmps124
  go_wp2_with fail
  refine (fieldsOf_c a ca fs _ ha la).mono ?_
  rintro e w1 ⟨rfl, hb1⟩
  go_wp2_with fail
  go_ret
  exact ⟨rfl, hb1⟩
theorem fldV_ok {fs : List ByteArray} (h1 : fs.length ≤ 60) (h2 : ∀ s ∈ fs, s.size ≤ 20000) (h3 : (fldL fs).length ≤ 65536) : fldV fs = (fldL fs, 0) := by
  have hb : fs.any bigP = false := by
    rw [List.any_eq_false]
    intro x hx
    have := h2 x hx
    simp [bigP]
    omega
  unfold fldV
  rw [if_neg (by omega), hb, if_neg (by simp), if_neg (by omega)]
end Go.Proofs.Ytmdjcoeijlnloaa
