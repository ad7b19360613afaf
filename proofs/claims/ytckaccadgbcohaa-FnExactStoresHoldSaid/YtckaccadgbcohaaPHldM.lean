/- impl.StoresHold returns what spec.StoresHold returns: the law FnExactStoresHold returns true for every cluster, and its argument reads afterwards as it read before. No conditions. -/
import Derived.Test.YtckaccadgbcohaaCluY
import Derived.Test.YtckaccadgbcohaaComm
import Derived.Deep.RegionHeld3
import Derived.Test.YtckaccadgbcohaaCluX
import Derived.Test.YtckaccadgbcohaaFrmC
namespace Go.Proofs.Ytckaccadgbcohaa
set_option linter.unusedVariables false
set_option linter.unusedSimpArgs false
section
open Go.RowKit
theorem cluOK_p {C : CluA} (h : cluOK C = true) : CluP C := by
  by_cases hp : CluP C
  · exact hp
  · rw [cluOK_false hp] at h; cases h
def prefB (xs ys : List ByteArray) : Bool := decide (xs.length ≤ ys.length) && decide (xs = ys.take xs.length)
theorem prefB_at {xs ys : List ByteArray} : prefB xs ys = true ↔ xs.length ≤ ys.length ∧ ∀ j (h1 : j < xs.length) (h2 : j < ys.length), xs[j] = ys[j] := by
  unfold prefB
  rw [Bool.and_eq_true, decide_eq_true_eq, decide_eq_true_eq]
  constructor
  · rintro ⟨h1, h2⟩
    refine ⟨h1, fun j a b => ?_⟩
    have e1 : xs[j]? = (ys.take xs.length)[j]? := congrArg (fun l => l[j]?) h2
    rw [List.getElem?_take_of_lt a, List.getElem?_eq_getElem a, List.getElem?_eq_getElem b] at e1
    exact Option.some.inj e1
  · rintro ⟨h1, h2⟩
    refine ⟨h1, List.ext_getElem (by simp; omega) (fun i a b => ?_)⟩
    rw [List.getElem_take]
    exact h2 i a (by omega)
def comD (N : NodeV) : List ByteArray := datas N.log N.commit.toNat
noncomputable def agrB (Ns : List NodeV) (ds : List ByteArray) : Bool := Ns.all (fun N => prefB (comD N) ds)
noncomputable def agrV (C : CluA) : Bool × Int := if cluOK C then (agrB (C.nodes.map (·.N)) C.done, 0) else (false, 1)
theorem agrV_same {C D : CluA} (h : CluSame C D) : agrV C = agrV D := by
  unfold agrV
  rw [cluOK_same h, h.nodes, h.done]
theorem agrB_true {ns : List NodeA} {ds : List ByteArray} (h : ∀ j (hj : j < ns.length), prefB (comD ns[j].N) ds = true) : agrB (ns.map (·.N)) ds = true := by
  unfold agrB
  rw [List.all_map, List.all_eq_true]
  intro r hr
  obtain ⟨i, hi, rfl⟩ := List.getElem_of_mem hr
  exact h i hi
theorem agrB_false {ns : List NodeA} {ds : List ByteArray} {j : Nat} (hj : j < ns.length) (h : ¬ prefB (comD ns[j].N) ds = true) : agrB (ns.map (·.N)) ds = false := by
  unfold agrB
  rw [List.all_map]
  cases hb : ns.all ((fun N => prefB (comD N) ds) ∘ fun x => x.N) with
  | false => rfl
  | true =>
    rw [List.all_eq_true] at hb
    exact absurd (hb ns[j] (List.getElem_mem _)) h
theorem datas_len {xs : List Ent} {c : Nat} (h : c ≤ xs.length) : (datas xs c).length = c := by simp [datas]; omega
theorem datas_at {xs : List Ent} {c j : Nat} (h : j < c) (hc : c ≤ xs.length) : (datas xs c)[j]'(by rw [datas_len hc]; exact h) = (xs[j]'(by omega)).2 := by
  simp [datas]
set_option maxRecDepth 100000 in
set_option maxHeartbeats 1000000 in
theorem strEqual_c (a b : Option Addr) (ca cb : Nat) (xs ys : List ByteArray) (w : World) (ha : Sl strE 1 w a xs) (hb : Sl strE 1 w b ys) (la : xs.length ≤ 1048576) (lb : ys.length ≤ 1048576) :
    Calls Try.prog 83 #[.slice a xs.length ca, .slice b ys.length cb] w fun e w' => e = .returned (.bool (decide (xs = ys))) ∧ Below w.heap.size w w' := by
  by_cases hl : xs.length = ys.length
  · go_enter Try.func83, Try.ntmps83
    go_wp2_with fail
    go_loopw [13] (fun i wr => ∃ k : Nat, k ≤ xs.length ∧ i = .int .i64 k ∧ xs.take k = ys.take k ∧ Below w.heap.size w wr) (fun i _ => xs.length - (intOf i).toNat)
    case atStart => exact ⟨0, Nat.zero_le _, rfl, rfl, Below.refl _ _⟩
    case round =>
      obtain ⟨k, hk, rfl, ht, hbel⟩ := hrel
      have HT := Lib.hid ht
      clear ht
      by_cases hlt : k < xs.length
      · have hlt2 : k < ys.length := by omega
        obtain ⟨b1, o1, rfl, hb1, hc1⟩ := (ha.keep hbel).at hlt
        obtain ⟨b2, o2, rfl, hb2, hc2⟩ := (hb.keep hbel).at hlt2
        have c1 := hc1 k hlt 0 (by omega)
        have c2 := hc2 k hlt2 0 (by omega)
        simp only [strE, Nat.mul_one, Nat.add_zero, List.getElem?_cons_zero] at c1 c2
        clear hc1 hc2
        have HL := Lib.hid hl
        clear hl
        by_cases e2 : xs[k] = ys[k]
        · have f2 : (xs[k].toList == ys[k].toList) = true := by rw [e2]; simp
          have E2 := Lib.hid e2
          clear e2
          go_wp2_with fail
          go_quiet (fail)
          go_wp2_with fail
          go_roundw
          case rel =>
            refine ⟨k + 1, by omega, by go_num, ?_, hbel.trans (below_drewN _ _ _)⟩
            rw [List.take_succ_eq_append_getElem hlt, List.take_succ_eq_append_getElem hlt2, HT.out, E2.out]
          case measure => simp [intOf]; omega
        · have f2 : (xs[k].toList == ys[k].toList) = false := by simp [toList_eq, e2]
          have E2 := Lib.hid e2
          clear e2
          go_wp2_with fail
          go_quiet (fail)
          go_wp2_with fail
          go_ret
          refine ⟨?_, hbel.trans (below_drewN _ _ _)⟩
          have hne : xs ≠ ys := by rintro rfl; exact E2.out rfl
          simp [hne]
      · have hkn : k = xs.length := by omega
        go_wp2_with fail
        go_ret
        refine ⟨?_, hbel⟩
        have h1 := HT.out
        rw [List.take_of_length_le (by omega), List.take_of_length_le (by omega)] at h1
        simp [h1]
  · have hl' : ((xs.length : Int) == (ys.length : Int)) = false := by simp; omega
    have hd : decide (xs = ys) = false := by simp; intro h; exact hl (by rw [h])
    rw [hd]
    clear hd
    go_enter Try.func83, Try.ntmps83
    go_wp2_with fail
    go_ret
    exact ⟨rfl, (by repeat (first | exact Below.refl _ _ | (refine Below.alloc ?_ (by (try simp) <;> (try omega)) _) | (refine Below.setCell ?_ (by (try simp) <;> (try omega)) _) | (refine Below.drew ?_) | (refine Below.trans ?_ (Below.mono (by assumption) (by (try simp) <;> (try omega))))))⟩
theorem Sl.take {α : Type} {enc : α → List Value} {sz : Nat} {w : World} {a : Option Addr} {xs : List α} (h : Sl enc sz w a xs) (n : Nat) : Sl enc sz w a (xs.take n) := by
  rcases h with rfl | ⟨b, off, rfl, hlt, hc⟩
  · exact .inl (by simp)
  · exact .inr ⟨b, off, rfl, hlt, fun i hi j hj => by
      have hi2 : i < xs.length := by simp at hi; omega
      rw [List.getElem_take]
      exact hc i hi2 j hj⟩
set_option maxRecDepth 100000 in
set_option maxHeartbeats 1000000 in
theorem isPrefix_c (a b : Option Addr) (ca cb : Nat) (xs ys : List ByteArray) (w : World) (ha : Sl strE 1 w a xs) (hb : Sl strE 1 w b ys) (la : xs.length ≤ 1048576) (lb : ys.length ≤ 1048576) (hc : ys.length ≤ cb) :
    Calls Try.prog 45 #[.slice a xs.length ca, .slice b ys.length cb] w fun e w' => e = .returned (.bool (prefB xs ys)) ∧ Below w.heap.size w w' := by
  obtain ⟨v, hv⟩ : ∃ v, decide (xs = ys.take xs.length) = v := ⟨_, rfl⟩
  have HV := Lib.hid hv
  unfold prefB
  by_cases hl : xs.length ≤ ys.length
  · have hd : decide (xs.length ≤ ys.length) = true := decide_eq_true hl
    rw [hd, hv, Bool.true_and]
    have hs := hb.take xs.length
    have hm : (ys.take xs.length).length = xs.length := by simp; omega
    have HM := Lib.hid hm
    have hcc : xs.length ≤ cb := by omega
    have H : Hid (∀ c, Calls Try.prog 83 #[.slice a xs.length ca, .slice b xs.length c] w fun e w' => e = .returned (.bool v) ∧ Below w.heap.size w w') := Lib.hid (fun c => by
      have := strEqual_c a b ca c xs (ys.take xs.length) w ha hs la (by omega)
      rw [hm, hv] at this
      exact this)
    have hd' : decide ((xs.length : Int) ≤ (ys.length : Int)) = true := by simp; omega
    clear hd hv hm
    go_enter Try.func45, Try.ntmps45
    go_wp2_with fail
    refine (H.out _).mono ?_
    rintro e w1 ⟨rfl, hb1⟩
    go_wp2_with fail
    go_ret
    exact ⟨rfl, hb1⟩
  · have hd : decide (xs.length ≤ ys.length) = false := decide_eq_false hl
    rw [hd, Bool.false_and]
    clear hd hv
    go_enter Try.func45, Try.ntmps45
    go_wp2_with fail
    go_ret
    exact ⟨rfl, Below.refl _ _⟩

set_option maxRecDepth 100000 in
set_option maxHeartbeats 8000000 in
theorem implAgree_c (ns : List NodeA) (an : Option Addr) (cn : Nat) (ss : List Sto) (ast : Option Addr) (cst : Nat) (ws : List MsgA) (aw : Option Addr) (cw : Nat) (ds : List ByteArray) (ad : Option Addr) (cd : Nat) (w : World) (hC : CluOK w (⟨ns, an, cn, ss, ast, cst, ws, aw, cw, ds, ad, cd⟩ : CluA)) (hcd : ds.length ≤ cd) (hZ : CluSz (⟨ns, an, cn, ss, ast, cst, ws, aw, cw, ds, ad, cd⟩ : CluA) 1048576) :
    Calls Try.prog 14 #[.agg #[.slice an ns.length cn, .slice ast ss.length cst, .slice aw ws.length cw, .slice ad ds.length cd]] w fun e w' => e = .returned (.tuple #[.bool (agrV (⟨ns, an, cn, ss, ast, cst, ws, aw, cw, ds, ad, cd⟩ : CluA)).1, .int .i64 (agrV (⟨ns, an, cn, ss, ast, cst, ws, aw, cw, ds, ad, cd⟩ : CluA)).2]) ∧ Below w.heap.size w w' := by
  have hn1 : NodeS w an ns := hC.nodes
  have hs1 : Sl stoE 2 w ast ss := hC.stores
  have hd1 : Sl strE 1 w ad ds := hC.done
  have HC1 := Lib.hid (hC.alloc (.cells #[.slice an ns.length cn, .slice ast ss.length cst, .slice aw ws.length cw, .slice ad ds.length cd] 34))
  have HZ := Lib.hid hZ
  have ZN : Hid (∀ r ∈ ns, NodeSz r.N 1048576) := hZ.nodes
  have zn : ns.length ≤ 1048576 := hZ.nl
  have zd : ds.length ≤ 1048576 := hZ.dl
  clear hZ hC
  unfold agrV
  obtain ⟨v, hv⟩ : ∃ v, cluOK (⟨ns, an, cn, ss, ast, cst, ws, aw, cw, ds, ad, cd⟩ : CluA) = v := ⟨_, rfl⟩
  have HV := Lib.hid hv
  rw [hv]
  clear hv
  cases v
  case false =>
    simp only [Bool.false_eq_true, if_false]
    go_enter Try.func14, Try.ntmps14
    go_wp2_with fail
    refine (isCluster_c ns an cn ss ast cst ws aw cw ds ad cd _ HC1.out HZ.out).mono ?_
    rw [HV.out]
    rintro e w1 ⟨rfl, hb1⟩
    go_wp2_with fail
    go_ret2
    exact ⟨rfl, ((Below.refl _ _).alloc (Nat.le_refl _) _).trans (hb1.mono (by simp))⟩
  case true =>
    simp only [if_true]
    have hp : CluP (⟨ns, an, cn, ss, ast, cst, ws, aw, cw, ds, ad, cd⟩ : CluA) := cluOK_p HV.out
    have ROW : Hid (∀ i (h1 : i < ns.length) (h2 : i < ss.length), rowOK ns.length i ns[i].N ss[i] = true) := Lib.hid hp.rows
    have HSL : Hid (ss.length = ns.length) := Lib.hid hp.sl
    have hn5 : 1 ≤ ns.length ∧ ns.length ≤ 5 := by have h2 : inB (ns.length : Int) 1 5 = true := hp.cnt; simp [inB] at h2; omega
    have hdl : ds.length ≤ 60 := hp.dl
    clear hp
    obtain ⟨V, hV⟩ : ∃ V, agrB (List.map (fun x => x.N) ns) ds = V := ⟨_, rfl⟩
    show Calls Try.prog 14 #[.agg #[.slice an ns.length cn, .slice ast ss.length cst, .slice aw ws.length cw, .slice ad ds.length cd]] w fun e w' => e = .returned (.tuple #[.bool (agrB (List.map (fun x => x.N) ns) ds), .int .i64 0]) ∧ Below w.heap.size w w'
    rw [hV]
    have HF : Hid (∀ j (hj : j < ns.length), ¬ prefB (comD ns[j].N) ds = true → V = false) := Lib.hid (fun j hj h => hV ▸ agrB_false hj h)
    have HT : Hid ((∀ j (hj : j < ns.length), prefB (comD ns[j].N) ds = true) → V = true) := Lib.hid (fun h => hV ▸ agrB_true h)
    clear hV
    go_enter Try.func14, Try.ntmps14
    go_wp2_with fail
    refine (isCluster_c ns an cn ss ast cst ws aw cw ds ad cd _ HC1.out HZ.out).mono ?_
    rw [HV.out]
    rintro e w1 ⟨rfl, hb1⟩
    have hz1 := hb1.size
    simp only [World.size_alloc] at hz1
    have hn2 := (hn1.alloc (.cells #[.slice an ns.length cn, .slice ast ss.length cst, .slice aw ws.length cw, .slice ad ds.length cd] 34)).keep hb1
    have hs2 := (hs1.alloc (.cells #[.slice an ns.length cn, .slice ast ss.length cst, .slice aw ws.length cw, .slice ad ds.length cd] 34)).keep hb1
    have hd2 := (hd1.alloc (.cells #[.slice an ns.length cn, .slice ast ss.length cst, .slice aw ws.length cw, .slice ad ds.length cd] 34)).keep hb1
    have k_0 : w1.cell? ⟨w.heap.size, 0, none⟩ = some (.slice an ns.length cn) := (hb1.cell (p := ⟨w.heap.size, 0, none⟩) (by show w.heap.size < _; simp)).trans (by simp [go_sem])
    have k_1 : w1.cell? ⟨w.heap.size, 1, none⟩ = some (.slice ast ss.length cst) := (hb1.cell (p := ⟨w.heap.size, 1, none⟩) (by show w.heap.size < _; simp)).trans (by simp [go_sem])
    have k_2 : w1.cell? ⟨w.heap.size, 2, none⟩ = some (.slice aw ws.length cw) := (hb1.cell (p := ⟨w.heap.size, 2, none⟩) (by show w.heap.size < _; simp)).trans (by simp [go_sem])
    have k_3 : w1.cell? ⟨w.heap.size, 3, none⟩ = some (.slice ad ds.length cd) := (hb1.cell (p := ⟨w.heap.size, 3, none⟩) (by show w.heap.size < _; simp)).trans (by simp [go_sem])
    have HB0 : Hid (Below w.heap.size w w1) := ((Below.refl _ _).alloc (Nat.le_refl _) _).trans (hb1.mono (by simp))
    clear hb1 hn1 hs1 hd1
    go_wp2_with fail
    go_loopw [12] (fun i wr => ∃ k : Nat, k ≤ ns.length ∧ i = .int .i64 k ∧ (∀ j (h1 : j < ns.length), j < k → prefB (comD ns[j].N) ds = true) ∧ Below w1.heap.size w1 wr) (fun i _ => ns.length - (intOf i).toNat)
    case atStart => exact ⟨0, Nat.zero_le _, rfl, fun j _ h => absurd h (Nat.not_lt_zero _), Below.refl _ _⟩
    case round =>
      obtain ⟨k, hk, rfl, hrows, hbel⟩ := hrel
      have HR := Lib.hid hrows
      have HBL := Lib.hid hbel
      have hzr := hbel.size
      have hlC : w.heap.size < wr.heap.size := by omega
      clear hrows
      have kr_0 : wr.cell? ⟨w.heap.size, 0, none⟩ = some (.slice an ns.length cn) := (hbel.cell (p := ⟨w.heap.size, 0, none⟩) (by show w.heap.size < _; omega)).trans k_0
      have kr_1 : wr.cell? ⟨w.heap.size, 1, none⟩ = some (.slice ast ss.length cst) := (hbel.cell (p := ⟨w.heap.size, 1, none⟩) (by show w.heap.size < _; omega)).trans k_1
      have kr_2 : wr.cell? ⟨w.heap.size, 2, none⟩ = some (.slice aw ws.length cw) := (hbel.cell (p := ⟨w.heap.size, 2, none⟩) (by show w.heap.size < _; omega)).trans k_2
      have kr_3 : wr.cell? ⟨w.heap.size, 3, none⟩ = some (.slice ad ds.length cd) := (hbel.cell (p := ⟨w.heap.size, 3, none⟩) (by show w.heap.size < _; omega)).trans k_3
      by_cases hlt : k < ns.length
      · skip
        have hlt2 : k < ss.length := by have := HSL.out; omega
        obtain ⟨b1, o1, rfl, hb1, hc1⟩ := (hn2.1.keep hbel).at hlt
        have c0 := hc1 k hlt 0 (by omega)
        have c1 := hc1 k hlt 1 (by omega)
        have c2 := hc1 k hlt 2 (by omega)
        have c3 := hc1 k hlt 3 (by omega)
        have c4 := hc1 k hlt 4 (by omega)
        have c5 := hc1 k hlt 5 (by omega)
        have c6 := hc1 k hlt 6 (by omega)
        have c7 := hc1 k hlt 7 (by omega)
        have c8 := hc1 k hlt 8 (by omega)
        have c9 := hc1 k hlt 9 (by omega)
        have c10 := hc1 k hlt 10 (by omega)
        have c11 := hc1 k hlt 11 (by omega)
        have c12 := hc1 k hlt 12 (by omega)
        simp only [nodeE, Nat.add_zero, List.getElem?_cons_zero, List.getElem?_cons_succ] at c0 c1 c2 c3 c4 c5 c6 c7 c8 c9 c10 c11 c12
        clear hc1
        have ok1 := (hn2.2 ns[k] (List.getElem_mem _)).keep hbel
        have zr := ZN.out ns[k] (List.getElem_mem _)
        have hcl := ok1.2
        have hrow := ROW.out k hlt hlt2
        have hno : nodeOK ns[k].N = true := by unfold rowOK at hrow; simp at hrow; exact hrow.1
        obtain ⟨c, hcN, hcL⟩ := nodeOK_commit hno
        have HCN := Lib.hid hcN
        have HROW := Lib.hid hrow
        clear hno hcN hrow
        have hd3 := hd2.keep hbel
        have HPREF : Hid (prefB (comD ns[k].N) ds = prefB (datas ns[k].N.log c) ds) := Lib.hid (by unfold comD; rw [HCN.out]; rfl)
        have hdl2 := datas_le ns[k].N.log c
        have HNEXT : Hid (prefB (comD ns[k].N) ds = true → ∀ j (h1 : j < ns.length), j < k + 1 → prefB (comD ns[j].N) ds = true) := Lib.hid (fun h j h1 hj => by
          rcases Nat.lt_succ_iff_lt_or_eq.1 hj with hj | rfl
          · exact HR.out j h1 hj
          · exact h)
        have HNO : Hid (¬ prefB (comD ns[k].N) ds = true → V = false) := Lib.hid (HF.out k hlt)
        generalize ns[k] = r at ok1 zr hcl HCN hcL HROW HPREF hdl2 HNEXT HNO c0 c1 c2 c3 c4 c5 c6 c7 c8 c9 c10 c11 c12
        have zl := zr.log
        go_wp2_with fail
        have ok2 := NodeA.ok.keep ok1 ((Below.refl _ _).alloc (Nat.le_refl _) (.cells #[.int .i64 r.N.id, .int .i64 r.N.nodes, .int .i64 r.N.term, .int .i64 r.N.vote, .int .i64 r.N.role, .bool r.N.up, .slice r.al r.N.log.length r.cl, .int .i64 r.N.commit, .int .i64 r.N.elapsed, .int .i64 r.N.wait, .slice r.av r.N.votes.length r.cv, .slice r.an r.N.next.length r.cn, .slice r.am r.N.mtch.length r.cm] 54))
        have hd4 := hd3.alloc (.cells #[.int .i64 r.N.id, .int .i64 r.N.nodes, .int .i64 r.N.term, .int .i64 r.N.vote, .int .i64 r.N.role, .bool r.N.up, .slice r.al r.N.log.length r.cl, .int .i64 r.N.commit, .int .i64 r.N.elapsed, .int .i64 r.N.wait, .slice r.av r.N.votes.length r.cv, .slice r.an r.N.next.length r.cn, .slice r.am r.N.mtch.length r.cm] 54)
        have HBX : Hid (Below w1.heap.size w1 (wr.alloc (.cells #[.int .i64 r.N.id, .int .i64 r.N.nodes, .int .i64 r.N.term, .int .i64 r.N.vote, .int .i64 r.N.role, .bool r.N.up, .slice r.al r.N.log.length r.cl, .int .i64 r.N.commit, .int .i64 r.N.elapsed, .int .i64 r.N.wait, .slice r.av r.N.votes.length r.cv, .slice r.an r.N.next.length r.cn, .slice r.am r.N.mtch.length r.cm] 54))) := HBL.out.alloc (by omega) _
        have hzx : (wr.alloc (.cells #[.int .i64 r.N.id, .int .i64 r.N.nodes, .int .i64 r.N.term, .int .i64 r.N.vote, .int .i64 r.N.role, .bool r.N.up, .slice r.al r.N.log.length r.cl, .int .i64 r.N.commit, .int .i64 r.N.elapsed, .int .i64 r.N.wait, .slice r.av r.N.votes.length r.cv, .slice r.an r.N.next.length r.cn, .slice r.am r.N.mtch.length r.cm] 54)).heap.size = wr.heap.size + 1 := by simp
        have y_0 : (wr.alloc (.cells #[.int .i64 r.N.id, .int .i64 r.N.nodes, .int .i64 r.N.term, .int .i64 r.N.vote, .int .i64 r.N.role, .bool r.N.up, .slice r.al r.N.log.length r.cl, .int .i64 r.N.commit, .int .i64 r.N.elapsed, .int .i64 r.N.wait, .slice r.av r.N.votes.length r.cv, .slice r.an r.N.next.length r.cn, .slice r.am r.N.mtch.length r.cm] 54)).cell? ⟨w.heap.size, 0, none⟩ = some (.slice (some ⟨b1, o1, none⟩) ns.length cn) := (World.cell?_alloc_lt _ _ _ (by show w.heap.size < _; omega)).trans kr_0
        have y_1 : (wr.alloc (.cells #[.int .i64 r.N.id, .int .i64 r.N.nodes, .int .i64 r.N.term, .int .i64 r.N.vote, .int .i64 r.N.role, .bool r.N.up, .slice r.al r.N.log.length r.cl, .int .i64 r.N.commit, .int .i64 r.N.elapsed, .int .i64 r.N.wait, .slice r.av r.N.votes.length r.cv, .slice r.an r.N.next.length r.cn, .slice r.am r.N.mtch.length r.cm] 54)).cell? ⟨w.heap.size, 1, none⟩ = some (.slice ast ss.length cst) := (World.cell?_alloc_lt _ _ _ (by show w.heap.size < _; omega)).trans kr_1
        have y_2 : (wr.alloc (.cells #[.int .i64 r.N.id, .int .i64 r.N.nodes, .int .i64 r.N.term, .int .i64 r.N.vote, .int .i64 r.N.role, .bool r.N.up, .slice r.al r.N.log.length r.cl, .int .i64 r.N.commit, .int .i64 r.N.elapsed, .int .i64 r.N.wait, .slice r.av r.N.votes.length r.cv, .slice r.an r.N.next.length r.cn, .slice r.am r.N.mtch.length r.cm] 54)).cell? ⟨w.heap.size, 2, none⟩ = some (.slice aw ws.length cw) := (World.cell?_alloc_lt _ _ _ (by show w.heap.size < _; omega)).trans kr_2
        have y_3 : (wr.alloc (.cells #[.int .i64 r.N.id, .int .i64 r.N.nodes, .int .i64 r.N.term, .int .i64 r.N.vote, .int .i64 r.N.role, .bool r.N.up, .slice r.al r.N.log.length r.cl, .int .i64 r.N.commit, .int .i64 r.N.elapsed, .int .i64 r.N.wait, .slice r.av r.N.votes.length r.cv, .slice r.an r.N.next.length r.cn, .slice r.am r.N.mtch.length r.cm] 54)).cell? ⟨w.heap.size, 3, none⟩ = some (.slice ad ds.length cd) := (World.cell?_alloc_lt _ _ _ (by show w.heap.size < _; omega)).trans kr_3
        have x_0 : (wr.alloc (.cells #[.int .i64 r.N.id, .int .i64 r.N.nodes, .int .i64 r.N.term, .int .i64 r.N.vote, .int .i64 r.N.role, .bool r.N.up, .slice r.al r.N.log.length r.cl, .int .i64 r.N.commit, .int .i64 r.N.elapsed, .int .i64 r.N.wait, .slice r.av r.N.votes.length r.cv, .slice r.an r.N.next.length r.cn, .slice r.am r.N.mtch.length r.cm] 54)).cell? ⟨wr.heap.size, 0, none⟩ = some (.int .i64 r.N.id) := by simp [go_sem]
        have x_1 : (wr.alloc (.cells #[.int .i64 r.N.id, .int .i64 r.N.nodes, .int .i64 r.N.term, .int .i64 r.N.vote, .int .i64 r.N.role, .bool r.N.up, .slice r.al r.N.log.length r.cl, .int .i64 r.N.commit, .int .i64 r.N.elapsed, .int .i64 r.N.wait, .slice r.av r.N.votes.length r.cv, .slice r.an r.N.next.length r.cn, .slice r.am r.N.mtch.length r.cm] 54)).cell? ⟨wr.heap.size, 1, none⟩ = some (.int .i64 r.N.nodes) := by simp [go_sem]
        have x_2 : (wr.alloc (.cells #[.int .i64 r.N.id, .int .i64 r.N.nodes, .int .i64 r.N.term, .int .i64 r.N.vote, .int .i64 r.N.role, .bool r.N.up, .slice r.al r.N.log.length r.cl, .int .i64 r.N.commit, .int .i64 r.N.elapsed, .int .i64 r.N.wait, .slice r.av r.N.votes.length r.cv, .slice r.an r.N.next.length r.cn, .slice r.am r.N.mtch.length r.cm] 54)).cell? ⟨wr.heap.size, 2, none⟩ = some (.int .i64 r.N.term) := by simp [go_sem]
        have x_3 : (wr.alloc (.cells #[.int .i64 r.N.id, .int .i64 r.N.nodes, .int .i64 r.N.term, .int .i64 r.N.vote, .int .i64 r.N.role, .bool r.N.up, .slice r.al r.N.log.length r.cl, .int .i64 r.N.commit, .int .i64 r.N.elapsed, .int .i64 r.N.wait, .slice r.av r.N.votes.length r.cv, .slice r.an r.N.next.length r.cn, .slice r.am r.N.mtch.length r.cm] 54)).cell? ⟨wr.heap.size, 3, none⟩ = some (.int .i64 r.N.vote) := by simp [go_sem]
        have x_4 : (wr.alloc (.cells #[.int .i64 r.N.id, .int .i64 r.N.nodes, .int .i64 r.N.term, .int .i64 r.N.vote, .int .i64 r.N.role, .bool r.N.up, .slice r.al r.N.log.length r.cl, .int .i64 r.N.commit, .int .i64 r.N.elapsed, .int .i64 r.N.wait, .slice r.av r.N.votes.length r.cv, .slice r.an r.N.next.length r.cn, .slice r.am r.N.mtch.length r.cm] 54)).cell? ⟨wr.heap.size, 4, none⟩ = some (.int .i64 r.N.role) := by simp [go_sem]
        have x_5 : (wr.alloc (.cells #[.int .i64 r.N.id, .int .i64 r.N.nodes, .int .i64 r.N.term, .int .i64 r.N.vote, .int .i64 r.N.role, .bool r.N.up, .slice r.al r.N.log.length r.cl, .int .i64 r.N.commit, .int .i64 r.N.elapsed, .int .i64 r.N.wait, .slice r.av r.N.votes.length r.cv, .slice r.an r.N.next.length r.cn, .slice r.am r.N.mtch.length r.cm] 54)).cell? ⟨wr.heap.size, 5, none⟩ = some (.bool r.N.up) := by simp [go_sem]
        have x_6 : (wr.alloc (.cells #[.int .i64 r.N.id, .int .i64 r.N.nodes, .int .i64 r.N.term, .int .i64 r.N.vote, .int .i64 r.N.role, .bool r.N.up, .slice r.al r.N.log.length r.cl, .int .i64 r.N.commit, .int .i64 r.N.elapsed, .int .i64 r.N.wait, .slice r.av r.N.votes.length r.cv, .slice r.an r.N.next.length r.cn, .slice r.am r.N.mtch.length r.cm] 54)).cell? ⟨wr.heap.size, 6, none⟩ = some (.slice r.al r.N.log.length r.cl) := by simp [go_sem]
        have x_7 : (wr.alloc (.cells #[.int .i64 r.N.id, .int .i64 r.N.nodes, .int .i64 r.N.term, .int .i64 r.N.vote, .int .i64 r.N.role, .bool r.N.up, .slice r.al r.N.log.length r.cl, .int .i64 r.N.commit, .int .i64 r.N.elapsed, .int .i64 r.N.wait, .slice r.av r.N.votes.length r.cv, .slice r.an r.N.next.length r.cn, .slice r.am r.N.mtch.length r.cm] 54)).cell? ⟨wr.heap.size, 7, none⟩ = some (.int .i64 r.N.commit) := by simp [go_sem]
        have x_8 : (wr.alloc (.cells #[.int .i64 r.N.id, .int .i64 r.N.nodes, .int .i64 r.N.term, .int .i64 r.N.vote, .int .i64 r.N.role, .bool r.N.up, .slice r.al r.N.log.length r.cl, .int .i64 r.N.commit, .int .i64 r.N.elapsed, .int .i64 r.N.wait, .slice r.av r.N.votes.length r.cv, .slice r.an r.N.next.length r.cn, .slice r.am r.N.mtch.length r.cm] 54)).cell? ⟨wr.heap.size, 8, none⟩ = some (.int .i64 r.N.elapsed) := by simp [go_sem]
        have x_9 : (wr.alloc (.cells #[.int .i64 r.N.id, .int .i64 r.N.nodes, .int .i64 r.N.term, .int .i64 r.N.vote, .int .i64 r.N.role, .bool r.N.up, .slice r.al r.N.log.length r.cl, .int .i64 r.N.commit, .int .i64 r.N.elapsed, .int .i64 r.N.wait, .slice r.av r.N.votes.length r.cv, .slice r.an r.N.next.length r.cn, .slice r.am r.N.mtch.length r.cm] 54)).cell? ⟨wr.heap.size, 9, none⟩ = some (.int .i64 r.N.wait) := by simp [go_sem]
        have x_10 : (wr.alloc (.cells #[.int .i64 r.N.id, .int .i64 r.N.nodes, .int .i64 r.N.term, .int .i64 r.N.vote, .int .i64 r.N.role, .bool r.N.up, .slice r.al r.N.log.length r.cl, .int .i64 r.N.commit, .int .i64 r.N.elapsed, .int .i64 r.N.wait, .slice r.av r.N.votes.length r.cv, .slice r.an r.N.next.length r.cn, .slice r.am r.N.mtch.length r.cm] 54)).cell? ⟨wr.heap.size, 10, none⟩ = some (.slice r.av r.N.votes.length r.cv) := by simp [go_sem]
        have x_11 : (wr.alloc (.cells #[.int .i64 r.N.id, .int .i64 r.N.nodes, .int .i64 r.N.term, .int .i64 r.N.vote, .int .i64 r.N.role, .bool r.N.up, .slice r.al r.N.log.length r.cl, .int .i64 r.N.commit, .int .i64 r.N.elapsed, .int .i64 r.N.wait, .slice r.av r.N.votes.length r.cv, .slice r.an r.N.next.length r.cn, .slice r.am r.N.mtch.length r.cm] 54)).cell? ⟨wr.heap.size, 11, none⟩ = some (.slice r.an r.N.next.length r.cn) := by simp [go_sem]
        have x_12 : (wr.alloc (.cells #[.int .i64 r.N.id, .int .i64 r.N.nodes, .int .i64 r.N.term, .int .i64 r.N.vote, .int .i64 r.N.role, .bool r.N.up, .slice r.al r.N.log.length r.cl, .int .i64 r.N.commit, .int .i64 r.N.elapsed, .int .i64 r.N.wait, .slice r.av r.N.votes.length r.cv, .slice r.an r.N.next.length r.cn, .slice r.am r.N.mtch.length r.cm] 54)).cell? ⟨wr.heap.size, 12, none⟩ = some (.slice r.am r.N.mtch.length r.cm) := by simp [go_sem]
        generalize wr.alloc (.cells #[.int .i64 r.N.id, .int .i64 r.N.nodes, .int .i64 r.N.term, .int .i64 r.N.vote, .int .i64 r.N.role, .bool r.N.up, .slice r.al r.N.log.length r.cl, .int .i64 r.N.commit, .int .i64 r.N.elapsed, .int .i64 r.N.wait, .slice r.av r.N.votes.length r.cv, .slice r.an r.N.next.length r.cn, .slice r.am r.N.mtch.length r.cm] 54) = wx at ok2 hd4 HBX hzx y_0 y_1 y_2 y_3 x_0 x_1 x_2 x_3 x_4 x_5 x_6 x_7 x_8 x_9 x_10 x_11 x_12 ⊢
        obtain ⟨pv, hpv⟩ : ∃ v, prefB (datas r.N.log c) ds = v := ⟨_, rfl⟩
        have HPV := Lib.hid hpv
        clear hpv
        go_region_held3 (fun w' => w'.cell? ⟨w.heap.size, 0, none⟩ = some (.slice (some ⟨b1, o1, none⟩) ns.length cn) ∧ w'.cell? ⟨w.heap.size, 1, none⟩ = some (.slice ast ss.length cst) ∧ w'.cell? ⟨w.heap.size, 2, none⟩ = some (.slice aw ws.length cw) ∧ w'.cell? ⟨w.heap.size, 3, none⟩ = some (.slice ad ds.length cd) ∧ w'.cell? ⟨wr.heap.size, 0, none⟩ = some (.int .i64 r.N.id) ∧ w'.cell? ⟨wr.heap.size, 1, none⟩ = some (.int .i64 r.N.nodes) ∧ w'.cell? ⟨wr.heap.size, 2, none⟩ = some (.int .i64 r.N.term) ∧ w'.cell? ⟨wr.heap.size, 3, none⟩ = some (.int .i64 r.N.vote) ∧ w'.cell? ⟨wr.heap.size, 4, none⟩ = some (.int .i64 r.N.role) ∧ w'.cell? ⟨wr.heap.size, 5, none⟩ = some (.bool r.N.up) ∧ w'.cell? ⟨wr.heap.size, 6, none⟩ = some (.slice r.al r.N.log.length r.cl) ∧ w'.cell? ⟨wr.heap.size, 7, none⟩ = some (.int .i64 r.N.commit) ∧ w'.cell? ⟨wr.heap.size, 8, none⟩ = some (.int .i64 r.N.elapsed) ∧ w'.cell? ⟨wr.heap.size, 9, none⟩ = some (.int .i64 r.N.wait) ∧ w'.cell? ⟨wr.heap.size, 10, none⟩ = some (.slice r.av r.N.votes.length r.cv) ∧ w'.cell? ⟨wr.heap.size, 11, none⟩ = some (.slice r.an r.N.next.length r.cn) ∧ w'.cell? ⟨wr.heap.size, 12, none⟩ = some (.slice r.am r.N.mtch.length r.cm))
          (first | go_keep | (repeat' apply And.intro) <;> assumption)
          (first
          | (have tok := hb2
             clear tok
             go_at_call 45
             refine (isPrefix_c a2 ad c2 cd (datas r.N.log c) ds _ (hf2.sl fun _ => rfl) (hd4.drew.keep hb2) (by omega) zd hcd).mono ?_
             rw [HPV.out]
             rintro e w3 ⟨rfl, hb3⟩
             have hz3 := hb3.size
             try simp at hz3
             have y3_0 : w3.cell? ⟨w.heap.size, 0, none⟩ = some (.slice (some ⟨b1, o1, none⟩) ns.length cn) := by
               rw [hb3.cell (p := ⟨w.heap.size, 0, none⟩) (show w.heap.size < _ by (try simp) <;> (try omega))]
               first | assumption | (simp [go_sem, *])
             have y3_1 : w3.cell? ⟨w.heap.size, 1, none⟩ = some (.slice ast ss.length cst) := by
               rw [hb3.cell (p := ⟨w.heap.size, 1, none⟩) (show w.heap.size < _ by (try simp) <;> (try omega))]
               first | assumption | (simp [go_sem, *])
             have y3_2 : w3.cell? ⟨w.heap.size, 2, none⟩ = some (.slice aw ws.length cw) := by
               rw [hb3.cell (p := ⟨w.heap.size, 2, none⟩) (show w.heap.size < _ by (try simp) <;> (try omega))]
               first | assumption | (simp [go_sem, *])
             have y3_3 : w3.cell? ⟨w.heap.size, 3, none⟩ = some (.slice ad ds.length cd) := by
               rw [hb3.cell (p := ⟨w.heap.size, 3, none⟩) (show w.heap.size < _ by (try simp) <;> (try omega))]
               first | assumption | (simp [go_sem, *])
             have x3_0 : w3.cell? ⟨wr.heap.size, 0, none⟩ = some (.int .i64 r.N.id) := by
               rw [hb3.cell (p := ⟨wr.heap.size, 0, none⟩) (show wr.heap.size < _ by (try simp) <;> (try omega))]
               first | assumption | (simp [go_sem, *])
             have x3_1 : w3.cell? ⟨wr.heap.size, 1, none⟩ = some (.int .i64 r.N.nodes) := by
               rw [hb3.cell (p := ⟨wr.heap.size, 1, none⟩) (show wr.heap.size < _ by (try simp) <;> (try omega))]
               first | assumption | (simp [go_sem, *])
             have x3_2 : w3.cell? ⟨wr.heap.size, 2, none⟩ = some (.int .i64 r.N.term) := by
               rw [hb3.cell (p := ⟨wr.heap.size, 2, none⟩) (show wr.heap.size < _ by (try simp) <;> (try omega))]
               first | assumption | (simp [go_sem, *])
             have x3_3 : w3.cell? ⟨wr.heap.size, 3, none⟩ = some (.int .i64 r.N.vote) := by
               rw [hb3.cell (p := ⟨wr.heap.size, 3, none⟩) (show wr.heap.size < _ by (try simp) <;> (try omega))]
               first | assumption | (simp [go_sem, *])
             have x3_4 : w3.cell? ⟨wr.heap.size, 4, none⟩ = some (.int .i64 r.N.role) := by
               rw [hb3.cell (p := ⟨wr.heap.size, 4, none⟩) (show wr.heap.size < _ by (try simp) <;> (try omega))]
               first | assumption | (simp [go_sem, *])
             have x3_5 : w3.cell? ⟨wr.heap.size, 5, none⟩ = some (.bool r.N.up) := by
               rw [hb3.cell (p := ⟨wr.heap.size, 5, none⟩) (show wr.heap.size < _ by (try simp) <;> (try omega))]
               first | assumption | (simp [go_sem, *])
             have x3_6 : w3.cell? ⟨wr.heap.size, 6, none⟩ = some (.slice r.al r.N.log.length r.cl) := by
               rw [hb3.cell (p := ⟨wr.heap.size, 6, none⟩) (show wr.heap.size < _ by (try simp) <;> (try omega))]
               first | assumption | (simp [go_sem, *])
             have x3_7 : w3.cell? ⟨wr.heap.size, 7, none⟩ = some (.int .i64 r.N.commit) := by
               rw [hb3.cell (p := ⟨wr.heap.size, 7, none⟩) (show wr.heap.size < _ by (try simp) <;> (try omega))]
               first | assumption | (simp [go_sem, *])
             have x3_8 : w3.cell? ⟨wr.heap.size, 8, none⟩ = some (.int .i64 r.N.elapsed) := by
               rw [hb3.cell (p := ⟨wr.heap.size, 8, none⟩) (show wr.heap.size < _ by (try simp) <;> (try omega))]
               first | assumption | (simp [go_sem, *])
             have x3_9 : w3.cell? ⟨wr.heap.size, 9, none⟩ = some (.int .i64 r.N.wait) := by
               rw [hb3.cell (p := ⟨wr.heap.size, 9, none⟩) (show wr.heap.size < _ by (try simp) <;> (try omega))]
               first | assumption | (simp [go_sem, *])
             have x3_10 : w3.cell? ⟨wr.heap.size, 10, none⟩ = some (.slice r.av r.N.votes.length r.cv) := by
               rw [hb3.cell (p := ⟨wr.heap.size, 10, none⟩) (show wr.heap.size < _ by (try simp) <;> (try omega))]
               first | assumption | (simp [go_sem, *])
             have x3_11 : w3.cell? ⟨wr.heap.size, 11, none⟩ = some (.slice r.an r.N.next.length r.cn) := by
               rw [hb3.cell (p := ⟨wr.heap.size, 11, none⟩) (show wr.heap.size < _ by (try simp) <;> (try omega))]
               first | assumption | (simp [go_sem, *])
             have x3_12 : w3.cell? ⟨wr.heap.size, 12, none⟩ = some (.slice r.am r.N.mtch.length r.cm) := by
               rw [hb3.cell (p := ⟨wr.heap.size, 12, none⟩) (show wr.heap.size < _ by (try simp) <;> (try omega))]
               first | assumption | (simp [go_sem, *]))
          | (go_at_call 46
             refine (implCommitted0_c r.al r.cl r.av r.cv r.an r.cn r.am r.cm r.N c _ ok2.1.drew zr hcl HCN.out hcL).mono ?_
             rintro e w2 ⟨a2, c2, rfl, hf2, hb2⟩
             have hz2 := hb2.size
             try simp at hz2
             have y2_0 : w2.cell? ⟨w.heap.size, 0, none⟩ = some (.slice (some ⟨b1, o1, none⟩) ns.length cn) := by
               rw [hb2.cell (p := ⟨w.heap.size, 0, none⟩) (show w.heap.size < _ by (try simp) <;> (try omega))]
               first | assumption | (simp [go_sem, *])
             have y2_1 : w2.cell? ⟨w.heap.size, 1, none⟩ = some (.slice ast ss.length cst) := by
               rw [hb2.cell (p := ⟨w.heap.size, 1, none⟩) (show w.heap.size < _ by (try simp) <;> (try omega))]
               first | assumption | (simp [go_sem, *])
             have y2_2 : w2.cell? ⟨w.heap.size, 2, none⟩ = some (.slice aw ws.length cw) := by
               rw [hb2.cell (p := ⟨w.heap.size, 2, none⟩) (show w.heap.size < _ by (try simp) <;> (try omega))]
               first | assumption | (simp [go_sem, *])
             have y2_3 : w2.cell? ⟨w.heap.size, 3, none⟩ = some (.slice ad ds.length cd) := by
               rw [hb2.cell (p := ⟨w.heap.size, 3, none⟩) (show w.heap.size < _ by (try simp) <;> (try omega))]
               first | assumption | (simp [go_sem, *])
             have x2_0 : w2.cell? ⟨wr.heap.size, 0, none⟩ = some (.int .i64 r.N.id) := by
               rw [hb2.cell (p := ⟨wr.heap.size, 0, none⟩) (show wr.heap.size < _ by (try simp) <;> (try omega))]
               first | assumption | (simp [go_sem, *])
             have x2_1 : w2.cell? ⟨wr.heap.size, 1, none⟩ = some (.int .i64 r.N.nodes) := by
               rw [hb2.cell (p := ⟨wr.heap.size, 1, none⟩) (show wr.heap.size < _ by (try simp) <;> (try omega))]
               first | assumption | (simp [go_sem, *])
             have x2_2 : w2.cell? ⟨wr.heap.size, 2, none⟩ = some (.int .i64 r.N.term) := by
               rw [hb2.cell (p := ⟨wr.heap.size, 2, none⟩) (show wr.heap.size < _ by (try simp) <;> (try omega))]
               first | assumption | (simp [go_sem, *])
             have x2_3 : w2.cell? ⟨wr.heap.size, 3, none⟩ = some (.int .i64 r.N.vote) := by
               rw [hb2.cell (p := ⟨wr.heap.size, 3, none⟩) (show wr.heap.size < _ by (try simp) <;> (try omega))]
               first | assumption | (simp [go_sem, *])
             have x2_4 : w2.cell? ⟨wr.heap.size, 4, none⟩ = some (.int .i64 r.N.role) := by
               rw [hb2.cell (p := ⟨wr.heap.size, 4, none⟩) (show wr.heap.size < _ by (try simp) <;> (try omega))]
               first | assumption | (simp [go_sem, *])
             have x2_5 : w2.cell? ⟨wr.heap.size, 5, none⟩ = some (.bool r.N.up) := by
               rw [hb2.cell (p := ⟨wr.heap.size, 5, none⟩) (show wr.heap.size < _ by (try simp) <;> (try omega))]
               first | assumption | (simp [go_sem, *])
             have x2_6 : w2.cell? ⟨wr.heap.size, 6, none⟩ = some (.slice r.al r.N.log.length r.cl) := by
               rw [hb2.cell (p := ⟨wr.heap.size, 6, none⟩) (show wr.heap.size < _ by (try simp) <;> (try omega))]
               first | assumption | (simp [go_sem, *])
             have x2_7 : w2.cell? ⟨wr.heap.size, 7, none⟩ = some (.int .i64 r.N.commit) := by
               rw [hb2.cell (p := ⟨wr.heap.size, 7, none⟩) (show wr.heap.size < _ by (try simp) <;> (try omega))]
               first | assumption | (simp [go_sem, *])
             have x2_8 : w2.cell? ⟨wr.heap.size, 8, none⟩ = some (.int .i64 r.N.elapsed) := by
               rw [hb2.cell (p := ⟨wr.heap.size, 8, none⟩) (show wr.heap.size < _ by (try simp) <;> (try omega))]
               first | assumption | (simp [go_sem, *])
             have x2_9 : w2.cell? ⟨wr.heap.size, 9, none⟩ = some (.int .i64 r.N.wait) := by
               rw [hb2.cell (p := ⟨wr.heap.size, 9, none⟩) (show wr.heap.size < _ by (try simp) <;> (try omega))]
               first | assumption | (simp [go_sem, *])
             have x2_10 : w2.cell? ⟨wr.heap.size, 10, none⟩ = some (.slice r.av r.N.votes.length r.cv) := by
               rw [hb2.cell (p := ⟨wr.heap.size, 10, none⟩) (show wr.heap.size < _ by (try simp) <;> (try omega))]
               first | assumption | (simp [go_sem, *])
             have x2_11 : w2.cell? ⟨wr.heap.size, 11, none⟩ = some (.slice r.an r.N.next.length r.cn) := by
               rw [hb2.cell (p := ⟨wr.heap.size, 11, none⟩) (show wr.heap.size < _ by (try simp) <;> (try omega))]
               first | assumption | (simp [go_sem, *])
             have x2_12 : w2.cell? ⟨wr.heap.size, 12, none⟩ = some (.slice r.am r.N.mtch.length r.cm) := by
               rw [hb2.cell (p := ⟨wr.heap.size, 12, none⟩) (show wr.heap.size < _ by (try simp) <;> (try omega))]
               first | assumption | (simp [go_sem, *])))
        have hx : Below wx.heap.size wx w3 := (((Below.refl _ _).drew).trans (hb2.mono (by simp))).trans (hb3.mono (by omega))
        have hzx3 := hx.size
        cases pv
        case false =>
          have hval : V = false := HNO.out (by rw [HPREF.out, HPV.out]; decide)
          subst hval
          go_wp2_with fail
          go_ret2
          exact ⟨rfl, HB0.out.trans ((HBX.out.trans (hx.mono (by omega))).mono (by omega))⟩
        case true =>
          go_wp2_with fail
          go_roundw
          case rel => exact ⟨k + 1, by omega, by go_num, HNEXT.out (by rw [HPREF.out, HPV.out]), HBX.out.trans (hx.mono (by omega))⟩
          case measure => simp [intOf]; omega
      · obtain rfl : k = ns.length := by omega
        have hval : V = true := HT.out (fun j hj => HR.out j hj hj)
        subst hval
        go_wp2_with fail
        go_ret2
        exact ⟨rfl, HB0.out.trans (HBL.out.mono (by omega))⟩
set_option maxRecDepth 100000 in
set_option maxHeartbeats 8000000 in
theorem specAgree_c (ns : List NodeA) (an : Option Addr) (cn : Nat) (ss : List Sto) (ast : Option Addr) (cst : Nat) (ws : List MsgA) (aw : Option Addr) (cw : Nat) (ds : List ByteArray) (ad : Option Addr) (cd : Nat) (w : World) (hC : CluOK w (⟨ns, an, cn, ss, ast, cst, ws, aw, cw, ds, ad, cd⟩ : CluA)) (hcd : ds.length ≤ cd) (hZ : CluSz (⟨ns, an, cn, ss, ast, cst, ws, aw, cw, ds, ad, cd⟩ : CluA) 1048576) :
    Calls Try.prog 13 #[.agg #[.slice an ns.length cn, .slice ast ss.length cst, .slice aw ws.length cw, .slice ad ds.length cd]] w fun e w' => e = .returned (.tuple #[.bool (agrV (⟨ns, an, cn, ss, ast, cst, ws, aw, cw, ds, ad, cd⟩ : CluA)).1, .int .i64 (agrV (⟨ns, an, cn, ss, ast, cst, ws, aw, cw, ds, ad, cd⟩ : CluA)).2]) ∧ Below w.heap.size w w' := by
  have hn1 : NodeS w an ns := hC.nodes
  have hs1 : Sl stoE 2 w ast ss := hC.stores
  have hd1 : Sl strE 1 w ad ds := hC.done
  have HC1 := Lib.hid (hC.alloc (.cells #[.slice an ns.length cn, .slice ast ss.length cst, .slice aw ws.length cw, .slice ad ds.length cd] 34))
  have HZ := Lib.hid hZ
  have ZN : Hid (∀ r ∈ ns, NodeSz r.N 1048576) := hZ.nodes
  have zn : ns.length ≤ 1048576 := hZ.nl
  have zd : ds.length ≤ 1048576 := hZ.dl
  clear hZ hC
  unfold agrV
  obtain ⟨v, hv⟩ : ∃ v, cluOK (⟨ns, an, cn, ss, ast, cst, ws, aw, cw, ds, ad, cd⟩ : CluA) = v := ⟨_, rfl⟩
  have HV := Lib.hid hv
  rw [hv]
  clear hv
  cases v
  case false =>
    simp only [Bool.false_eq_true, if_false]
    go_enter Try.func13, Try.ntmps13
    go_wp2_with fail
    refine (specCluster_c ns an cn ss ast cst ws aw cw ds ad cd _ HC1.out HZ.out).mono ?_
    rw [HV.out]
    rintro e w1 ⟨rfl, hb1⟩
    go_wp2_with fail
    go_ret2
    exact ⟨rfl, ((Below.refl _ _).alloc (Nat.le_refl _) _).trans (hb1.mono (by simp))⟩
  case true =>
    simp only [if_true]
    have hp : CluP (⟨ns, an, cn, ss, ast, cst, ws, aw, cw, ds, ad, cd⟩ : CluA) := cluOK_p HV.out
    have ROW : Hid (∀ i (h1 : i < ns.length) (h2 : i < ss.length), rowOK ns.length i ns[i].N ss[i] = true) := Lib.hid hp.rows
    have HSL : Hid (ss.length = ns.length) := Lib.hid hp.sl
    have hn5 : 1 ≤ ns.length ∧ ns.length ≤ 5 := by have h2 : inB (ns.length : Int) 1 5 = true := hp.cnt; simp [inB] at h2; omega
    have hdl : ds.length ≤ 60 := hp.dl
    clear hp
    obtain ⟨V, hV⟩ : ∃ V, agrB (List.map (fun x => x.N) ns) ds = V := ⟨_, rfl⟩
    show Calls Try.prog 13 #[.agg #[.slice an ns.length cn, .slice ast ss.length cst, .slice aw ws.length cw, .slice ad ds.length cd]] w fun e w' => e = .returned (.tuple #[.bool (agrB (List.map (fun x => x.N) ns) ds), .int .i64 0]) ∧ Below w.heap.size w w'
    rw [hV]
    have HF : Hid (∀ j (hj : j < ns.length), ¬ prefB (comD ns[j].N) ds = true → V = false) := Lib.hid (fun j hj h => hV ▸ agrB_false hj h)
    have HT : Hid ((∀ j (hj : j < ns.length), prefB (comD ns[j].N) ds = true) → V = true) := Lib.hid (fun h => hV ▸ agrB_true h)
    clear hV
    go_enter Try.func13, Try.ntmps13
    go_wp2_with fail
    refine (specCluster_c ns an cn ss ast cst ws aw cw ds ad cd _ HC1.out HZ.out).mono ?_
    rw [HV.out]
    rintro e w1 ⟨rfl, hb1⟩
    have hz1 := hb1.size
    simp only [World.size_alloc] at hz1
    have hn2 := (hn1.alloc (.cells #[.slice an ns.length cn, .slice ast ss.length cst, .slice aw ws.length cw, .slice ad ds.length cd] 34)).keep hb1
    have hs2 := (hs1.alloc (.cells #[.slice an ns.length cn, .slice ast ss.length cst, .slice aw ws.length cw, .slice ad ds.length cd] 34)).keep hb1
    have hd2 := (hd1.alloc (.cells #[.slice an ns.length cn, .slice ast ss.length cst, .slice aw ws.length cw, .slice ad ds.length cd] 34)).keep hb1
    have k_0 : w1.cell? ⟨w.heap.size, 0, none⟩ = some (.slice an ns.length cn) := (hb1.cell (p := ⟨w.heap.size, 0, none⟩) (by show w.heap.size < _; simp)).trans (by simp [go_sem])
    have k_1 : w1.cell? ⟨w.heap.size, 1, none⟩ = some (.slice ast ss.length cst) := (hb1.cell (p := ⟨w.heap.size, 1, none⟩) (by show w.heap.size < _; simp)).trans (by simp [go_sem])
    have k_2 : w1.cell? ⟨w.heap.size, 2, none⟩ = some (.slice aw ws.length cw) := (hb1.cell (p := ⟨w.heap.size, 2, none⟩) (by show w.heap.size < _; simp)).trans (by simp [go_sem])
    have k_3 : w1.cell? ⟨w.heap.size, 3, none⟩ = some (.slice ad ds.length cd) := (hb1.cell (p := ⟨w.heap.size, 3, none⟩) (by show w.heap.size < _; simp)).trans (by simp [go_sem])
    have HB0 : Hid (Below w.heap.size w w1) := ((Below.refl _ _).alloc (Nat.le_refl _) _).trans (hb1.mono (by simp))
    clear hb1 hn1 hs1 hd1
    go_wp2_with fail
    go_loopw [4] (fun i wr => ∃ k : Nat, k ≤ ns.length ∧ i = .int .i64 k ∧ (∀ j (h1 : j < ns.length), j < k → prefB (comD ns[j].N) ds = true) ∧ Below w1.heap.size w1 wr) (fun i _ => ns.length - (intOf i).toNat)
    case atStart => exact ⟨0, Nat.zero_le _, rfl, fun j _ h => absurd h (Nat.not_lt_zero _), Below.refl _ _⟩
    case round =>
      obtain ⟨k, hk, rfl, hrows, hbel⟩ := hrel
      have HR := Lib.hid hrows
      have HBL := Lib.hid hbel
      have hzr := hbel.size
      have hlC : w.heap.size < wr.heap.size := by omega
      clear hrows
      have kr_0 : wr.cell? ⟨w.heap.size, 0, none⟩ = some (.slice an ns.length cn) := (hbel.cell (p := ⟨w.heap.size, 0, none⟩) (by show w.heap.size < _; omega)).trans k_0
      have kr_1 : wr.cell? ⟨w.heap.size, 1, none⟩ = some (.slice ast ss.length cst) := (hbel.cell (p := ⟨w.heap.size, 1, none⟩) (by show w.heap.size < _; omega)).trans k_1
      have kr_2 : wr.cell? ⟨w.heap.size, 2, none⟩ = some (.slice aw ws.length cw) := (hbel.cell (p := ⟨w.heap.size, 2, none⟩) (by show w.heap.size < _; omega)).trans k_2
      have kr_3 : wr.cell? ⟨w.heap.size, 3, none⟩ = some (.slice ad ds.length cd) := (hbel.cell (p := ⟨w.heap.size, 3, none⟩) (by show w.heap.size < _; omega)).trans k_3
      by_cases hlt : k < ns.length
      · skip
        have hlt2 : k < ss.length := by have := HSL.out; omega
        obtain ⟨b1, o1, rfl, hb1, hc1⟩ := (hn2.1.keep hbel).at hlt
        have c0 := hc1 k hlt 0 (by omega)
        have c1 := hc1 k hlt 1 (by omega)
        have c2 := hc1 k hlt 2 (by omega)
        have c3 := hc1 k hlt 3 (by omega)
        have c4 := hc1 k hlt 4 (by omega)
        have c5 := hc1 k hlt 5 (by omega)
        have c6 := hc1 k hlt 6 (by omega)
        have c7 := hc1 k hlt 7 (by omega)
        have c8 := hc1 k hlt 8 (by omega)
        have c9 := hc1 k hlt 9 (by omega)
        have c10 := hc1 k hlt 10 (by omega)
        have c11 := hc1 k hlt 11 (by omega)
        have c12 := hc1 k hlt 12 (by omega)
        simp only [nodeE, Nat.add_zero, List.getElem?_cons_zero, List.getElem?_cons_succ] at c0 c1 c2 c3 c4 c5 c6 c7 c8 c9 c10 c11 c12
        clear hc1
        have ok1 := (hn2.2 ns[k] (List.getElem_mem _)).keep hbel
        have zr := ZN.out ns[k] (List.getElem_mem _)
        have hcl := ok1.2
        have hrow := ROW.out k hlt hlt2
        have hno : nodeOK ns[k].N = true := by unfold rowOK at hrow; simp at hrow; exact hrow.1
        obtain ⟨c, hcN, hcL⟩ := nodeOK_commit hno
        have HCN := Lib.hid hcN
        have HROW := Lib.hid hrow
        clear hno hcN hrow
        have hd3 := hd2.keep hbel
        have HPREF : Hid (prefB (comD ns[k].N) ds = prefB (datas ns[k].N.log c) ds) := Lib.hid (by unfold comD; rw [HCN.out]; rfl)
        have HNEXT : Hid (prefB (comD ns[k].N) ds = true → ∀ j (h1 : j < ns.length), j < k + 1 → prefB (comD ns[j].N) ds = true) := Lib.hid (fun h j h1 hj => by
          rcases Nat.lt_succ_iff_lt_or_eq.1 hj with hj | rfl
          · exact HR.out j h1 hj
          · exact h)
        have HNO : Hid (¬ prefB (comD ns[k].N) ds = true → V = false) := Lib.hid (HF.out k hlt)
        generalize ns[k] = r at ok1 zr hcl HCN hcL HROW HPREF HNEXT HNO c0 c1 c2 c3 c4 c5 c6 c7 c8 c9 c10 c11 c12
        obtain ⟨⟨id, nodes, term, vote, role, up, log, commit, elapsed, wait, votes, next, mtch⟩, al, cl, av, cv, an, cn', am, cm⟩ := r
        have hcm : commit = (c : Int) := HCN.out
        subst hcm
        dsimp only at hcL HPREF hcl c0 c1 c2 c3 c4 c5 c6 c7 c8 c9 c10 c11 c12
        have hlog : Sl entE 2 wr al log := ok1.1.log
        clear HCN
        by_cases hcd2 : c ≤ ds.length
        rotate_left
        · have f1 : decide ((c : Int) > (ds.length : Int)) = true := by simp; omega
          have f1' : decide (ds.length < c) = true := by simp; omega
          have hval : V = false := HNO.out (by rw [HPREF.out]; intro h; have := (prefB_at.1 h).1; rw [datas_len hcL] at this; exact hcd2 this)
          subst hval
          clear f1
          go_wp2_with fail
          go_ret2
          exact ⟨rfl, HB0.out.trans ((HBL.out.alloc (by omega) _).mono (by omega))⟩
        have f1' : decide (ds.length < c) = false := by simp; omega
        go_wp2_with fail
        have hlog2 := hlog.alloc (.cells #[.int .i64 id, .int .i64 nodes, .int .i64 term, .int .i64 vote, .int .i64 role, .bool up, .slice al log.length cl, .int .i64 (c : Int), .int .i64 elapsed, .int .i64 wait, .slice av votes.length cv, .slice an next.length cn', .slice am mtch.length cm] 54)
        have hd4 := hd3.alloc (.cells #[.int .i64 id, .int .i64 nodes, .int .i64 term, .int .i64 vote, .int .i64 role, .bool up, .slice al log.length cl, .int .i64 (c : Int), .int .i64 elapsed, .int .i64 wait, .slice av votes.length cv, .slice an next.length cn', .slice am mtch.length cm] 54)
        have HBX : Hid (Below w1.heap.size w1 (wr.alloc (.cells #[.int .i64 id, .int .i64 nodes, .int .i64 term, .int .i64 vote, .int .i64 role, .bool up, .slice al log.length cl, .int .i64 (c : Int), .int .i64 elapsed, .int .i64 wait, .slice av votes.length cv, .slice an next.length cn', .slice am mtch.length cm] 54))) := HBL.out.alloc (by omega) _
        have hzx : (wr.alloc (.cells #[.int .i64 id, .int .i64 nodes, .int .i64 term, .int .i64 vote, .int .i64 role, .bool up, .slice al log.length cl, .int .i64 (c : Int), .int .i64 elapsed, .int .i64 wait, .slice av votes.length cv, .slice an next.length cn', .slice am mtch.length cm] 54)).heap.size = wr.heap.size + 1 := by simp
        have y_0 : (wr.alloc (.cells #[.int .i64 id, .int .i64 nodes, .int .i64 term, .int .i64 vote, .int .i64 role, .bool up, .slice al log.length cl, .int .i64 (c : Int), .int .i64 elapsed, .int .i64 wait, .slice av votes.length cv, .slice an next.length cn', .slice am mtch.length cm] 54)).cell? ⟨w.heap.size, 0, none⟩ = some (.slice (some ⟨b1, o1, none⟩) ns.length cn) := (World.cell?_alloc_lt _ _ _ (by show w.heap.size < _; omega)).trans kr_0
        have y_1 : (wr.alloc (.cells #[.int .i64 id, .int .i64 nodes, .int .i64 term, .int .i64 vote, .int .i64 role, .bool up, .slice al log.length cl, .int .i64 (c : Int), .int .i64 elapsed, .int .i64 wait, .slice av votes.length cv, .slice an next.length cn', .slice am mtch.length cm] 54)).cell? ⟨w.heap.size, 1, none⟩ = some (.slice ast ss.length cst) := (World.cell?_alloc_lt _ _ _ (by show w.heap.size < _; omega)).trans kr_1
        have y_2 : (wr.alloc (.cells #[.int .i64 id, .int .i64 nodes, .int .i64 term, .int .i64 vote, .int .i64 role, .bool up, .slice al log.length cl, .int .i64 (c : Int), .int .i64 elapsed, .int .i64 wait, .slice av votes.length cv, .slice an next.length cn', .slice am mtch.length cm] 54)).cell? ⟨w.heap.size, 2, none⟩ = some (.slice aw ws.length cw) := (World.cell?_alloc_lt _ _ _ (by show w.heap.size < _; omega)).trans kr_2
        have y_3 : (wr.alloc (.cells #[.int .i64 id, .int .i64 nodes, .int .i64 term, .int .i64 vote, .int .i64 role, .bool up, .slice al log.length cl, .int .i64 (c : Int), .int .i64 elapsed, .int .i64 wait, .slice av votes.length cv, .slice an next.length cn', .slice am mtch.length cm] 54)).cell? ⟨w.heap.size, 3, none⟩ = some (.slice ad ds.length cd) := (World.cell?_alloc_lt _ _ _ (by show w.heap.size < _; omega)).trans kr_3
        have x_0 : (wr.alloc (.cells #[.int .i64 id, .int .i64 nodes, .int .i64 term, .int .i64 vote, .int .i64 role, .bool up, .slice al log.length cl, .int .i64 (c : Int), .int .i64 elapsed, .int .i64 wait, .slice av votes.length cv, .slice an next.length cn', .slice am mtch.length cm] 54)).cell? ⟨wr.heap.size, 0, none⟩ = some (.int .i64 id) := by simp [go_sem]
        have x_1 : (wr.alloc (.cells #[.int .i64 id, .int .i64 nodes, .int .i64 term, .int .i64 vote, .int .i64 role, .bool up, .slice al log.length cl, .int .i64 (c : Int), .int .i64 elapsed, .int .i64 wait, .slice av votes.length cv, .slice an next.length cn', .slice am mtch.length cm] 54)).cell? ⟨wr.heap.size, 1, none⟩ = some (.int .i64 nodes) := by simp [go_sem]
        have x_2 : (wr.alloc (.cells #[.int .i64 id, .int .i64 nodes, .int .i64 term, .int .i64 vote, .int .i64 role, .bool up, .slice al log.length cl, .int .i64 (c : Int), .int .i64 elapsed, .int .i64 wait, .slice av votes.length cv, .slice an next.length cn', .slice am mtch.length cm] 54)).cell? ⟨wr.heap.size, 2, none⟩ = some (.int .i64 term) := by simp [go_sem]
        have x_3 : (wr.alloc (.cells #[.int .i64 id, .int .i64 nodes, .int .i64 term, .int .i64 vote, .int .i64 role, .bool up, .slice al log.length cl, .int .i64 (c : Int), .int .i64 elapsed, .int .i64 wait, .slice av votes.length cv, .slice an next.length cn', .slice am mtch.length cm] 54)).cell? ⟨wr.heap.size, 3, none⟩ = some (.int .i64 vote) := by simp [go_sem]
        have x_4 : (wr.alloc (.cells #[.int .i64 id, .int .i64 nodes, .int .i64 term, .int .i64 vote, .int .i64 role, .bool up, .slice al log.length cl, .int .i64 (c : Int), .int .i64 elapsed, .int .i64 wait, .slice av votes.length cv, .slice an next.length cn', .slice am mtch.length cm] 54)).cell? ⟨wr.heap.size, 4, none⟩ = some (.int .i64 role) := by simp [go_sem]
        have x_5 : (wr.alloc (.cells #[.int .i64 id, .int .i64 nodes, .int .i64 term, .int .i64 vote, .int .i64 role, .bool up, .slice al log.length cl, .int .i64 (c : Int), .int .i64 elapsed, .int .i64 wait, .slice av votes.length cv, .slice an next.length cn', .slice am mtch.length cm] 54)).cell? ⟨wr.heap.size, 5, none⟩ = some (.bool up) := by simp [go_sem]
        have x_6 : (wr.alloc (.cells #[.int .i64 id, .int .i64 nodes, .int .i64 term, .int .i64 vote, .int .i64 role, .bool up, .slice al log.length cl, .int .i64 (c : Int), .int .i64 elapsed, .int .i64 wait, .slice av votes.length cv, .slice an next.length cn', .slice am mtch.length cm] 54)).cell? ⟨wr.heap.size, 6, none⟩ = some (.slice al log.length cl) := by simp [go_sem]
        have x_7 : (wr.alloc (.cells #[.int .i64 id, .int .i64 nodes, .int .i64 term, .int .i64 vote, .int .i64 role, .bool up, .slice al log.length cl, .int .i64 (c : Int), .int .i64 elapsed, .int .i64 wait, .slice av votes.length cv, .slice an next.length cn', .slice am mtch.length cm] 54)).cell? ⟨wr.heap.size, 7, none⟩ = some (.int .i64 (c : Int)) := by simp [go_sem]
        have x_8 : (wr.alloc (.cells #[.int .i64 id, .int .i64 nodes, .int .i64 term, .int .i64 vote, .int .i64 role, .bool up, .slice al log.length cl, .int .i64 (c : Int), .int .i64 elapsed, .int .i64 wait, .slice av votes.length cv, .slice an next.length cn', .slice am mtch.length cm] 54)).cell? ⟨wr.heap.size, 8, none⟩ = some (.int .i64 elapsed) := by simp [go_sem]
        have x_9 : (wr.alloc (.cells #[.int .i64 id, .int .i64 nodes, .int .i64 term, .int .i64 vote, .int .i64 role, .bool up, .slice al log.length cl, .int .i64 (c : Int), .int .i64 elapsed, .int .i64 wait, .slice av votes.length cv, .slice an next.length cn', .slice am mtch.length cm] 54)).cell? ⟨wr.heap.size, 9, none⟩ = some (.int .i64 wait) := by simp [go_sem]
        have x_10 : (wr.alloc (.cells #[.int .i64 id, .int .i64 nodes, .int .i64 term, .int .i64 vote, .int .i64 role, .bool up, .slice al log.length cl, .int .i64 (c : Int), .int .i64 elapsed, .int .i64 wait, .slice av votes.length cv, .slice an next.length cn', .slice am mtch.length cm] 54)).cell? ⟨wr.heap.size, 10, none⟩ = some (.slice av votes.length cv) := by simp [go_sem]
        have x_11 : (wr.alloc (.cells #[.int .i64 id, .int .i64 nodes, .int .i64 term, .int .i64 vote, .int .i64 role, .bool up, .slice al log.length cl, .int .i64 (c : Int), .int .i64 elapsed, .int .i64 wait, .slice av votes.length cv, .slice an next.length cn', .slice am mtch.length cm] 54)).cell? ⟨wr.heap.size, 11, none⟩ = some (.slice an next.length cn') := by simp [go_sem]
        have x_12 : (wr.alloc (.cells #[.int .i64 id, .int .i64 nodes, .int .i64 term, .int .i64 vote, .int .i64 role, .bool up, .slice al log.length cl, .int .i64 (c : Int), .int .i64 elapsed, .int .i64 wait, .slice av votes.length cv, .slice an next.length cn', .slice am mtch.length cm] 54)).cell? ⟨wr.heap.size, 12, none⟩ = some (.slice am mtch.length cm) := by simp [go_sem]
        generalize wr.alloc (.cells #[.int .i64 id, .int .i64 nodes, .int .i64 term, .int .i64 vote, .int .i64 role, .bool up, .slice al log.length cl, .int .i64 (c : Int), .int .i64 elapsed, .int .i64 wait, .slice av votes.length cv, .slice an next.length cn', .slice am mtch.length cm] 54) = wx at hlog2 hd4 HBX hzx y_0 y_1 y_2 y_3 x_0 x_1 x_2 x_3 x_4 x_5 x_6 x_7 x_8 x_9 x_10 x_11 x_12 ⊢
        obtain ⟨wo, rfl⟩ : ∃ wo : World, wo = wr := ⟨_, rfl⟩
        go_loopw [6] (fun i wr => ∃ m : Nat, m ≤ c ∧ i = .int .i64 m ∧ (∀ j (h1 : j < log.length) (h2 : j < ds.length), j < m → log[j].2 = ds[j]) ∧ Below wx.heap.size wx wr) (fun i _ => c - (intOf i).toNat)
        case atStart => exact ⟨0, Nat.zero_le _, rfl, fun j _ _ h => absurd h (Nat.not_lt_zero _), Below.refl _ _⟩
        case round =>
          obtain ⟨m, hm, rfl, hsame, hbi⟩ := hrel
          have HS := Lib.hid hsame
          have HBI := Lib.hid hbi
          have hzi := hbi.size
          clear hsame
          have yi_0 : wr.cell? ⟨w.heap.size, 0, none⟩ = some (.slice (some ⟨b1, o1, none⟩) ns.length cn) := (hbi.cell (p := ⟨w.heap.size, 0, none⟩) (by show w.heap.size < _; omega)).trans y_0
          have yi_3 : wr.cell? ⟨w.heap.size, 3, none⟩ = some (.slice ad ds.length cd) := (hbi.cell (p := ⟨w.heap.size, 3, none⟩) (by show w.heap.size < _; omega)).trans y_3
          have xi_6 : wr.cell? ⟨wo.heap.size, 6, none⟩ = some (.slice al log.length cl) := (hbi.cell (p := ⟨wo.heap.size, 6, none⟩) (by show wo.heap.size < _; omega)).trans x_6
          have xi_7 : wr.cell? ⟨wo.heap.size, 7, none⟩ = some (.int .i64 (c : Int)) := (hbi.cell (p := ⟨wo.heap.size, 7, none⟩) (by show wo.heap.size < _; omega)).trans x_7
          by_cases hlm : m < c
          · have g1 : m < log.length := by omega
            have g2 : m < ds.length := by omega
            obtain ⟨b3, o3, rfl, hb3, hc3⟩ := (hlog2.keep hbi).at g1
            obtain ⟨b4, o4, rfl, hb4, hc4⟩ := (hd4.keep hbi).at g2
            have e0 := hc3 m g1 1 (by omega)
            have e1 := hc4 m g2 0 (by omega)
            simp only [entE, strE, Nat.mul_one, Nat.add_zero, List.getElem?_cons_zero, List.getElem?_cons_succ] at e0 e1
            clear hc3 hc4
            by_cases hq : log[m].2 = ds[m]
            · have f2 : (log[m].2.toList == ds[m].toList) = true := by rw [hq]; simp
              have HQ := Lib.hid hq
              clear hq
              go_wp2_with fail
              go_quiet (fail)
              go_wp2_with fail
              go_roundw
              case rel =>
                refine ⟨m + 1, by omega, by go_num, ?_, HBI.out.trans (below_drewN _ _ _)⟩
                intro j h1 h2 hj
                rcases Nat.lt_succ_iff_lt_or_eq.1 hj with hj | rfl
                · exact HS.out j h1 h2 hj
                · exact HQ.out
              case measure => simp [intOf]; omega
            · have f2 : (log[m].2.toList == ds[m].toList) = false := by simp [toList_eq, hq]
              have HQ := Lib.hid hq
              clear hq
              have hval : V = false := HNO.out (by
                rw [HPREF.out]
                intro h
                have := (prefB_at.1 h).2 m (by rw [datas_len hcL]; exact hlm) g2
                rw [datas_at hlm hcL] at this
                exact HQ.out this)
              subst hval
              go_wp2_with fail
              go_quiet (fail)
              go_wp2_with fail
              go_ret2
              exact ⟨rfl, HB0.out.trans ((HBX.out.trans ((HBI.out.trans (below_drewN _ _ _)).mono (by omega))).mono (by omega))⟩
          · obtain rfl : m = c := by omega
            go_wp2_with fail
            go_roundw
            case rel =>
              refine ⟨k + 1, by omega, by go_num, ?_, HBX.out.trans (HBI.out.mono (by omega))⟩
              apply HNEXT.out
              rw [HPREF.out]
              refine prefB_at.2 ⟨by rw [datas_len hcL]; exact hcd2, fun j h1 h2 => ?_⟩
              have hj : j < m := by rw [datas_len hcL] at h1; exact h1
              rw [datas_at hj hcL]
              exact HS.out j (by omega) h2 hj
            case measure => simp [intOf]; omega
      · obtain rfl : k = ns.length := by omega
        have hval : V = true := HT.out (fun j hj => HR.out j hj hj)
        subst hval
        go_wp2_with fail
        go_ret2
        exact ⟨rfl, HB0.out.trans (HBL.out.mono (by omega))⟩
end
section
open Go.RowKit
def holdB (ds : List ByteArray) (N : NodeV) : Bool := prefB ds (datas N.log N.log.length)
def cntB (Ns : List NodeV) (ds : List ByteArray) : Nat := Ns.countP (holdB ds)
noncomputable def hldV (C : CluA) : Bool × Int := if cluOK C then (decide (2 * (cntB (C.nodes.map (·.N)) C.done : Int) > (C.nodes.length : Int)), 0) else (false, 1)
theorem hldV_same {C D : CluA} (h : CluSame C D) : hldV C = hldV D := by
  unfold hldV
  rw [cluOK_same h, h.nodes, h.done, map_len h.nodes]
def cntR (rs : List NodeA) (ds : List ByteArray) : Nat := rs.countP (fun r => holdB ds r.N)
theorem cntB_map (rs : List NodeA) (ds : List ByteArray) : cntB (rs.map (·.N)) ds = cntR rs ds := by
  unfold cntB cntR
  rw [List.countP_map]
  rfl
theorem cntR_succ (rs : List NodeA) (ds : List ByteArray) (k : Nat) (hk : k < rs.length) : cntR (rs.take (k + 1)) ds = cntR (rs.take k) ds + (if holdB ds rs[k].N then 1 else 0) := by
  unfold cntR
  rw [List.take_succ_eq_append_getElem hk, List.countP_append]
  cases h : holdB ds rs[k].N <;> simp [h]
theorem cntR_le (rs : List NodeA) (ds : List ByteArray) (k : Nat) : cntR (rs.take k) ds ≤ k := by
  unfold cntR
  exact Nat.le_trans List.countP_le_length (List.length_take_le _ _)
def okAt (ds : List ByteArray) (xs : List Ent) (m : Nat) : Bool := decide (ds.length ≤ xs.length) && decide (ds.take m = datas xs m)
theorem okAt_end (ds : List ByteArray) (xs : List Ent) : okAt ds xs ds.length = prefB ds (datas xs xs.length) := by
  unfold okAt prefB
  have h1 : (datas xs xs.length).length = xs.length := datas_len (Nat.le_refl _)
  have h2 : (datas xs xs.length).take ds.length = datas xs ds.length := by unfold datas; rw [List.take_length, List.map_take]
  rw [h1, h2, List.take_length]
theorem okAt_zero (ds : List ByteArray) (xs : List Ent) : okAt ds xs 0 = decide (ds.length ≤ xs.length) := by simp [okAt, datas]
theorem okAt_succ {ds : List ByteArray} {xs : List Ent} {m : Nat} (h1 : m < ds.length) (h2 : m < xs.length) (h : okAt ds xs m = true) : okAt ds xs (m + 1) = decide (ds[m] = xs[m].2) := by
  unfold okAt at *
  simp only [Bool.and_eq_true, decide_eq_true_eq] at h
  rw [List.take_succ_eq_append_getElem h1, datas_snoc xs m h2, h.2]
  have : decide (ds.length ≤ xs.length) = true := decide_eq_true h.1
  rw [this, Bool.true_and]
  simp
theorem okAt_no {ds : List ByteArray} {xs : List Ent} {m n : Nat} (h : okAt ds xs m = false) (hmn : m ≤ n) : okAt ds xs n = false := by
  cases hn : okAt ds xs n with
  | false => rfl
  | true =>
    unfold okAt at *
    simp only [Bool.and_eq_true, decide_eq_true_eq] at hn
    have e : ds.take m = datas xs m := by
      have := congrArg (fun l => l.take m) hn.2
      simp only [List.take_take, Nat.min_eq_left hmn] at this
      rw [this]
      unfold datas
      rw [← List.map_take, List.take_take, Nat.min_eq_left hmn]
    rw [decide_eq_true hn.1, decide_eq_true e] at h
    cases h
set_option maxHeartbeats 400000 in
theorem l01Bit_c (b : Bool) (w : World) : Calls Try.prog 47 #[.bool b] w fun e w' => e = .returned (.int .i64 ((if b then 1 else 0 : Nat))) ∧ w = w' := by
  cases b
  · go_enter Try.func47, Try.ntmps47
    go_wp2_with fail
    go_ret
    exact ⟨rfl, rfl⟩
  · go_enter Try.func47, Try.ntmps47
    go_wp2_with fail
    go_ret
    exact ⟨rfl, rfl⟩

set_option maxRecDepth 100000 in
set_option maxHeartbeats 8000000 in
theorem implHold_c (ns : List NodeA) (an : Option Addr) (cn : Nat) (ss : List Sto) (ast : Option Addr) (cst : Nat) (ws : List MsgA) (aw : Option Addr) (cw : Nat) (ds : List ByteArray) (ad : Option Addr) (cd : Nat) (w : World) (hC : CluOK w (⟨ns, an, cn, ss, ast, cst, ws, aw, cw, ds, ad, cd⟩ : CluA)) (hcd : ds.length ≤ cd) (hZ : CluSz (⟨ns, an, cn, ss, ast, cst, ws, aw, cw, ds, ad, cd⟩ : CluA) 1048576) :
    Calls Try.prog 16 #[.agg #[.slice an ns.length cn, .slice ast ss.length cst, .slice aw ws.length cw, .slice ad ds.length cd]] w fun e w' => e = .returned (.tuple #[.bool (hldV (⟨ns, an, cn, ss, ast, cst, ws, aw, cw, ds, ad, cd⟩ : CluA)).1, .int .i64 (hldV (⟨ns, an, cn, ss, ast, cst, ws, aw, cw, ds, ad, cd⟩ : CluA)).2]) ∧ Below w.heap.size w w' := by
  have hn1 : NodeS w an ns := hC.nodes
  have hs1 : Sl stoE 2 w ast ss := hC.stores
  have hd1 : Sl strE 1 w ad ds := hC.done
  have HC1 := Lib.hid (hC.alloc (.cells #[.slice an ns.length cn, .slice ast ss.length cst, .slice aw ws.length cw, .slice ad ds.length cd] 34))
  have HZ := Lib.hid hZ
  have ZN : Hid (∀ r ∈ ns, NodeSz r.N 1048576) := hZ.nodes
  have zn : ns.length ≤ 1048576 := hZ.nl
  have zd : ds.length ≤ 1048576 := hZ.dl
  clear hZ hC
  unfold hldV
  obtain ⟨v, hv⟩ : ∃ v, cluOK (⟨ns, an, cn, ss, ast, cst, ws, aw, cw, ds, ad, cd⟩ : CluA) = v := ⟨_, rfl⟩
  have HV := Lib.hid hv
  rw [hv]
  clear hv
  cases v
  case false =>
    simp only [Bool.false_eq_true, if_false]
    go_enter Try.func16, Try.ntmps16
    go_wp2_with fail
    refine (isCluster_c ns an cn ss ast cst ws aw cw ds ad cd _ HC1.out HZ.out).mono ?_
    rw [HV.out]
    rintro e w1 ⟨rfl, hb1⟩
    go_wp2_with fail
    go_ret2
    exact ⟨rfl, ((Below.refl _ _).alloc (Nat.le_refl _) _).trans (hb1.mono (by simp))⟩
  case true =>
    simp only [if_true]
    have hp : CluP (⟨ns, an, cn, ss, ast, cst, ws, aw, cw, ds, ad, cd⟩ : CluA) := cluOK_p HV.out
    have ROW : Hid (∀ i (h1 : i < ns.length) (h2 : i < ss.length), rowOK ns.length i ns[i].N ss[i] = true) := Lib.hid hp.rows
    have HSL : Hid (ss.length = ns.length) := Lib.hid hp.sl
    have hn5 : 1 ≤ ns.length ∧ ns.length ≤ 5 := by have h2 : inB (ns.length : Int) 1 5 = true := hp.cnt; simp [inB] at h2; omega
    have hdl : ds.length ≤ 60 := hp.dl
    clear hp
    obtain ⟨V, hV⟩ : ∃ V, decide (2 * (cntB (List.map (fun x => x.N) ns) ds : Int) > (ns.length : Int)) = V := ⟨_, rfl⟩
    show Calls Try.prog 16 #[.agg #[.slice an ns.length cn, .slice ast ss.length cst, .slice aw ws.length cw, .slice ad ds.length cd]] w fun e w' => e = .returned (.tuple #[.bool (decide (2 * (cntB (List.map (fun x => x.N) ns) ds : Int) > (ns.length : Int))), .int .i64 0]) ∧ Below w.heap.size w w'
    rw [hV]
    have HT : Hid (∀ m : Nat, m = cntR (ns.take ns.length) ds → decide (2 * (m : Int) > (ns.length : Int)) = V) := Lib.hid (fun m h => by
      rw [h, List.take_length, ← hV, cntB_map])
    clear hV
    go_enter Try.func16, Try.ntmps16
    go_wp2_with fail
    refine (isCluster_c ns an cn ss ast cst ws aw cw ds ad cd _ HC1.out HZ.out).mono ?_
    rw [HV.out]
    rintro e w1 ⟨rfl, hb1⟩
    have hz1 := hb1.size
    simp only [World.size_alloc] at hz1
    have hn2 := (hn1.alloc (.cells #[.slice an ns.length cn, .slice ast ss.length cst, .slice aw ws.length cw, .slice ad ds.length cd] 34)).keep hb1
    have hs2 := (hs1.alloc (.cells #[.slice an ns.length cn, .slice ast ss.length cst, .slice aw ws.length cw, .slice ad ds.length cd] 34)).keep hb1
    have hd2 := (hd1.alloc (.cells #[.slice an ns.length cn, .slice ast ss.length cst, .slice aw ws.length cw, .slice ad ds.length cd] 34)).keep hb1
    have k_0 : w1.cell? ⟨w.heap.size, 0, none⟩ = some (.slice an ns.length cn) := (hb1.cell (p := ⟨w.heap.size, 0, none⟩) (by show w.heap.size < _; simp)).trans (by simp [go_sem])
    have k_1 : w1.cell? ⟨w.heap.size, 1, none⟩ = some (.slice ast ss.length cst) := (hb1.cell (p := ⟨w.heap.size, 1, none⟩) (by show w.heap.size < _; simp)).trans (by simp [go_sem])
    have k_2 : w1.cell? ⟨w.heap.size, 2, none⟩ = some (.slice aw ws.length cw) := (hb1.cell (p := ⟨w.heap.size, 2, none⟩) (by show w.heap.size < _; simp)).trans (by simp [go_sem])
    have k_3 : w1.cell? ⟨w.heap.size, 3, none⟩ = some (.slice ad ds.length cd) := (hb1.cell (p := ⟨w.heap.size, 3, none⟩) (by show w.heap.size < _; simp)).trans (by simp [go_sem])
    have HB0 : Hid (Below w.heap.size w w1) := ((Below.refl _ _).alloc (Nat.le_refl _) _).trans (hb1.mono (by simp))
    clear hb1 hn1 hs1 hd1
    go_wp2_with fail
    go_loopw [4, 13] (fun c i wr => ∃ (k m : Nat), k ≤ ns.length ∧ m ≤ k ∧ i = .int .i64 k ∧ c = .int .i64 m ∧ Hid (m = cntR (ns.take k) ds) ∧ Below w1.heap.size w1 wr) (fun _ i _ => ns.length - (intOf i).toNat)
    case atStart => exact ⟨0, 0, Nat.zero_le _, Nat.le_refl _, rfl, rfl, rfl, Below.refl _ _⟩
    case round =>
      obtain ⟨k, m, hk, hmk, rfl, rfl, hmc, hbel⟩ := hrel
      have HBL := Lib.hid hbel
      have hzr := hbel.size
      have hlC : w.heap.size < wr.heap.size := by omega
      have kr_0 : wr.cell? ⟨w.heap.size, 0, none⟩ = some (.slice an ns.length cn) := (hbel.cell (p := ⟨w.heap.size, 0, none⟩) (by show w.heap.size < _; omega)).trans k_0
      have kr_1 : wr.cell? ⟨w.heap.size, 1, none⟩ = some (.slice ast ss.length cst) := (hbel.cell (p := ⟨w.heap.size, 1, none⟩) (by show w.heap.size < _; omega)).trans k_1
      have kr_2 : wr.cell? ⟨w.heap.size, 2, none⟩ = some (.slice aw ws.length cw) := (hbel.cell (p := ⟨w.heap.size, 2, none⟩) (by show w.heap.size < _; omega)).trans k_2
      have kr_3 : wr.cell? ⟨w.heap.size, 3, none⟩ = some (.slice ad ds.length cd) := (hbel.cell (p := ⟨w.heap.size, 3, none⟩) (by show w.heap.size < _; omega)).trans k_3
      by_cases hlt : k < ns.length
      · skip
        have hlt2 : k < ss.length := by have := HSL.out; omega
        obtain ⟨b1, o1, rfl, hb1, hc1⟩ := (hn2.1.keep hbel).at hlt
        have c0 := hc1 k hlt 0 (by omega)
        have c1 := hc1 k hlt 1 (by omega)
        have c2 := hc1 k hlt 2 (by omega)
        have c3 := hc1 k hlt 3 (by omega)
        have c4 := hc1 k hlt 4 (by omega)
        have c5 := hc1 k hlt 5 (by omega)
        have c6 := hc1 k hlt 6 (by omega)
        have c7 := hc1 k hlt 7 (by omega)
        have c8 := hc1 k hlt 8 (by omega)
        have c9 := hc1 k hlt 9 (by omega)
        have c10 := hc1 k hlt 10 (by omega)
        have c11 := hc1 k hlt 11 (by omega)
        have c12 := hc1 k hlt 12 (by omega)
        simp only [nodeE, Nat.add_zero, List.getElem?_cons_zero, List.getElem?_cons_succ] at c0 c1 c2 c3 c4 c5 c6 c7 c8 c9 c10 c11 c12
        clear hc1
        have ok1 := (hn2.2 ns[k] (List.getElem_mem _)).keep hbel
        have zr := ZN.out ns[k] (List.getElem_mem _)
        have hcl := ok1.2
        have hrow := ROW.out k hlt hlt2
        have hno : nodeOK ns[k].N = true := by unfold rowOK at hrow; simp at hrow; exact hrow.1
        obtain ⟨c, hcN, hcL⟩ := nodeOK_commit hno
        have HCN := Lib.hid hcN
        have HROW := Lib.hid hrow
        clear hno hcN hrow
        have hd3 := hd2.keep hbel
        have HHB : Hid (holdB ds ns[k].N = prefB ds (datas ns[k].N.log ns[k].N.log.length)) := Lib.hid rfl
        have hdl2 := datas_le ns[k].N.log ns[k].N.log.length
        have HS := Lib.hid (cntR_succ ns ds k hlt)
        generalize ns[k] = r at ok1 zr hcl HCN hcL HROW HHB hdl2 HS c0 c1 c2 c3 c4 c5 c6 c7 c8 c9 c10 c11 c12
        have zl := zr.log
        go_wp2_with fail
        have ok2 := NodeA.ok.keep ok1 ((Below.refl _ _).alloc (Nat.le_refl _) (.cells #[.int .i64 r.N.id, .int .i64 r.N.nodes, .int .i64 r.N.term, .int .i64 r.N.vote, .int .i64 r.N.role, .bool r.N.up, .slice r.al r.N.log.length r.cl, .int .i64 (r.N.log.length : Int), .int .i64 r.N.elapsed, .int .i64 r.N.wait, .slice r.av r.N.votes.length r.cv, .slice r.an r.N.next.length r.cn, .slice r.am r.N.mtch.length r.cm] 54))
        have hd4 := hd3.alloc (.cells #[.int .i64 r.N.id, .int .i64 r.N.nodes, .int .i64 r.N.term, .int .i64 r.N.vote, .int .i64 r.N.role, .bool r.N.up, .slice r.al r.N.log.length r.cl, .int .i64 (r.N.log.length : Int), .int .i64 r.N.elapsed, .int .i64 r.N.wait, .slice r.av r.N.votes.length r.cv, .slice r.an r.N.next.length r.cn, .slice r.am r.N.mtch.length r.cm] 54)
        have HBX : Hid (Below w1.heap.size w1 (wr.alloc (.cells #[.int .i64 r.N.id, .int .i64 r.N.nodes, .int .i64 r.N.term, .int .i64 r.N.vote, .int .i64 r.N.role, .bool r.N.up, .slice r.al r.N.log.length r.cl, .int .i64 (r.N.log.length : Int), .int .i64 r.N.elapsed, .int .i64 r.N.wait, .slice r.av r.N.votes.length r.cv, .slice r.an r.N.next.length r.cn, .slice r.am r.N.mtch.length r.cm] 54))) := HBL.out.alloc (by omega) _
        have hzx : (wr.alloc (.cells #[.int .i64 r.N.id, .int .i64 r.N.nodes, .int .i64 r.N.term, .int .i64 r.N.vote, .int .i64 r.N.role, .bool r.N.up, .slice r.al r.N.log.length r.cl, .int .i64 (r.N.log.length : Int), .int .i64 r.N.elapsed, .int .i64 r.N.wait, .slice r.av r.N.votes.length r.cv, .slice r.an r.N.next.length r.cn, .slice r.am r.N.mtch.length r.cm] 54)).heap.size = wr.heap.size + 1 := by simp
        have y_0 : (wr.alloc (.cells #[.int .i64 r.N.id, .int .i64 r.N.nodes, .int .i64 r.N.term, .int .i64 r.N.vote, .int .i64 r.N.role, .bool r.N.up, .slice r.al r.N.log.length r.cl, .int .i64 (r.N.log.length : Int), .int .i64 r.N.elapsed, .int .i64 r.N.wait, .slice r.av r.N.votes.length r.cv, .slice r.an r.N.next.length r.cn, .slice r.am r.N.mtch.length r.cm] 54)).cell? ⟨w.heap.size, 0, none⟩ = some (.slice (some ⟨b1, o1, none⟩) ns.length cn) := (World.cell?_alloc_lt _ _ _ (by show w.heap.size < _; omega)).trans kr_0
        have y_1 : (wr.alloc (.cells #[.int .i64 r.N.id, .int .i64 r.N.nodes, .int .i64 r.N.term, .int .i64 r.N.vote, .int .i64 r.N.role, .bool r.N.up, .slice r.al r.N.log.length r.cl, .int .i64 (r.N.log.length : Int), .int .i64 r.N.elapsed, .int .i64 r.N.wait, .slice r.av r.N.votes.length r.cv, .slice r.an r.N.next.length r.cn, .slice r.am r.N.mtch.length r.cm] 54)).cell? ⟨w.heap.size, 1, none⟩ = some (.slice ast ss.length cst) := (World.cell?_alloc_lt _ _ _ (by show w.heap.size < _; omega)).trans kr_1
        have y_2 : (wr.alloc (.cells #[.int .i64 r.N.id, .int .i64 r.N.nodes, .int .i64 r.N.term, .int .i64 r.N.vote, .int .i64 r.N.role, .bool r.N.up, .slice r.al r.N.log.length r.cl, .int .i64 (r.N.log.length : Int), .int .i64 r.N.elapsed, .int .i64 r.N.wait, .slice r.av r.N.votes.length r.cv, .slice r.an r.N.next.length r.cn, .slice r.am r.N.mtch.length r.cm] 54)).cell? ⟨w.heap.size, 2, none⟩ = some (.slice aw ws.length cw) := (World.cell?_alloc_lt _ _ _ (by show w.heap.size < _; omega)).trans kr_2
        have y_3 : (wr.alloc (.cells #[.int .i64 r.N.id, .int .i64 r.N.nodes, .int .i64 r.N.term, .int .i64 r.N.vote, .int .i64 r.N.role, .bool r.N.up, .slice r.al r.N.log.length r.cl, .int .i64 (r.N.log.length : Int), .int .i64 r.N.elapsed, .int .i64 r.N.wait, .slice r.av r.N.votes.length r.cv, .slice r.an r.N.next.length r.cn, .slice r.am r.N.mtch.length r.cm] 54)).cell? ⟨w.heap.size, 3, none⟩ = some (.slice ad ds.length cd) := (World.cell?_alloc_lt _ _ _ (by show w.heap.size < _; omega)).trans kr_3
        have x_0 : (wr.alloc (.cells #[.int .i64 r.N.id, .int .i64 r.N.nodes, .int .i64 r.N.term, .int .i64 r.N.vote, .int .i64 r.N.role, .bool r.N.up, .slice r.al r.N.log.length r.cl, .int .i64 (r.N.log.length : Int), .int .i64 r.N.elapsed, .int .i64 r.N.wait, .slice r.av r.N.votes.length r.cv, .slice r.an r.N.next.length r.cn, .slice r.am r.N.mtch.length r.cm] 54)).cell? ⟨wr.heap.size, 0, none⟩ = some (.int .i64 r.N.id) := by simp [go_sem]
        have x_1 : (wr.alloc (.cells #[.int .i64 r.N.id, .int .i64 r.N.nodes, .int .i64 r.N.term, .int .i64 r.N.vote, .int .i64 r.N.role, .bool r.N.up, .slice r.al r.N.log.length r.cl, .int .i64 (r.N.log.length : Int), .int .i64 r.N.elapsed, .int .i64 r.N.wait, .slice r.av r.N.votes.length r.cv, .slice r.an r.N.next.length r.cn, .slice r.am r.N.mtch.length r.cm] 54)).cell? ⟨wr.heap.size, 1, none⟩ = some (.int .i64 r.N.nodes) := by simp [go_sem]
        have x_2 : (wr.alloc (.cells #[.int .i64 r.N.id, .int .i64 r.N.nodes, .int .i64 r.N.term, .int .i64 r.N.vote, .int .i64 r.N.role, .bool r.N.up, .slice r.al r.N.log.length r.cl, .int .i64 (r.N.log.length : Int), .int .i64 r.N.elapsed, .int .i64 r.N.wait, .slice r.av r.N.votes.length r.cv, .slice r.an r.N.next.length r.cn, .slice r.am r.N.mtch.length r.cm] 54)).cell? ⟨wr.heap.size, 2, none⟩ = some (.int .i64 r.N.term) := by simp [go_sem]
        have x_3 : (wr.alloc (.cells #[.int .i64 r.N.id, .int .i64 r.N.nodes, .int .i64 r.N.term, .int .i64 r.N.vote, .int .i64 r.N.role, .bool r.N.up, .slice r.al r.N.log.length r.cl, .int .i64 (r.N.log.length : Int), .int .i64 r.N.elapsed, .int .i64 r.N.wait, .slice r.av r.N.votes.length r.cv, .slice r.an r.N.next.length r.cn, .slice r.am r.N.mtch.length r.cm] 54)).cell? ⟨wr.heap.size, 3, none⟩ = some (.int .i64 r.N.vote) := by simp [go_sem]
        have x_4 : (wr.alloc (.cells #[.int .i64 r.N.id, .int .i64 r.N.nodes, .int .i64 r.N.term, .int .i64 r.N.vote, .int .i64 r.N.role, .bool r.N.up, .slice r.al r.N.log.length r.cl, .int .i64 (r.N.log.length : Int), .int .i64 r.N.elapsed, .int .i64 r.N.wait, .slice r.av r.N.votes.length r.cv, .slice r.an r.N.next.length r.cn, .slice r.am r.N.mtch.length r.cm] 54)).cell? ⟨wr.heap.size, 4, none⟩ = some (.int .i64 r.N.role) := by simp [go_sem]
        have x_5 : (wr.alloc (.cells #[.int .i64 r.N.id, .int .i64 r.N.nodes, .int .i64 r.N.term, .int .i64 r.N.vote, .int .i64 r.N.role, .bool r.N.up, .slice r.al r.N.log.length r.cl, .int .i64 (r.N.log.length : Int), .int .i64 r.N.elapsed, .int .i64 r.N.wait, .slice r.av r.N.votes.length r.cv, .slice r.an r.N.next.length r.cn, .slice r.am r.N.mtch.length r.cm] 54)).cell? ⟨wr.heap.size, 5, none⟩ = some (.bool r.N.up) := by simp [go_sem]
        have x_6 : (wr.alloc (.cells #[.int .i64 r.N.id, .int .i64 r.N.nodes, .int .i64 r.N.term, .int .i64 r.N.vote, .int .i64 r.N.role, .bool r.N.up, .slice r.al r.N.log.length r.cl, .int .i64 (r.N.log.length : Int), .int .i64 r.N.elapsed, .int .i64 r.N.wait, .slice r.av r.N.votes.length r.cv, .slice r.an r.N.next.length r.cn, .slice r.am r.N.mtch.length r.cm] 54)).cell? ⟨wr.heap.size, 6, none⟩ = some (.slice r.al r.N.log.length r.cl) := by simp [go_sem]
        have x_7 : (wr.alloc (.cells #[.int .i64 r.N.id, .int .i64 r.N.nodes, .int .i64 r.N.term, .int .i64 r.N.vote, .int .i64 r.N.role, .bool r.N.up, .slice r.al r.N.log.length r.cl, .int .i64 (r.N.log.length : Int), .int .i64 r.N.elapsed, .int .i64 r.N.wait, .slice r.av r.N.votes.length r.cv, .slice r.an r.N.next.length r.cn, .slice r.am r.N.mtch.length r.cm] 54)).cell? ⟨wr.heap.size, 7, none⟩ = some (.int .i64 (r.N.log.length : Int)) := by simp [go_sem]
        have x_8 : (wr.alloc (.cells #[.int .i64 r.N.id, .int .i64 r.N.nodes, .int .i64 r.N.term, .int .i64 r.N.vote, .int .i64 r.N.role, .bool r.N.up, .slice r.al r.N.log.length r.cl, .int .i64 (r.N.log.length : Int), .int .i64 r.N.elapsed, .int .i64 r.N.wait, .slice r.av r.N.votes.length r.cv, .slice r.an r.N.next.length r.cn, .slice r.am r.N.mtch.length r.cm] 54)).cell? ⟨wr.heap.size, 8, none⟩ = some (.int .i64 r.N.elapsed) := by simp [go_sem]
        have x_9 : (wr.alloc (.cells #[.int .i64 r.N.id, .int .i64 r.N.nodes, .int .i64 r.N.term, .int .i64 r.N.vote, .int .i64 r.N.role, .bool r.N.up, .slice r.al r.N.log.length r.cl, .int .i64 (r.N.log.length : Int), .int .i64 r.N.elapsed, .int .i64 r.N.wait, .slice r.av r.N.votes.length r.cv, .slice r.an r.N.next.length r.cn, .slice r.am r.N.mtch.length r.cm] 54)).cell? ⟨wr.heap.size, 9, none⟩ = some (.int .i64 r.N.wait) := by simp [go_sem]
        have x_10 : (wr.alloc (.cells #[.int .i64 r.N.id, .int .i64 r.N.nodes, .int .i64 r.N.term, .int .i64 r.N.vote, .int .i64 r.N.role, .bool r.N.up, .slice r.al r.N.log.length r.cl, .int .i64 (r.N.log.length : Int), .int .i64 r.N.elapsed, .int .i64 r.N.wait, .slice r.av r.N.votes.length r.cv, .slice r.an r.N.next.length r.cn, .slice r.am r.N.mtch.length r.cm] 54)).cell? ⟨wr.heap.size, 10, none⟩ = some (.slice r.av r.N.votes.length r.cv) := by simp [go_sem]
        have x_11 : (wr.alloc (.cells #[.int .i64 r.N.id, .int .i64 r.N.nodes, .int .i64 r.N.term, .int .i64 r.N.vote, .int .i64 r.N.role, .bool r.N.up, .slice r.al r.N.log.length r.cl, .int .i64 (r.N.log.length : Int), .int .i64 r.N.elapsed, .int .i64 r.N.wait, .slice r.av r.N.votes.length r.cv, .slice r.an r.N.next.length r.cn, .slice r.am r.N.mtch.length r.cm] 54)).cell? ⟨wr.heap.size, 11, none⟩ = some (.slice r.an r.N.next.length r.cn) := by simp [go_sem]
        have x_12 : (wr.alloc (.cells #[.int .i64 r.N.id, .int .i64 r.N.nodes, .int .i64 r.N.term, .int .i64 r.N.vote, .int .i64 r.N.role, .bool r.N.up, .slice r.al r.N.log.length r.cl, .int .i64 (r.N.log.length : Int), .int .i64 r.N.elapsed, .int .i64 r.N.wait, .slice r.av r.N.votes.length r.cv, .slice r.an r.N.next.length r.cn, .slice r.am r.N.mtch.length r.cm] 54)).cell? ⟨wr.heap.size, 12, none⟩ = some (.slice r.am r.N.mtch.length r.cm) := by simp [go_sem]
        generalize wr.alloc (.cells #[.int .i64 r.N.id, .int .i64 r.N.nodes, .int .i64 r.N.term, .int .i64 r.N.vote, .int .i64 r.N.role, .bool r.N.up, .slice r.al r.N.log.length r.cl, .int .i64 (r.N.log.length : Int), .int .i64 r.N.elapsed, .int .i64 r.N.wait, .slice r.av r.N.votes.length r.cv, .slice r.an r.N.next.length r.cn, .slice r.am r.N.mtch.length r.cm] 54) = wx at ok2 hd4 HBX hzx y_0 y_1 y_2 y_3 x_0 x_1 x_2 x_3 x_4 x_5 x_6 x_7 x_8 x_9 x_10 x_11 x_12 ⊢
        obtain ⟨pv, hpv⟩ : ∃ v, prefB ds (datas r.N.log r.N.log.length) = v := ⟨_, rfl⟩
        have HPV := Lib.hid hpv
        clear hpv
        go_region_held3 (fun w' => w'.cell? ⟨w.heap.size, 0, none⟩ = some (.slice (some ⟨b1, o1, none⟩) ns.length cn) ∧ w'.cell? ⟨w.heap.size, 1, none⟩ = some (.slice ast ss.length cst) ∧ w'.cell? ⟨w.heap.size, 2, none⟩ = some (.slice aw ws.length cw) ∧ w'.cell? ⟨w.heap.size, 3, none⟩ = some (.slice ad ds.length cd) ∧ w'.cell? ⟨wr.heap.size, 0, none⟩ = some (.int .i64 r.N.id) ∧ w'.cell? ⟨wr.heap.size, 1, none⟩ = some (.int .i64 r.N.nodes) ∧ w'.cell? ⟨wr.heap.size, 2, none⟩ = some (.int .i64 r.N.term) ∧ w'.cell? ⟨wr.heap.size, 3, none⟩ = some (.int .i64 r.N.vote) ∧ w'.cell? ⟨wr.heap.size, 4, none⟩ = some (.int .i64 r.N.role) ∧ w'.cell? ⟨wr.heap.size, 5, none⟩ = some (.bool r.N.up) ∧ w'.cell? ⟨wr.heap.size, 6, none⟩ = some (.slice r.al r.N.log.length r.cl) ∧ w'.cell? ⟨wr.heap.size, 7, none⟩ = some (.int .i64 (r.N.log.length : Int)) ∧ w'.cell? ⟨wr.heap.size, 8, none⟩ = some (.int .i64 r.N.elapsed) ∧ w'.cell? ⟨wr.heap.size, 9, none⟩ = some (.int .i64 r.N.wait) ∧ w'.cell? ⟨wr.heap.size, 10, none⟩ = some (.slice r.av r.N.votes.length r.cv) ∧ w'.cell? ⟨wr.heap.size, 11, none⟩ = some (.slice r.an r.N.next.length r.cn) ∧ w'.cell? ⟨wr.heap.size, 12, none⟩ = some (.slice r.am r.N.mtch.length r.cm))
          (first | go_keep | (repeat' apply And.intro) <;> assumption)
          (first
          | (have tok := hb2
             clear tok
             go_at_call 45
             refine (isPrefix_c ad a2 cd c2 ds (datas r.N.log r.N.log.length) _ (hd4.drew.keep hb2) (hf2.sl fun _ => rfl) zd (by omega) (fit_of_own hf2.here)).mono ?_
             rw [HPV.out]
             rintro e w3 ⟨rfl, hb3⟩
             have hz3 := hb3.size
             try simp at hz3
             have y3_0 : w3.cell? ⟨w.heap.size, 0, none⟩ = some (.slice (some ⟨b1, o1, none⟩) ns.length cn) := by
               rw [hb3.cell (p := ⟨w.heap.size, 0, none⟩) (show w.heap.size < _ by (try simp) <;> (try omega))]
               first | assumption | (simp [go_sem, *])
             have y3_1 : w3.cell? ⟨w.heap.size, 1, none⟩ = some (.slice ast ss.length cst) := by
               rw [hb3.cell (p := ⟨w.heap.size, 1, none⟩) (show w.heap.size < _ by (try simp) <;> (try omega))]
               first | assumption | (simp [go_sem, *])
             have y3_2 : w3.cell? ⟨w.heap.size, 2, none⟩ = some (.slice aw ws.length cw) := by
               rw [hb3.cell (p := ⟨w.heap.size, 2, none⟩) (show w.heap.size < _ by (try simp) <;> (try omega))]
               first | assumption | (simp [go_sem, *])
             have y3_3 : w3.cell? ⟨w.heap.size, 3, none⟩ = some (.slice ad ds.length cd) := by
               rw [hb3.cell (p := ⟨w.heap.size, 3, none⟩) (show w.heap.size < _ by (try simp) <;> (try omega))]
               first | assumption | (simp [go_sem, *])
             have x3_0 : w3.cell? ⟨wr.heap.size, 0, none⟩ = some (.int .i64 r.N.id) := by
               rw [hb3.cell (p := ⟨wr.heap.size, 0, none⟩) (show wr.heap.size < _ by (try simp) <;> (try omega))]
               first | assumption | (simp [go_sem, *])
             have x3_1 : w3.cell? ⟨wr.heap.size, 1, none⟩ = some (.int .i64 r.N.nodes) := by
               rw [hb3.cell (p := ⟨wr.heap.size, 1, none⟩) (show wr.heap.size < _ by (try simp) <;> (try omega))]
               first | assumption | (simp [go_sem, *])
             have x3_2 : w3.cell? ⟨wr.heap.size, 2, none⟩ = some (.int .i64 r.N.term) := by
               rw [hb3.cell (p := ⟨wr.heap.size, 2, none⟩) (show wr.heap.size < _ by (try simp) <;> (try omega))]
               first | assumption | (simp [go_sem, *])
             have x3_3 : w3.cell? ⟨wr.heap.size, 3, none⟩ = some (.int .i64 r.N.vote) := by
               rw [hb3.cell (p := ⟨wr.heap.size, 3, none⟩) (show wr.heap.size < _ by (try simp) <;> (try omega))]
               first | assumption | (simp [go_sem, *])
             have x3_4 : w3.cell? ⟨wr.heap.size, 4, none⟩ = some (.int .i64 r.N.role) := by
               rw [hb3.cell (p := ⟨wr.heap.size, 4, none⟩) (show wr.heap.size < _ by (try simp) <;> (try omega))]
               first | assumption | (simp [go_sem, *])
             have x3_5 : w3.cell? ⟨wr.heap.size, 5, none⟩ = some (.bool r.N.up) := by
               rw [hb3.cell (p := ⟨wr.heap.size, 5, none⟩) (show wr.heap.size < _ by (try simp) <;> (try omega))]
               first | assumption | (simp [go_sem, *])
             have x3_6 : w3.cell? ⟨wr.heap.size, 6, none⟩ = some (.slice r.al r.N.log.length r.cl) := by
               rw [hb3.cell (p := ⟨wr.heap.size, 6, none⟩) (show wr.heap.size < _ by (try simp) <;> (try omega))]
               first | assumption | (simp [go_sem, *])
             have x3_7 : w3.cell? ⟨wr.heap.size, 7, none⟩ = some (.int .i64 (r.N.log.length : Int)) := by
               rw [hb3.cell (p := ⟨wr.heap.size, 7, none⟩) (show wr.heap.size < _ by (try simp) <;> (try omega))]
               first | assumption | (simp [go_sem, *])
             have x3_8 : w3.cell? ⟨wr.heap.size, 8, none⟩ = some (.int .i64 r.N.elapsed) := by
               rw [hb3.cell (p := ⟨wr.heap.size, 8, none⟩) (show wr.heap.size < _ by (try simp) <;> (try omega))]
               first | assumption | (simp [go_sem, *])
             have x3_9 : w3.cell? ⟨wr.heap.size, 9, none⟩ = some (.int .i64 r.N.wait) := by
               rw [hb3.cell (p := ⟨wr.heap.size, 9, none⟩) (show wr.heap.size < _ by (try simp) <;> (try omega))]
               first | assumption | (simp [go_sem, *])
             have x3_10 : w3.cell? ⟨wr.heap.size, 10, none⟩ = some (.slice r.av r.N.votes.length r.cv) := by
               rw [hb3.cell (p := ⟨wr.heap.size, 10, none⟩) (show wr.heap.size < _ by (try simp) <;> (try omega))]
               first | assumption | (simp [go_sem, *])
             have x3_11 : w3.cell? ⟨wr.heap.size, 11, none⟩ = some (.slice r.an r.N.next.length r.cn) := by
               rw [hb3.cell (p := ⟨wr.heap.size, 11, none⟩) (show wr.heap.size < _ by (try simp) <;> (try omega))]
               first | assumption | (simp [go_sem, *])
             have x3_12 : w3.cell? ⟨wr.heap.size, 12, none⟩ = some (.slice r.am r.N.mtch.length r.cm) := by
               rw [hb3.cell (p := ⟨wr.heap.size, 12, none⟩) (show wr.heap.size < _ by (try simp) <;> (try omega))]
               first | assumption | (simp [go_sem, *]))
          | (go_at_call 46
             refine (implCommitted0_c r.al r.cl r.av r.cv r.an r.cn r.am r.cm { r.N with commit := (r.N.log.length : Int) } r.N.log.length _ (⟨ok2.1.drew.log, ok2.1.drew.votes, ok2.1.drew.next, ok2.1.drew.mtch⟩) (⟨zr.log, zr.data, zr.votes, zr.next, zr.mtch⟩) hcl rfl (Nat.le_refl _)).mono ?_
             rintro e w2 ⟨a2, c2, rfl, hf2, hb2⟩
             have hz2 := hb2.size
             try simp at hz2
             have y2_0 : w2.cell? ⟨w.heap.size, 0, none⟩ = some (.slice (some ⟨b1, o1, none⟩) ns.length cn) := by
               rw [hb2.cell (p := ⟨w.heap.size, 0, none⟩) (show w.heap.size < _ by (try simp) <;> (try omega))]
               first | assumption | (simp [go_sem, *])
             have y2_1 : w2.cell? ⟨w.heap.size, 1, none⟩ = some (.slice ast ss.length cst) := by
               rw [hb2.cell (p := ⟨w.heap.size, 1, none⟩) (show w.heap.size < _ by (try simp) <;> (try omega))]
               first | assumption | (simp [go_sem, *])
             have y2_2 : w2.cell? ⟨w.heap.size, 2, none⟩ = some (.slice aw ws.length cw) := by
               rw [hb2.cell (p := ⟨w.heap.size, 2, none⟩) (show w.heap.size < _ by (try simp) <;> (try omega))]
               first | assumption | (simp [go_sem, *])
             have y2_3 : w2.cell? ⟨w.heap.size, 3, none⟩ = some (.slice ad ds.length cd) := by
               rw [hb2.cell (p := ⟨w.heap.size, 3, none⟩) (show w.heap.size < _ by (try simp) <;> (try omega))]
               first | assumption | (simp [go_sem, *])
             have x2_0 : w2.cell? ⟨wr.heap.size, 0, none⟩ = some (.int .i64 r.N.id) := by
               rw [hb2.cell (p := ⟨wr.heap.size, 0, none⟩) (show wr.heap.size < _ by (try simp) <;> (try omega))]
               first | assumption | (simp [go_sem, *])
             have x2_1 : w2.cell? ⟨wr.heap.size, 1, none⟩ = some (.int .i64 r.N.nodes) := by
               rw [hb2.cell (p := ⟨wr.heap.size, 1, none⟩) (show wr.heap.size < _ by (try simp) <;> (try omega))]
               first | assumption | (simp [go_sem, *])
             have x2_2 : w2.cell? ⟨wr.heap.size, 2, none⟩ = some (.int .i64 r.N.term) := by
               rw [hb2.cell (p := ⟨wr.heap.size, 2, none⟩) (show wr.heap.size < _ by (try simp) <;> (try omega))]
               first | assumption | (simp [go_sem, *])
             have x2_3 : w2.cell? ⟨wr.heap.size, 3, none⟩ = some (.int .i64 r.N.vote) := by
               rw [hb2.cell (p := ⟨wr.heap.size, 3, none⟩) (show wr.heap.size < _ by (try simp) <;> (try omega))]
               first | assumption | (simp [go_sem, *])
             have x2_4 : w2.cell? ⟨wr.heap.size, 4, none⟩ = some (.int .i64 r.N.role) := by
               rw [hb2.cell (p := ⟨wr.heap.size, 4, none⟩) (show wr.heap.size < _ by (try simp) <;> (try omega))]
               first | assumption | (simp [go_sem, *])
             have x2_5 : w2.cell? ⟨wr.heap.size, 5, none⟩ = some (.bool r.N.up) := by
               rw [hb2.cell (p := ⟨wr.heap.size, 5, none⟩) (show wr.heap.size < _ by (try simp) <;> (try omega))]
               first | assumption | (simp [go_sem, *])
             have x2_6 : w2.cell? ⟨wr.heap.size, 6, none⟩ = some (.slice r.al r.N.log.length r.cl) := by
               rw [hb2.cell (p := ⟨wr.heap.size, 6, none⟩) (show wr.heap.size < _ by (try simp) <;> (try omega))]
               first | assumption | (simp [go_sem, *])
             have x2_7 : w2.cell? ⟨wr.heap.size, 7, none⟩ = some (.int .i64 (r.N.log.length : Int)) := by
               rw [hb2.cell (p := ⟨wr.heap.size, 7, none⟩) (show wr.heap.size < _ by (try simp) <;> (try omega))]
               first | assumption | (simp [go_sem, *])
             have x2_8 : w2.cell? ⟨wr.heap.size, 8, none⟩ = some (.int .i64 r.N.elapsed) := by
               rw [hb2.cell (p := ⟨wr.heap.size, 8, none⟩) (show wr.heap.size < _ by (try simp) <;> (try omega))]
               first | assumption | (simp [go_sem, *])
             have x2_9 : w2.cell? ⟨wr.heap.size, 9, none⟩ = some (.int .i64 r.N.wait) := by
               rw [hb2.cell (p := ⟨wr.heap.size, 9, none⟩) (show wr.heap.size < _ by (try simp) <;> (try omega))]
               first | assumption | (simp [go_sem, *])
             have x2_10 : w2.cell? ⟨wr.heap.size, 10, none⟩ = some (.slice r.av r.N.votes.length r.cv) := by
               rw [hb2.cell (p := ⟨wr.heap.size, 10, none⟩) (show wr.heap.size < _ by (try simp) <;> (try omega))]
               first | assumption | (simp [go_sem, *])
             have x2_11 : w2.cell? ⟨wr.heap.size, 11, none⟩ = some (.slice r.an r.N.next.length r.cn) := by
               rw [hb2.cell (p := ⟨wr.heap.size, 11, none⟩) (show wr.heap.size < _ by (try simp) <;> (try omega))]
               first | assumption | (simp [go_sem, *])
             have x2_12 : w2.cell? ⟨wr.heap.size, 12, none⟩ = some (.slice r.am r.N.mtch.length r.cm) := by
               rw [hb2.cell (p := ⟨wr.heap.size, 12, none⟩) (show wr.heap.size < _ by (try simp) <;> (try omega))]
               first | assumption | (simp [go_sem, *])))
        have hx : Below wx.heap.size wx w3 := (((Below.refl _ _).drew).trans (hb2.mono (by simp))).trans (hb3.mono (by omega))
        have hzx3 := hx.size
        cases pv
        case false =>
          go_wp2_with fail
          go_roundw
          case rel => exact ⟨k + 1, m, by omega, by omega, by go_num, rfl, by show _ = _; rw [HS.out, HHB.out, HPV.out, hmc.out]; rfl, HBX.out.trans (hx.mono (by omega))⟩
          case measure => simp [intOf]; omega
        case true =>
          go_wp2_with fail
          go_roundw
          case rel => exact ⟨k + 1, m + 1, by omega, by omega, by go_num, by go_num, by show _ = _; rw [HS.out, HHB.out, HPV.out, hmc.out]; rfl, HBX.out.trans (hx.mono (by omega))⟩
          case measure => simp [intOf]; omega
      · obtain rfl : k = ns.length := by omega
        have HV2 : Hid (decide (2 * (m : Int) > (ns.length : Int)) = V) := Lib.hid (HT.out m hmc.out)
        go_wp2_with fail
        go_ret2
        exact ⟨by rw [← HV2.out]; rfl, HB0.out.trans (HBL.out.mono (by omega))⟩
set_option maxRecDepth 100000 in
set_option maxHeartbeats 8000000 in
theorem specHold_c (ns : List NodeA) (an : Option Addr) (cn : Nat) (ss : List Sto) (ast : Option Addr) (cst : Nat) (ws : List MsgA) (aw : Option Addr) (cw : Nat) (ds : List ByteArray) (ad : Option Addr) (cd : Nat) (w : World) (hC : CluOK w (⟨ns, an, cn, ss, ast, cst, ws, aw, cw, ds, ad, cd⟩ : CluA)) (hcd : ds.length ≤ cd) (hZ : CluSz (⟨ns, an, cn, ss, ast, cst, ws, aw, cw, ds, ad, cd⟩ : CluA) 1048576) :
    Calls Try.prog 15 #[.agg #[.slice an ns.length cn, .slice ast ss.length cst, .slice aw ws.length cw, .slice ad ds.length cd]] w fun e w' => e = .returned (.tuple #[.bool (hldV (⟨ns, an, cn, ss, ast, cst, ws, aw, cw, ds, ad, cd⟩ : CluA)).1, .int .i64 (hldV (⟨ns, an, cn, ss, ast, cst, ws, aw, cw, ds, ad, cd⟩ : CluA)).2]) ∧ Below w.heap.size w w' := by
  have hn1 : NodeS w an ns := hC.nodes
  have hs1 : Sl stoE 2 w ast ss := hC.stores
  have hd1 : Sl strE 1 w ad ds := hC.done
  have HC1 := Lib.hid (hC.alloc (.cells #[.slice an ns.length cn, .slice ast ss.length cst, .slice aw ws.length cw, .slice ad ds.length cd] 34))
  have HZ := Lib.hid hZ
  have ZN : Hid (∀ r ∈ ns, NodeSz r.N 1048576) := hZ.nodes
  have zn : ns.length ≤ 1048576 := hZ.nl
  have zd : ds.length ≤ 1048576 := hZ.dl
  clear hZ hC
  unfold hldV
  obtain ⟨v, hv⟩ : ∃ v, cluOK (⟨ns, an, cn, ss, ast, cst, ws, aw, cw, ds, ad, cd⟩ : CluA) = v := ⟨_, rfl⟩
  have HV := Lib.hid hv
  rw [hv]
  clear hv
  cases v
  case false =>
    simp only [Bool.false_eq_true, if_false]
    go_enter Try.func15, Try.ntmps15
    go_wp2_with fail
    refine (specCluster_c ns an cn ss ast cst ws aw cw ds ad cd _ HC1.out HZ.out).mono ?_
    rw [HV.out]
    rintro e w1 ⟨rfl, hb1⟩
    go_wp2_with fail
    go_ret2
    exact ⟨rfl, ((Below.refl _ _).alloc (Nat.le_refl _) _).trans (hb1.mono (by simp))⟩
  case true =>
    simp only [if_true]
    have hp : CluP (⟨ns, an, cn, ss, ast, cst, ws, aw, cw, ds, ad, cd⟩ : CluA) := cluOK_p HV.out
    have ROW : Hid (∀ i (h1 : i < ns.length) (h2 : i < ss.length), rowOK ns.length i ns[i].N ss[i] = true) := Lib.hid hp.rows
    have HSL : Hid (ss.length = ns.length) := Lib.hid hp.sl
    have hn5 : 1 ≤ ns.length ∧ ns.length ≤ 5 := by have h2 : inB (ns.length : Int) 1 5 = true := hp.cnt; simp [inB] at h2; omega
    have hdl : ds.length ≤ 60 := hp.dl
    clear hp
    obtain ⟨V, hV⟩ : ∃ V, decide (2 * (cntB (List.map (fun x => x.N) ns) ds : Int) > (ns.length : Int)) = V := ⟨_, rfl⟩
    show Calls Try.prog 15 #[.agg #[.slice an ns.length cn, .slice ast ss.length cst, .slice aw ws.length cw, .slice ad ds.length cd]] w fun e w' => e = .returned (.tuple #[.bool (decide (2 * (cntB (List.map (fun x => x.N) ns) ds : Int) > (ns.length : Int))), .int .i64 0]) ∧ Below w.heap.size w w'
    rw [hV]
    have HT : Hid (∀ m : Nat, m = cntR (ns.take ns.length) ds → decide (2 * (m : Int) > (ns.length : Int)) = V) := Lib.hid (fun m h => by
      rw [h, List.take_length, ← hV, cntB_map])
    clear hV
    go_enter Try.func15, Try.ntmps15
    go_wp2_with fail
    refine (specCluster_c ns an cn ss ast cst ws aw cw ds ad cd _ HC1.out HZ.out).mono ?_
    rw [HV.out]
    rintro e w1 ⟨rfl, hb1⟩
    have hz1 := hb1.size
    simp only [World.size_alloc] at hz1
    have hn2 := (hn1.alloc (.cells #[.slice an ns.length cn, .slice ast ss.length cst, .slice aw ws.length cw, .slice ad ds.length cd] 34)).keep hb1
    have hs2 := (hs1.alloc (.cells #[.slice an ns.length cn, .slice ast ss.length cst, .slice aw ws.length cw, .slice ad ds.length cd] 34)).keep hb1
    have hd2 := (hd1.alloc (.cells #[.slice an ns.length cn, .slice ast ss.length cst, .slice aw ws.length cw, .slice ad ds.length cd] 34)).keep hb1
    have k_0 : w1.cell? ⟨w.heap.size, 0, none⟩ = some (.slice an ns.length cn) := (hb1.cell (p := ⟨w.heap.size, 0, none⟩) (by show w.heap.size < _; simp)).trans (by simp [go_sem])
    have k_1 : w1.cell? ⟨w.heap.size, 1, none⟩ = some (.slice ast ss.length cst) := (hb1.cell (p := ⟨w.heap.size, 1, none⟩) (by show w.heap.size < _; simp)).trans (by simp [go_sem])
    have k_2 : w1.cell? ⟨w.heap.size, 2, none⟩ = some (.slice aw ws.length cw) := (hb1.cell (p := ⟨w.heap.size, 2, none⟩) (by show w.heap.size < _; simp)).trans (by simp [go_sem])
    have k_3 : w1.cell? ⟨w.heap.size, 3, none⟩ = some (.slice ad ds.length cd) := (hb1.cell (p := ⟨w.heap.size, 3, none⟩) (by show w.heap.size < _; simp)).trans (by simp [go_sem])
    have HB0 : Hid (Below w.heap.size w w1) := ((Below.refl _ _).alloc (Nat.le_refl _) _).trans (hb1.mono (by simp))
    clear hb1 hn1 hs1 hd1
    go_wp2_with fail
    go_loopw [4, 5] (fun c i wr => ∃ (k m : Nat), k ≤ ns.length ∧ m ≤ k ∧ i = .int .i64 k ∧ c = .int .i64 m ∧ Hid (m = cntR (ns.take k) ds) ∧ Below w1.heap.size w1 wr) (fun _ i _ => ns.length - (intOf i).toNat)
    case atStart => exact ⟨0, 0, Nat.zero_le _, Nat.le_refl _, rfl, rfl, rfl, Below.refl _ _⟩
    case round =>
      obtain ⟨k, m, hk, hmk, rfl, rfl, hmc, hbel⟩ := hrel
      have HBL := Lib.hid hbel
      have hzr := hbel.size
      have hlC : w.heap.size < wr.heap.size := by omega
      have kr_0 : wr.cell? ⟨w.heap.size, 0, none⟩ = some (.slice an ns.length cn) := (hbel.cell (p := ⟨w.heap.size, 0, none⟩) (by show w.heap.size < _; omega)).trans k_0
      have kr_1 : wr.cell? ⟨w.heap.size, 1, none⟩ = some (.slice ast ss.length cst) := (hbel.cell (p := ⟨w.heap.size, 1, none⟩) (by show w.heap.size < _; omega)).trans k_1
      have kr_2 : wr.cell? ⟨w.heap.size, 2, none⟩ = some (.slice aw ws.length cw) := (hbel.cell (p := ⟨w.heap.size, 2, none⟩) (by show w.heap.size < _; omega)).trans k_2
      have kr_3 : wr.cell? ⟨w.heap.size, 3, none⟩ = some (.slice ad ds.length cd) := (hbel.cell (p := ⟨w.heap.size, 3, none⟩) (by show w.heap.size < _; omega)).trans k_3
      by_cases hlt : k < ns.length
      · skip
        have hlt2 : k < ss.length := by have := HSL.out; omega
        obtain ⟨b2, o2, rfl, hb2, hc2⟩ := (hs2.keep hbel).at hlt2
        have d0 := hc2 k hlt2 0 (by omega)
        have d1 := hc2 k hlt2 1 (by omega)
        simp only [stoE, Nat.add_zero, List.getElem?_cons_zero, List.getElem?_cons_succ] at d0 d1
        clear hc2
        have hd3 := hd2.keep hbel
        have hrow := ROW.out k hlt hlt2
        have hsto : storeOK ss[k].1 ss[k].2 = true := by unfold rowOK at hrow; simp at hrow; exact hrow.2.2.2.1
        have hrec : recOK ns[k].N ss[k] = true := by unfold rowOK at hrow; simp at hrow; exact hrow.2.2.2.2.2
        have hdz : ss[k].1.size ≤ 60000 := by simp [storeOK] at hsto; omega
        have HREC := Lib.hid hrec
        have HS := Lib.hid (cntR_succ ns ds k hlt)
        have HHB : Hid (holdB ds ns[k].N = okAt ds ns[k].N.log ds.length) := Lib.hid (okAt_end _ _).symm
        clear hrow hsto hrec
        generalize ns[k] = r at HREC HS HHB
        generalize ss[k] = s at HREC hdz d0 d1
        go_wp2_with fail
        refine (specRecovered_c s.1 s.2 _ hdz).mono ?_
        rintro e w3 ⟨t1, v1', ar, car, L, d1', n1, rfl, himp, hb3'⟩
        have hz3 := hb3'.size
        have HLN : Hid ((rvAll s.1).1.2.2.length ≤ 60) := Lib.hid (rvX_length _ _)
        have hy0 : (rvAll s.1).2.2 = 0 := by have := HREC.out; unfold recOK at this; simp at this; exact this.1
        obtain ⟨hy, hfr⟩ := himp hy0
        have hlog : L = r.N.log := by have := HREC.out; unfold recOK at this; simp at this; have h2 := this.2.2.2.2; rw [hy] at h2; exact h2
        have hln : L.length ≤ 60 := by have := HLN.out; rw [hy] at this; exact this
        have HLOG := Lib.hid hlog
        have hsl0 : Sl entE 2 w3 ar L := hfr.here.sl (fun _ => rfl)
        have HB3 : Hid (Below w1.heap.size w1 w3) := HBL.out.trans (hb3'.mono (by omega))
        have hd5 := hd3.keep hb3'
        rw [hy0]
        clear himp hy0 hy hfr hlog HLN HREC
        have kq_0 : w3.cell? ⟨w.heap.size, 0, none⟩ = some (.slice an ns.length cn) := (hb3'.cell (p := ⟨w.heap.size, 0, none⟩) (by show w.heap.size < _; omega)).trans kr_0
        have kq_1 : w3.cell? ⟨w.heap.size, 1, none⟩ = some (.slice (some ⟨b2, o2, none⟩) ss.length cst) := (hb3'.cell (p := ⟨w.heap.size, 1, none⟩) (by show w.heap.size < _; omega)).trans kr_1
        have kq_2 : w3.cell? ⟨w.heap.size, 2, none⟩ = some (.slice aw ws.length cw) := (hb3'.cell (p := ⟨w.heap.size, 2, none⟩) (by show w.heap.size < _; omega)).trans kr_2
        have kq_3 : w3.cell? ⟨w.heap.size, 3, none⟩ = some (.slice ad ds.length cd) := (hb3'.cell (p := ⟨w.heap.size, 3, none⟩) (by show w.heap.size < _; omega)).trans kr_3
        clear kr_0 kr_1 kr_2 kr_3 hb3'
        have kv_3 : ∀ x y, ((w3.alloc x).alloc y).cell? ⟨w.heap.size, 3, none⟩ = some (.slice ad ds.length cd) := fun x y => (World.cell?_alloc_lt _ _ _ (by show w.heap.size < _; simp; omega)).trans ((World.cell?_alloc_lt _ _ _ (by show w.heap.size < _; omega)).trans kq_3)
        obtain ⟨b0, hb0⟩ : ∃ b, decide (ds.length ≤ L.length) = b := ⟨_, rfl⟩
        have hb0' : decide ((L.length : Int) ≥ (ds.length : Int)) = b0 := by rw [← hb0]; apply Bool.eq_iff_iff.2; simp
        have hb0'' : decide (ds.length ≤ L.length) = b0 := hb0
        have HO : Hid (okAt ds L 0 = b0) := Lib.hid ((okAt_zero ds L).trans hb0)
        clear hb0
        go_wp2_with fail
        clear kv_3
        have hb5 : Below w3.heap.size w3 ((w3.alloc (.cells #[.int .i64 t1, .int .i64 v1', .slice ar L.length car] 60)).alloc (.cells #[.string d1', .int .i64 n1] 58)) := ((Below.refl _ _).alloc (Nat.le_refl _) _).alloc (by simp) _
        have hz5 : w3.heap.size + 2 ≤ ((w3.alloc (.cells #[.int .i64 t1, .int .i64 v1', .slice ar L.length car] 60)).alloc (.cells #[.string d1', .int .i64 n1] 58)).heap.size := by simp
        have kx_0 : ((w3.alloc (.cells #[.int .i64 t1, .int .i64 v1', .slice ar L.length car] 60)).alloc (.cells #[.string d1', .int .i64 n1] 58)).cell? ⟨w.heap.size, 0, none⟩ = some (.slice an ns.length cn) := (hb5.cell (p := ⟨w.heap.size, 0, none⟩) (by show w.heap.size < _; omega)).trans kq_0
        have kx_1 : ((w3.alloc (.cells #[.int .i64 t1, .int .i64 v1', .slice ar L.length car] 60)).alloc (.cells #[.string d1', .int .i64 n1] 58)).cell? ⟨w.heap.size, 1, none⟩ = some (.slice (some ⟨b2, o2, none⟩) ss.length cst) := (hb5.cell (p := ⟨w.heap.size, 1, none⟩) (by show w.heap.size < _; omega)).trans kq_1
        have kx_2 : ((w3.alloc (.cells #[.int .i64 t1, .int .i64 v1', .slice ar L.length car] 60)).alloc (.cells #[.string d1', .int .i64 n1] 58)).cell? ⟨w.heap.size, 2, none⟩ = some (.slice aw ws.length cw) := (hb5.cell (p := ⟨w.heap.size, 2, none⟩) (by show w.heap.size < _; omega)).trans kq_2
        have kx_3 : ((w3.alloc (.cells #[.int .i64 t1, .int .i64 v1', .slice ar L.length car] 60)).alloc (.cells #[.string d1', .int .i64 n1] 58)).cell? ⟨w.heap.size, 3, none⟩ = some (.slice ad ds.length cd) := (hb5.cell (p := ⟨w.heap.size, 3, none⟩) (by show w.heap.size < _; omega)).trans kq_3
        have st_2 : ((w3.alloc (.cells #[.int .i64 t1, .int .i64 v1', .slice ar L.length car] 60)).alloc (.cells #[.string d1', .int .i64 n1] 58)).cell? ⟨w3.heap.size, 2, none⟩ = some (.slice ar L.length car) := by simp [go_sem]
        clear kq_0 kq_1 kq_2 kq_3
        generalize ((w3.alloc (.cells #[.int .i64 t1, .int .i64 v1', .slice ar L.length car] 60)).alloc (.cells #[.string d1', .int .i64 n1] 58)) = w5 at hb5 hz5 kx_0 kx_1 kx_2 kx_3 st_2 ⊢
        have HB5 : Hid (Below w1.heap.size w1 w5) := HB3.out.trans (hb5.mono (by have := HB3.out.size; omega))
        have hw5 := HB5.out.size
        have hsl5 := hsl0.keep hb5
        have hd6 := hd5.keep hb5
        clear hd5 hsl0 hb5
        obtain ⟨wo, rfl⟩ : ∃ wo : World, wo = wr := ⟨_, rfl⟩
        go_loopw [9, 10] (fun o i wr => ∃ (q : Nat) (b : Bool), q ≤ ds.length ∧ i = .int .i64 q ∧ o = .bool b ∧ Hid (okAt ds L q = b) ∧ Below w5.heap.size w5 wr) (fun _ i _ => ds.length - (intOf i).toNat)
        case atStart => exact ⟨0, b0, Nat.zero_le _, rfl, rfl, HO.out, Below.refl _ _⟩
        case round =>
          clear hb0' hb0'' HO
          obtain ⟨q, b, hq, rfl, rfl, hok, hbi⟩ := hrel
          have HBI := Lib.hid hbi
          have hzi := hbi.size
          have hlC2 : w.heap.size < wr.heap.size := by omega
          have hlS2 : w3.heap.size < wr.heap.size := by omega
          have ky_0 : wr.cell? ⟨w.heap.size, 0, none⟩ = some (.slice an ns.length cn) := (hbi.cell (p := ⟨w.heap.size, 0, none⟩) (by show w.heap.size < _; omega)).trans kx_0
          have ky_1 : wr.cell? ⟨w.heap.size, 1, none⟩ = some (.slice (some ⟨b2, o2, none⟩) ss.length cst) := (hbi.cell (p := ⟨w.heap.size, 1, none⟩) (by show w.heap.size < _; omega)).trans kx_1
          have ky_2 : wr.cell? ⟨w.heap.size, 2, none⟩ = some (.slice aw ws.length cw) := (hbi.cell (p := ⟨w.heap.size, 2, none⟩) (by show w.heap.size < _; omega)).trans kx_2
          have ky_3 : wr.cell? ⟨w.heap.size, 3, none⟩ = some (.slice ad ds.length cd) := (hbi.cell (p := ⟨w.heap.size, 3, none⟩) (by show w.heap.size < _; omega)).trans kx_3
          have sy_2 : wr.cell? ⟨w3.heap.size, 2, none⟩ = some (.slice ar L.length car) := (hbi.cell (p := ⟨w3.heap.size, 2, none⟩) (by show w3.heap.size < _; omega)).trans st_2
          have hd7 := hd6.keep hbi
          have hsl7 := hsl5.keep hbi
          have fin : ∀ b', Hid (okAt ds L ds.length = b') → Hid (m + (if b' then 1 else 0) = cntR (ns.take (k + 1)) ds) := fun b' h => by
            show _ = _
            rw [HS.out, HHB.out, ← HLOG.out, h.out, hmc.out]
          have FIN := Lib.hid fin
          clear fin
          cases b
          case false =>
            have HE : Hid (okAt ds L ds.length = false) := Lib.hid (okAt_no hok.out hq)
            go_wp2_with (go_at_call 47; refine (l01Bit_c _ _).mono ?_; rintro e w' ⟨rfl, rfl⟩)
            go_roundw
            case rel => exact ⟨k + 1, m, by omega, by omega, by go_num, by go_num, (FIN.out false HE).out, HB5.out.trans (HBI.out.mono (by omega))⟩
            case measure => simp [intOf]; omega
          case true =>
            by_cases hlq : q < ds.length
            · have hdl3 : ds.length ≤ L.length := by have h := hok.out; unfold okAt at h; simp at h; exact h.1
              have g1 : q < L.length := by omega
              obtain ⟨b3, o3, rfl, hb3, hc3⟩ := hsl7.at g1
              obtain ⟨b4, o4, rfl, hb4, hc4⟩ := hd7.at hlq
              have e0 := hc3 q g1 1 (by omega)
              have e1 := hc4 q hlq 0 (by omega)
              simp only [entE, strE, Nat.mul_one, Nat.add_zero, List.getElem?_cons_zero, List.getElem?_cons_succ] at e0 e1
              have HSU := Lib.hid (okAt_succ hlq g1 hok.out)
              clear hc3 hc4 hdl3
              by_cases hqq : ds[q] = L[q].2
              · have f2 : (L[q].2.toList == ds[q].toList) = true := by rw [hqq]; simp
                have HE : Hid (okAt ds L (q + 1) = true) := Lib.hid (by rw [HSU.out, hqq]; simp)
                clear hqq
                go_wp2_with fail
                go_quiet (fail)
                go_wp2_with fail
                go_roundw
                case rel => exact ⟨q + 1, true, by omega, by go_num, rfl, HE, HBI.out.trans (below_drewN _ _ _)⟩
                case measure => simp [intOf]; omega
              · have f2 : (L[q].2.toList == ds[q].toList) = false := by simp [toList_eq, Ne.symm hqq]
                have HE : Hid (okAt ds L (q + 1) = false) := Lib.hid (by rw [HSU.out]; simp [hqq])
                clear hqq
                go_wp2_with fail
                go_quiet (fail)
                go_wp2_with fail
                go_roundw
                case rel => exact ⟨q + 1, false, by omega, by go_num, rfl, HE, HBI.out.trans (below_drewN _ _ _)⟩
                case measure => simp [intOf]; omega
            · obtain rfl : q = ds.length := by omega
              go_wp2_with (go_at_call 47; refine (l01Bit_c _ _).mono ?_; rintro e w' ⟨rfl, rfl⟩)
              go_roundw
              case rel => exact ⟨k + 1, m + 1, by omega, by omega, by go_num, by go_num, (FIN.out true hok).out, HB5.out.trans (HBI.out.mono (by omega))⟩
              case measure => simp [intOf]; omega
      · obtain rfl : k = ns.length := by omega
        have HV2 : Hid (decide (2 * (m : Int) > (ns.length : Int)) = V) := Lib.hid (HT.out m hmc.out)
        go_wp2_with fail
        go_ret2
        exact ⟨by rw [← HV2.out]; rfl, HB0.out.trans (HBL.out.mono (by omega))⟩
end
section
open Go.RowKit
set_option maxRecDepth 100000 in
set_option maxHeartbeats 16000000 in
theorem lawHold_c (C : CluA) (w : World) (hC : CluOK w C) (hZ : CluSz C 9223372036854775807) :
    Calls Try.prog 5 #[.agg #[.slice C.an C.nodes.length C.cn, .slice C.ast C.stores.length C.cst, .slice C.aw C.wire.length C.cw, .slice C.ad C.done.length C.cd]] w fun e w' => e = .returned (.bool true) ∧ Below w.heap.size w w' := by
  have HZ0 := Lib.hid hZ
  clear hZ
  obtain ⟨p, q, hV⟩ : ∃ p q, hldV C = (p, q) := ⟨_, _, rfl⟩
  have HV := Lib.hid hV
  clear hV
  go_enter Try.func5, Try.ntmps5
  go_wp2_with fail
  refine (szCluster_c C _ _ (hC.alloc _) HZ0.out (by omega) (by omega)).mono ?_
  rintro e w1 ⟨⟨n, rfl, hn, himp⟩, hb1⟩
  have hz1 := hb1.size
  simp only [World.size_alloc] at hz1
  have HI := Lib.hid himp
  clear himp
  have q1_0_0 : w1.cell? ⟨w.heap.size, 0, none⟩ = some (.slice C.an C.nodes.length C.cn) := by
    rw [hb1.cell (p := ⟨w.heap.size, 0, none⟩) (show w.heap.size < _ by (try simp) <;> (try omega))]
    first | assumption | (simp [go_sem, *])
  have q1_0_1 : w1.cell? ⟨w.heap.size, 1, none⟩ = some (.slice C.ast C.stores.length C.cst) := by
    rw [hb1.cell (p := ⟨w.heap.size, 1, none⟩) (show w.heap.size < _ by (try simp) <;> (try omega))]
    first | assumption | (simp [go_sem, *])
  have q1_0_2 : w1.cell? ⟨w.heap.size, 2, none⟩ = some (.slice C.aw C.wire.length C.cw) := by
    rw [hb1.cell (p := ⟨w.heap.size, 2, none⟩) (show w.heap.size < _ by (try simp) <;> (try omega))]
    first | assumption | (simp [go_sem, *])
  have q1_0_3 : w1.cell? ⟨w.heap.size, 3, none⟩ = some (.slice C.ad C.done.length C.cd) := by
    rw [hb1.cell (p := ⟨w.heap.size, 3, none⟩) (show w.heap.size < _ by (try simp) <;> (try omega))]
    first | assumption | (simp [go_sem, *])
  have hl1_0 : w.heap.size < w1.heap.size := by omega
  have HB1 : Hid (Below w.heap.size w w1) := ((Below.refl w.heap.size w).alloc (by (try simp) <;> (try omega)) _).trans (hb1.mono (by (try simp) <;> (try omega)))
  clear hb1
  by_cases hneg : n < 0
  · go_wp2_with fail
    go_ret
    exact ⟨rfl, HB1.out⟩
  have HZ := Lib.hid (HI.out (by omega))
  clear HI
  go_wp2_with fail
  refine (toCluster2_c C _ (hC.keep HB1.out) HZ.out).mono ?_
  rintro e w2 ⟨D2, rfl, he2, hf2, hcap2, hb2⟩
  have hz2 := hb2.size
  have HD2 := Lib.hid hf2
  have HE2 := Lib.hid he2
  have HZ2 : Hid (CluSz D2 1048576) := HZ.out.same he2
  have HV2 : Hid (hldV D2 = (p, q)) := (hldV_same he2).trans HV.out
  clear hf2 he2
  have q2_0_0 : w2.cell? ⟨w.heap.size, 0, none⟩ = some (.slice C.an C.nodes.length C.cn) := by
    rw [hb2.cell (p := ⟨w.heap.size, 0, none⟩) (show w.heap.size < _ by (try simp) <;> (try omega))]
    exact q1_0_0
  have q2_0_1 : w2.cell? ⟨w.heap.size, 1, none⟩ = some (.slice C.ast C.stores.length C.cst) := by
    rw [hb2.cell (p := ⟨w.heap.size, 1, none⟩) (show w.heap.size < _ by (try simp) <;> (try omega))]
    exact q1_0_1
  have q2_0_2 : w2.cell? ⟨w.heap.size, 2, none⟩ = some (.slice C.aw C.wire.length C.cw) := by
    rw [hb2.cell (p := ⟨w.heap.size, 2, none⟩) (show w.heap.size < _ by (try simp) <;> (try omega))]
    exact q1_0_2
  have q2_0_3 : w2.cell? ⟨w.heap.size, 3, none⟩ = some (.slice C.ad C.done.length C.cd) := by
    rw [hb2.cell (p := ⟨w.heap.size, 3, none⟩) (show w.heap.size < _ by (try simp) <;> (try omega))]
    exact q1_0_3
  have hl2_0 : w.heap.size < w2.heap.size := by omega
  clear q1_0_0 q1_0_1 q1_0_2 q1_0_3
  have HB2 : Hid (Below w.heap.size w w2) := HB1.out.trans (hb2.mono (by (try simp) <;> (try omega)))
  clear hb2
  go_wp2_with fail
  refine (specHold_c D2.nodes D2.an D2.cn D2.stores D2.ast D2.cst D2.wire D2.aw D2.cw D2.done D2.ad D2.cd _ HD2.out hcap2 HZ2.out).mono ?_
  rw [HV2.out]
  rintro e w3 ⟨rfl, hb3⟩
  have hz3 := hb3.size
  have HD23 := Lib.hid (HD2.out.below hb3)
  clear HD2
  have q3_0_0 : w3.cell? ⟨w.heap.size, 0, none⟩ = some (.slice C.an C.nodes.length C.cn) := by
    rw [hb3.cell (p := ⟨w.heap.size, 0, none⟩) (show w.heap.size < _ by (try simp) <;> (try omega))]
    exact q2_0_0
  have q3_0_1 : w3.cell? ⟨w.heap.size, 1, none⟩ = some (.slice C.ast C.stores.length C.cst) := by
    rw [hb3.cell (p := ⟨w.heap.size, 1, none⟩) (show w.heap.size < _ by (try simp) <;> (try omega))]
    exact q2_0_1
  have q3_0_2 : w3.cell? ⟨w.heap.size, 2, none⟩ = some (.slice C.aw C.wire.length C.cw) := by
    rw [hb3.cell (p := ⟨w.heap.size, 2, none⟩) (show w.heap.size < _ by (try simp) <;> (try omega))]
    exact q2_0_2
  have q3_0_3 : w3.cell? ⟨w.heap.size, 3, none⟩ = some (.slice C.ad C.done.length C.cd) := by
    rw [hb3.cell (p := ⟨w.heap.size, 3, none⟩) (show w.heap.size < _ by (try simp) <;> (try omega))]
    exact q2_0_3
  have hl3_0 : w.heap.size < w3.heap.size := by omega
  clear q2_0_0 q2_0_1 q2_0_2 q2_0_3
  have HB3 : Hid (Below w.heap.size w w3) := HB2.out.trans (hb3.mono (by (try simp) <;> (try omega)))
  clear hb3
  clear HD23
  go_wp2_with fail
  refine (toCluster2_c C _ (hC.keep HB3.out) HZ.out).mono ?_
  rintro e w4 ⟨D4, rfl, he4, hf4, hcap4, hb4⟩
  have hz4 := hb4.size
  have HD4 := Lib.hid hf4
  have HE4 := Lib.hid he4
  have HZ4 : Hid (CluSz D4 1048576) := HZ.out.same he4
  have HV4 : Hid (hldV D4 = (p, q)) := (hldV_same he4).trans HV.out
  clear hf4 he4
  have q4_0_0 : w4.cell? ⟨w.heap.size, 0, none⟩ = some (.slice C.an C.nodes.length C.cn) := by
    rw [hb4.cell (p := ⟨w.heap.size, 0, none⟩) (show w.heap.size < _ by (try simp) <;> (try omega))]
    exact q3_0_0
  have q4_0_1 : w4.cell? ⟨w.heap.size, 1, none⟩ = some (.slice C.ast C.stores.length C.cst) := by
    rw [hb4.cell (p := ⟨w.heap.size, 1, none⟩) (show w.heap.size < _ by (try simp) <;> (try omega))]
    exact q3_0_1
  have q4_0_2 : w4.cell? ⟨w.heap.size, 2, none⟩ = some (.slice C.aw C.wire.length C.cw) := by
    rw [hb4.cell (p := ⟨w.heap.size, 2, none⟩) (show w.heap.size < _ by (try simp) <;> (try omega))]
    exact q3_0_2
  have q4_0_3 : w4.cell? ⟨w.heap.size, 3, none⟩ = some (.slice C.ad C.done.length C.cd) := by
    rw [hb4.cell (p := ⟨w.heap.size, 3, none⟩) (show w.heap.size < _ by (try simp) <;> (try omega))]
    exact q3_0_3
  have hl4_0 : w.heap.size < w4.heap.size := by omega
  clear q3_0_0 q3_0_1 q3_0_2 q3_0_3
  have HB4 : Hid (Below w.heap.size w w4) := HB3.out.trans (hb4.mono (by (try simp) <;> (try omega)))
  clear hb4
  go_wp2_with fail
  refine (implHold_c D4.nodes D4.an D4.cn D4.stores D4.ast D4.cst D4.wire D4.aw D4.cw D4.done D4.ad D4.cd _ (HD4.out.alloc _) hcap4 HZ4.out).mono ?_
  rw [HV4.out]
  rintro e w5 ⟨rfl, hb5⟩
  have hz5 := hb5.size
  simp only [World.size_alloc] at hz5
  have HD45 := Lib.hid ((HD4.out.alloc _).below hb5)
  clear HD4
  have q5_0_0 : w5.cell? ⟨w.heap.size, 0, none⟩ = some (.slice C.an C.nodes.length C.cn) := by
    rw [hb5.cell (p := ⟨w.heap.size, 0, none⟩) (show w.heap.size < _ by (try simp) <;> (try omega))]
    first | assumption | (simp [go_sem, *])
  have q5_0_1 : w5.cell? ⟨w.heap.size, 1, none⟩ = some (.slice C.ast C.stores.length C.cst) := by
    rw [hb5.cell (p := ⟨w.heap.size, 1, none⟩) (show w.heap.size < _ by (try simp) <;> (try omega))]
    first | assumption | (simp [go_sem, *])
  have q5_0_2 : w5.cell? ⟨w.heap.size, 2, none⟩ = some (.slice C.aw C.wire.length C.cw) := by
    rw [hb5.cell (p := ⟨w.heap.size, 2, none⟩) (show w.heap.size < _ by (try simp) <;> (try omega))]
    first | assumption | (simp [go_sem, *])
  have q5_0_3 : w5.cell? ⟨w.heap.size, 3, none⟩ = some (.slice C.ad C.done.length C.cd) := by
    rw [hb5.cell (p := ⟨w.heap.size, 3, none⟩) (show w.heap.size < _ by (try simp) <;> (try omega))]
    first | assumption | (simp [go_sem, *])
  have hl5_0 : w.heap.size < w5.heap.size := by omega
  clear q4_0_0 q4_0_1 q4_0_2 q4_0_3
  have q5_1_0 : w5.cell? ⟨w4.heap.size, 0, none⟩ = some (.slice D4.an D4.nodes.length D4.cn) := by
    rw [hb5.cell (p := ⟨w4.heap.size, 0, none⟩) (show w4.heap.size < _ by (try simp) <;> (try omega))]
    first | assumption | (simp [go_sem, *])
  have q5_1_1 : w5.cell? ⟨w4.heap.size, 1, none⟩ = some (.slice D4.ast D4.stores.length D4.cst) := by
    rw [hb5.cell (p := ⟨w4.heap.size, 1, none⟩) (show w4.heap.size < _ by (try simp) <;> (try omega))]
    first | assumption | (simp [go_sem, *])
  have q5_1_2 : w5.cell? ⟨w4.heap.size, 2, none⟩ = some (.slice D4.aw D4.wire.length D4.cw) := by
    rw [hb5.cell (p := ⟨w4.heap.size, 2, none⟩) (show w4.heap.size < _ by (try simp) <;> (try omega))]
    first | assumption | (simp [go_sem, *])
  have q5_1_3 : w5.cell? ⟨w4.heap.size, 3, none⟩ = some (.slice D4.ad D4.done.length D4.cd) := by
    rw [hb5.cell (p := ⟨w4.heap.size, 3, none⟩) (show w4.heap.size < _ by (try simp) <;> (try omega))]
    first | assumption | (simp [go_sem, *])
  have hl5_1 : w4.heap.size < w5.heap.size := by omega
  have HB5 : Hid (Below w.heap.size w w5) := (HB4.out.alloc (by (try simp) <;> (try omega)) _).trans (hb5.mono (by (try simp) <;> (try omega)))
  clear hb5
  go_wp2_with fail
  go_region_held3 (fun w' => w'.cell? ⟨w.heap.size, 0, none⟩ = some (.slice C.an C.nodes.length C.cn) ∧ w'.cell? ⟨w.heap.size, 1, none⟩ = some (.slice C.ast C.stores.length C.cst) ∧ w'.cell? ⟨w.heap.size, 2, none⟩ = some (.slice C.aw C.wire.length C.cw) ∧ w'.cell? ⟨w.heap.size, 3, none⟩ = some (.slice C.ad C.done.length C.cd) ∧ w'.cell? ⟨w4.heap.size, 0, none⟩ = some (.slice D4.an D4.nodes.length D4.cn) ∧ w'.cell? ⟨w4.heap.size, 1, none⟩ = some (.slice D4.ast D4.stores.length D4.cst) ∧ w'.cell? ⟨w4.heap.size, 2, none⟩ = some (.slice D4.aw D4.wire.length D4.cw) ∧ w'.cell? ⟨w4.heap.size, 3, none⟩ = some (.slice D4.ad D4.done.length D4.cd))
    (first | go_keep | (repeat' apply And.intro) <;> assumption)
    (first
    | (have tok7 := hb6
       clear tok7
       go_at_call 12
       refine (eqCluster_same D4 D6 _ (HD45.out.drew.below hb6) hf6 (he6.trans HE4.out.symm) HZ4.out).mono ?_
       rintro e w7 ⟨rfl, hb7⟩
       have hz7 := hb7.size
       try simp at hz7
       have q7_0_0 : w7.cell? ⟨w.heap.size, 0, none⟩ = some (.slice C.an C.nodes.length C.cn) := by
         rw [hb7.cell (p := ⟨w.heap.size, 0, none⟩) (show w.heap.size < _ by (try simp) <;> (try omega))]
         first | assumption | (simp [go_sem, *])
       have q7_0_1 : w7.cell? ⟨w.heap.size, 1, none⟩ = some (.slice C.ast C.stores.length C.cst) := by
         rw [hb7.cell (p := ⟨w.heap.size, 1, none⟩) (show w.heap.size < _ by (try simp) <;> (try omega))]
         first | assumption | (simp [go_sem, *])
       have q7_0_2 : w7.cell? ⟨w.heap.size, 2, none⟩ = some (.slice C.aw C.wire.length C.cw) := by
         rw [hb7.cell (p := ⟨w.heap.size, 2, none⟩) (show w.heap.size < _ by (try simp) <;> (try omega))]
         first | assumption | (simp [go_sem, *])
       have q7_0_3 : w7.cell? ⟨w.heap.size, 3, none⟩ = some (.slice C.ad C.done.length C.cd) := by
         rw [hb7.cell (p := ⟨w.heap.size, 3, none⟩) (show w.heap.size < _ by (try simp) <;> (try omega))]
         first | assumption | (simp [go_sem, *])
       have hl7_0 : w.heap.size < w7.heap.size := by omega
       have q7_1_0 : w7.cell? ⟨w4.heap.size, 0, none⟩ = some (.slice D4.an D4.nodes.length D4.cn) := by
         rw [hb7.cell (p := ⟨w4.heap.size, 0, none⟩) (show w4.heap.size < _ by (try simp) <;> (try omega))]
         first | assumption | (simp [go_sem, *])
       have q7_1_1 : w7.cell? ⟨w4.heap.size, 1, none⟩ = some (.slice D4.ast D4.stores.length D4.cst) := by
         rw [hb7.cell (p := ⟨w4.heap.size, 1, none⟩) (show w4.heap.size < _ by (try simp) <;> (try omega))]
         first | assumption | (simp [go_sem, *])
       have q7_1_2 : w7.cell? ⟨w4.heap.size, 2, none⟩ = some (.slice D4.aw D4.wire.length D4.cw) := by
         rw [hb7.cell (p := ⟨w4.heap.size, 2, none⟩) (show w4.heap.size < _ by (try simp) <;> (try omega))]
         first | assumption | (simp [go_sem, *])
       have q7_1_3 : w7.cell? ⟨w4.heap.size, 3, none⟩ = some (.slice D4.ad D4.done.length D4.cd) := by
         rw [hb7.cell (p := ⟨w4.heap.size, 3, none⟩) (show w4.heap.size < _ by (try simp) <;> (try omega))]
         first | assumption | (simp [go_sem, *])
       have hl7_1 : w4.heap.size < w7.heap.size := by omega)
    | (go_at_call 10
       refine (toCluster2_c C _ (hC.keep (HB5.out.drew)) HZ.out).mono ?_
       rintro e w6 ⟨D6, rfl, he6, hf6, _, hb6⟩
       have hz6 := hb6.size
       try simp at hz6
       have q6_0_0 : w6.cell? ⟨w.heap.size, 0, none⟩ = some (.slice C.an C.nodes.length C.cn) := by
         rw [hb6.cell (p := ⟨w.heap.size, 0, none⟩) (show w.heap.size < _ by (try simp) <;> (try omega))]
         first | assumption | (simp [go_sem, *])
       have q6_0_1 : w6.cell? ⟨w.heap.size, 1, none⟩ = some (.slice C.ast C.stores.length C.cst) := by
         rw [hb6.cell (p := ⟨w.heap.size, 1, none⟩) (show w.heap.size < _ by (try simp) <;> (try omega))]
         first | assumption | (simp [go_sem, *])
       have q6_0_2 : w6.cell? ⟨w.heap.size, 2, none⟩ = some (.slice C.aw C.wire.length C.cw) := by
         rw [hb6.cell (p := ⟨w.heap.size, 2, none⟩) (show w.heap.size < _ by (try simp) <;> (try omega))]
         first | assumption | (simp [go_sem, *])
       have q6_0_3 : w6.cell? ⟨w.heap.size, 3, none⟩ = some (.slice C.ad C.done.length C.cd) := by
         rw [hb6.cell (p := ⟨w.heap.size, 3, none⟩) (show w.heap.size < _ by (try simp) <;> (try omega))]
         first | assumption | (simp [go_sem, *])
       have hl6_0 : w.heap.size < w6.heap.size := by omega
       have q6_1_0 : w6.cell? ⟨w4.heap.size, 0, none⟩ = some (.slice D4.an D4.nodes.length D4.cn) := by
         rw [hb6.cell (p := ⟨w4.heap.size, 0, none⟩) (show w4.heap.size < _ by (try simp) <;> (try omega))]
         first | assumption | (simp [go_sem, *])
       have q6_1_1 : w6.cell? ⟨w4.heap.size, 1, none⟩ = some (.slice D4.ast D4.stores.length D4.cst) := by
         rw [hb6.cell (p := ⟨w4.heap.size, 1, none⟩) (show w4.heap.size < _ by (try simp) <;> (try omega))]
         first | assumption | (simp [go_sem, *])
       have q6_1_2 : w6.cell? ⟨w4.heap.size, 2, none⟩ = some (.slice D4.aw D4.wire.length D4.cw) := by
         rw [hb6.cell (p := ⟨w4.heap.size, 2, none⟩) (show w4.heap.size < _ by (try simp) <;> (try omega))]
         first | assumption | (simp [go_sem, *])
       have q6_1_3 : w6.cell? ⟨w4.heap.size, 3, none⟩ = some (.slice D4.ad D4.done.length D4.cd) := by
         rw [hb6.cell (p := ⟨w4.heap.size, 3, none⟩) (show w4.heap.size < _ by (try simp) <;> (try omega))]
         first | assumption | (simp [go_sem, *])
       have hl6_1 : w4.heap.size < w6.heap.size := by omega))
  have hr7 : Below w5.heap.size w5 w7 := ((((Below.refl _ _).drew).trans (hb6.mono (by (try simp) <;> (try omega)))).trans (hb7.mono (by (try simp) <;> (try omega))))
  have hzr7 := hr7.size
  have HD47 := Lib.hid (HD45.out.below hr7)
  clear HD45
  have HB7 : Hid (Below w.heap.size w w7) := HB5.out.trans (hr7.mono (by omega))
  clear q5_0_0 q5_0_1 q5_0_2 q5_0_3 q6_0_0 q6_0_1 q6_0_2 q6_0_3 q5_1_0 q5_1_1 q5_1_2 q5_1_3 q6_1_0 q6_1_1 q6_1_2 q6_1_3 hb6 hb7 hr7
  go_wp2_with fail
  go_ret
  exact ⟨rfl, HB7.out⟩
end
section
open Go.ChangeShapes Go.WideShapes Go.ChangeAt Go.RowKit
set_option maxRecDepth 100000 in
theorem fnExactStoresHold_lifted (os : Os) (started : os.Started) (H : Type) (enc : TypeId × Value → H) :
    ReturnsInHanded {} Try.checked os 5 .any (Rows.fnExactStoresHoldSpec.pre6 enc Try.prog Try.f5 Rows.fnExactStoresHoldRow.domain false) (Rows.fnExactStoresHoldSpec.post enc Try.prog Try.f5 false true false false) := by
  refine returnsInHanded_of_change (C := Try.checked) Try.own started (by kernel_rfl) Try.func5
    (ChangeSpec.witness6 (enc := enc) (C := Try.checked) false ⟨#[], #[.agg #[.slice none 0 0, .slice none 0 0, .slice none 0 0, .slice none 0 0]], []⟩ 8 (by kernel_rfl) (by kernel_rfl) (by kernel_rfl) (by kernel_rfl)) ?_
  intro W base args ds gs before hval hW hcnd _
  have hW' := hW
  obtain ⟨p, q, hA, hV, rfl, hfz, hnd⟩ := hW
  obtain ⟨v0, d0, rfl, rfl, h0⟩ := trodAll_one hA
  obtain ⟨rfl, rfl⟩ := trodVars_none hV
  obtain ⟨C, rfl, l1, l2⟩ := openCluster (hval 0 27 v0 rfl rfl) h0
  exact law_calls rfl rfl (by kernel_rfl) hW' rfl (lawHold_c C W l1 l2)
theorem fnExactStoresHold_holds : Rows.FnExactStoresHoldSaid :=
  OpenClaim.holds_of_wide 5 Try.f5 rfl rfl rfl rfl rfl rfl rfl ⟨rfl, rfl, rfl, rfl, rfl⟩ rfl rfl rfl rfl rfl (by kernel_rfl) Try.func5 (by kernel_rfl)
    (of_decide_eq_true (by kernel_rfl)) (by unfold Func.isWrapper; first | (rw [if_pos (by decide +kernel)]; kernel_rfl) | (rw [if_neg (by decide +kernel)]; exact ⟨rfl, rfl⟩))
    (fun os started H enc _ => fnExactStoresHold_lifted os started H enc)
end
end Go.Proofs.Ytckaccadgbcohaa
