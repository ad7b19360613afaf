/- impl.LongestDone returns what spec.LongestDone returns: the law FnExactLongestDone returns true for every cluster, and its argument reads afterwards as it read before. No conditions. -/
import Derived.Test.YtckaccadgbcohaaCluZ
import Derived.Test.YtckaccadgbcohaaCluY
import Derived.Test.YtckaccadgbcohaaApplied
import Derived.Deep.RegionHeld3
import Derived.Test.YtckaccadgbcohaaFrmC
namespace Go.Proofs.Ytckaccadgbcohaa
set_option linter.unusedVariables false
set_option linter.unusedSimpArgs false
section
open Go.RowKit
noncomputable def lgL (C : CluA) : List ByteArray := if cluOK C then nonE C.done else []
noncomputable def lgC (C : CluA) : Int := if cluOK C then 0 else 1
theorem lg_same {C D : CluA} (h : CluSame C D) : lgL C = lgL D ∧ lgC C = lgC D := by
  unfold lgL lgC
  rw [cluOK_same h, h.done]
  exact ⟨rfl, rfl⟩
theorem lgL_length (C : CluA) (h : C.done.length ≤ 1048576) : (lgL C).length ≤ 1048576 := by
  unfold lgL
  split
  · exact Nat.le_trans (nonE_le _) h
  · simp
def LgR (L : List ByteArray) (c : Int) (w : World) (e : Ending) (w' : World) : Prop :=
  ∃ a ca, e = .returned (.tuple #[.slice a L.length ca, .int .i64 c]) ∧ Fresh strE 9 1 w.heap.size (.slice a L.length ca) L w' ∧ Below w.heap.size w w'
theorem nodeNum_up (c : Nat) (rs : List NodeA) (h : ∀ r ∈ rs, nodeCnt r ≤ c) (K : Nat) : nodeNum K rs ≤ K + rs.length * c := by
  induction rs generalizing K with
  | nil => simp [nodeNum]
  | cons r rs ih =>
    have h1 := h r (List.mem_cons_self ..)
    have h2 := ih (fun x hx => h x (List.mem_cons_of_mem _ hx)) (K + nodeCnt r)
    simp only [nodeNum, List.length_cons, Nat.add_mul]
    omega
theorem storeNum_up (c : Nat) (rs : List Sto) (h : ∀ r ∈ rs, storeCnt r ≤ c) (K : Nat) : storeNum K rs ≤ K + rs.length * c := by
  induction rs generalizing K with
  | nil => simp [storeNum]
  | cons r rs ih =>
    have h1 := h r (List.mem_cons_self ..)
    have h2 := ih (fun x hx => h x (List.mem_cons_of_mem _ hx)) (K + storeCnt r)
    simp only [storeNum, List.length_cons, Nat.add_mul]
    omega
theorem messageNum_up (c : Nat) (rs : List MsgA) (h : ∀ r ∈ rs, messageCnt r ≤ c) (K : Nat) : messageNum K rs ≤ K + rs.length * c := by
  induction rs generalizing K with
  | nil => simp [messageNum]
  | cons r rs ih =>
    have h1 := h r (List.mem_cons_self ..)
    have h2 := ih (fun x hx => h x (List.mem_cons_of_mem _ hx)) (K + messageCnt r)
    simp only [messageNum, List.length_cons, Nat.add_mul]
    omega
theorem cluNum_le (D : CluA) (h : CluSz D 1048576) : cluNum D 1 ≤ 17592186044416 := by
  have h1 := nodeNum_up 5242889 D.nodes (fun r hr => by
    have z := h.nodes r hr
    have z1 := z.log; have z2 := z.votes; have z3 := z.next; have z4 := z.mtch
    unfold nodeCnt; omega) 1
  have h2 := storeNum_up 2 D.stores (fun r _ => by unfold storeCnt; omega) (cluK1 D 1)
  have h3 := messageNum_up 2097160 D.wire (fun r hr => by
    have z := (h.wire r hr).ents
    unfold messageCnt; omega) (cluK2 D 1)
  have l1 := Nat.mul_le_mul_right 5242889 h.nl
  have l2 := h.sl
  have l3 := Nat.mul_le_mul_right 2097160 h.wl
  have l4 := h.dl
  have e1 : nodeNum 1 D.nodes = cluK1 D 1 := rfl
  have e2 : storeNum (cluK1 D 1) D.stores = cluK2 D 1 := rfl
  have e3 : messageNum (cluK2 D 1) D.wire = cluK3 D 1 := rfl
  rw [e1] at h1
  rw [e2] at h2
  rw [e3] at h3
  unfold cluNum
  omega
set_option maxRecDepth 100000 in
set_option maxHeartbeats 8000000 in
theorem implLongest_c (ns : List NodeA) (an : Option Addr) (cn : Nat) (ss : List Sto) (ast : Option Addr) (cst : Nat) (ws : List MsgA) (aw : Option Addr) (cw : Nat) (ds : List ByteArray) (ad : Option Addr) (cd : Nat) (w : World) (hC : CluOK w (⟨ns, an, cn, ss, ast, cst, ws, aw, cw, ds, ad, cd⟩ : CluA)) (hcd : ds.length ≤ cd) (hZ : CluSz (⟨ns, an, cn, ss, ast, cst, ws, aw, cw, ds, ad, cd⟩ : CluA) 1048576) :
    Calls Try.prog 18 #[.agg #[.slice an ns.length cn, .slice ast ss.length cst, .slice aw ws.length cw, .slice ad ds.length cd]] w (LgR (lgL (⟨ns, an, cn, ss, ast, cst, ws, aw, cw, ds, ad, cd⟩ : CluA)) (lgC (⟨ns, an, cn, ss, ast, cst, ws, aw, cw, ds, ad, cd⟩ : CluA)) w) := by
  have hd1 : Sl strE 1 w ad ds := hC.done
  have HC1 := Lib.hid (hC.alloc (.cells #[.slice an ns.length cn, .slice ast ss.length cst, .slice aw ws.length cw, .slice ad ds.length cd] 34))
  have HZ := Lib.hid hZ
  have zd : ds.length ≤ 1048576 := hZ.dl
  clear hZ hC hcd
  unfold lgL lgC
  obtain ⟨v, hv⟩ : ∃ v, cluOK (⟨ns, an, cn, ss, ast, cst, ws, aw, cw, ds, ad, cd⟩ : CluA) = v := ⟨_, rfl⟩
  have HV := Lib.hid hv
  rw [hv]
  clear hv
  cases v
  case false =>
    simp only [Bool.false_eq_true, if_false]
    unfold LgR
    go_enter Try.func18, Try.ntmps18
    go_wp2_with fail
    refine (isCluster_c ns an cn ss ast cst ws aw cw ds ad cd _ HC1.out HZ.out).mono ?_
    rw [HV.out]
    rintro e w1 ⟨rfl, hb1⟩
    have hz1 := hb1.size
    simp only [World.size_alloc] at hz1
    have HB1 : Hid (Below w.heap.size w w1) := ((Below.refl _ _).alloc (Nat.le_refl _) _).trans (hb1.mono (by simp))
    clear hb1
    go_wp2_with fail
    go_ret2
    exact ⟨none, 0, rfl, (FreshIn.nil _ _ _ _ 0 _).1, HB1.out⟩
  case true =>
    simp only [if_true]
    obtain ⟨L, hL⟩ : ∃ L, nonE ds = L := ⟨_, rfl⟩
    have HL := Lib.hid hL
    show Calls Try.prog 18 #[.agg #[.slice an ns.length cn, .slice ast ss.length cst, .slice aw ws.length cw, .slice ad ds.length cd]] w (LgR (nonE ds) 0 w)
    rw [hL]
    unfold LgR
    clear hL
    go_enter Try.func18, Try.ntmps18
    go_wp2_with fail
    refine (isCluster_c ns an cn ss ast cst ws aw cw ds ad cd _ HC1.out HZ.out).mono ?_
    rw [HV.out]
    rintro e w1 ⟨rfl, hb1⟩
    have hz1 := hb1.size
    simp only [World.size_alloc] at hz1
    have hd2 := (hd1.alloc (.cells #[.slice an ns.length cn, .slice ast ss.length cst, .slice aw ws.length cw, .slice ad ds.length cd] 34)).keep hb1
    have k_3 : w1.cell? ⟨w.heap.size, 3, none⟩ = some (.slice ad ds.length cd) := (hb1.cell (p := ⟨w.heap.size, 3, none⟩) (by show w.heap.size < _; simp)).trans (by simp [go_sem])
    have HB1 : Hid (Below w.heap.size w w1) := ((Below.refl _ _).alloc (Nat.le_refl _) _).trans (hb1.mono (by simp))
    clear hb1
    go_wp2_with fail
    refine (filled_c ad cd ds _ hd2 zd).mono ?_
    rw [HL.out]
    rintro e w2 ⟨v2, rfl, hf2, hb2⟩
    obtain ⟨a2, c2, rfl, hc2, ho2⟩ := hf2
    have HF := Lib.hid (show Fresh strE 9 1 w1.heap.size (.slice a2 L.length c2) L w2 from ⟨_, _, rfl, hc2, ho2⟩)
    have HB2 : Hid (Below w.heap.size w w2) := HB1.out.trans (hb2.mono (by omega))
    clear hb2 ho2 hc2
    go_wp2_with fail
    go_ret2
    exact ⟨_, _, rfl, HF.out.mono (by omega), HB2.out⟩
set_option maxRecDepth 100000 in
set_option maxHeartbeats 8000000 in
theorem specLongest_c (ns : List NodeA) (an : Option Addr) (cn : Nat) (ss : List Sto) (ast : Option Addr) (cst : Nat) (ws : List MsgA) (aw : Option Addr) (cw : Nat) (ds : List ByteArray) (ad : Option Addr) (cd : Nat) (w : World) (hC : CluOK w (⟨ns, an, cn, ss, ast, cst, ws, aw, cw, ds, ad, cd⟩ : CluA)) (hcd : ds.length ≤ cd) (hZ : CluSz (⟨ns, an, cn, ss, ast, cst, ws, aw, cw, ds, ad, cd⟩ : CluA) 1048576) :
    Calls Try.prog 17 #[.agg #[.slice an ns.length cn, .slice ast ss.length cst, .slice aw ws.length cw, .slice ad ds.length cd]] w (LgR (lgL (⟨ns, an, cn, ss, ast, cst, ws, aw, cw, ds, ad, cd⟩ : CluA)) (lgC (⟨ns, an, cn, ss, ast, cst, ws, aw, cw, ds, ad, cd⟩ : CluA)) w) := by
  have hd1 : Sl strE 1 w ad ds := hC.done
  have HC1 := Lib.hid (hC.alloc (.cells #[.slice an ns.length cn, .slice ast ss.length cst, .slice aw ws.length cw, .slice ad ds.length cd] 34))
  have HZ := Lib.hid hZ
  have zd : ds.length ≤ 1048576 := hZ.dl
  clear hZ hC hcd
  unfold lgL lgC
  obtain ⟨v, hv⟩ : ∃ v, cluOK (⟨ns, an, cn, ss, ast, cst, ws, aw, cw, ds, ad, cd⟩ : CluA) = v := ⟨_, rfl⟩
  have HV := Lib.hid hv
  rw [hv]
  clear hv
  cases v
  case false =>
    simp only [Bool.false_eq_true, if_false]
    unfold LgR
    go_enter Try.func17, Try.ntmps17
    go_wp2_with fail
    refine (specCluster_c ns an cn ss ast cst ws aw cw ds ad cd _ HC1.out HZ.out).mono ?_
    rw [HV.out]
    rintro e w1 ⟨rfl, hb1⟩
    have hz1 := hb1.size
    simp only [World.size_alloc] at hz1
    have HB1 : Hid (Below w.heap.size w w1) := ((Below.refl _ _).alloc (Nat.le_refl _) _).trans (hb1.mono (by simp))
    clear hb1
    go_wp2_with fail
    go_ret2
    exact ⟨_, _, rfl, Fresh.of_own (World.ownsRow_made _ #[] 0 (by omega) (by decide) rfl) rfl rfl, HB1.out.alloc (by omega) _⟩
  case true =>
    simp only [if_true]
    obtain ⟨L, hL⟩ : ∃ L, nonE ds = L := ⟨_, rfl⟩
    have HL := Lib.hid hL
    show Calls Try.prog 17 #[.agg #[.slice an ns.length cn, .slice ast ss.length cst, .slice aw ws.length cw, .slice ad ds.length cd]] w (LgR (nonE ds) 0 w)
    rw [hL]
    unfold LgR
    clear hL
    go_enter Try.func17, Try.ntmps17
    go_wp2_with fail
    refine (specCluster_c ns an cn ss ast cst ws aw cw ds ad cd _ HC1.out HZ.out).mono ?_
    rw [HV.out]
    rintro e w1 ⟨rfl, hb1⟩
    have hz1 := hb1.size
    simp only [World.size_alloc] at hz1
    have hd2 := (hd1.alloc (.cells #[.slice an ns.length cn, .slice ast ss.length cst, .slice aw ws.length cw, .slice ad ds.length cd] 34)).keep hb1
    have k_3 : w1.cell? ⟨w.heap.size, 3, none⟩ = some (.slice ad ds.length cd) := (hb1.cell (p := ⟨w.heap.size, 3, none⟩) (by show w.heap.size < _; simp)).trans (by simp [go_sem])
    have HB1 : Hid (Below w.heap.size w w1) := ((Below.refl _ _).alloc (Nat.le_refl _) _).trans (hb1.mono (by simp))
    clear hb1
    go_wp2_with fail
    refine (l09Data_c ad cd ds _ hd2 zd).mono ?_
    rw [HL.out]
    rintro e w2 ⟨v2, rfl, hf2, hb2⟩
    obtain ⟨a2, c2, rfl, hc2, ho2⟩ := hf2
    have HF := Lib.hid (show Fresh strE 9 1 w1.heap.size (.slice a2 L.length c2) L w2 from ⟨_, _, rfl, hc2, ho2⟩)
    have HB2 : Hid (Below w.heap.size w w2) := HB1.out.trans (hb2.mono (by omega))
    clear hb2 ho2 hc2
    go_wp2_with fail
    go_ret2
    exact ⟨_, _, rfl, HF.out.mono (by omega), HB2.out⟩
end
section
open Go.RowKit
set_option maxRecDepth 100000 in
set_option maxHeartbeats 16000000 in
theorem lawLong_c (C : CluA) (w : World) (hC : CluOK w C) (hZ : CluSz C 9223372036854775807) :
    Calls Try.prog 6 #[.agg #[.slice C.an C.nodes.length C.cn, .slice C.ast C.stores.length C.cst, .slice C.aw C.wire.length C.cw, .slice C.ad C.done.length C.cd]] w fun e w' => e = .returned (.bool true) ∧ Below w.heap.size w w' := by
  have HZ0 := Lib.hid hZ
  clear hZ
  go_enter Try.func6, Try.ntmps6
  go_wp2_with fail
  refine (szCluster_c C _ _ (hC.alloc _) HZ0.out (by omega) (by omega)).mono ?_
  rintro e w1 ⟨⟨n, rfl, hn, himp⟩, hb1⟩
  have hz1 := hb1.size
  simp only [World.size_alloc] at hz1
  have HI := Lib.hid himp
  clear himp
  have q1_0_0 : w1.cell? ⟨w.heap.size, 0, none⟩ = some (.slice C.an C.nodes.length C.cn) := by
    rw [hb1.cell (p := ⟨w.heap.size, 0, none⟩) (show w.heap.size < _ by (try simp) <;> (try omega))]
    first | assumption | (simp [go_sem, *])
  have q1_0_1 : w1.cell? ⟨w.heap.size, 1, none⟩ = some (.slice C.ast C.stores.length C.cst) := by
    rw [hb1.cell (p := ⟨w.heap.size, 1, none⟩) (show w.heap.size < _ by (try simp) <;> (try omega))]
    first | assumption | (simp [go_sem, *])
  have q1_0_2 : w1.cell? ⟨w.heap.size, 2, none⟩ = some (.slice C.aw C.wire.length C.cw) := by
    rw [hb1.cell (p := ⟨w.heap.size, 2, none⟩) (show w.heap.size < _ by (try simp) <;> (try omega))]
    first | assumption | (simp [go_sem, *])
  have q1_0_3 : w1.cell? ⟨w.heap.size, 3, none⟩ = some (.slice C.ad C.done.length C.cd) := by
    rw [hb1.cell (p := ⟨w.heap.size, 3, none⟩) (show w.heap.size < _ by (try simp) <;> (try omega))]
    first | assumption | (simp [go_sem, *])
  have hl1_0 : w.heap.size < w1.heap.size := by omega
  have HB1 : Hid (Below w.heap.size w w1) := ((Below.refl w.heap.size w).alloc (by (try simp) <;> (try omega)) _).trans (hb1.mono (by (try simp) <;> (try omega)))
  clear hb1
  by_cases hneg : n < 0
  · go_wp2_with fail
    go_ret
    exact ⟨rfl, HB1.out⟩
  have HZ := Lib.hid (HI.out (by omega))
  have hcl := lgL_length C HZ.out.dl
  obtain ⟨R, c, hV⟩ : ∃ R c, lgL C = R ∧ lgC C = c := ⟨_, _, rfl, rfl⟩
  have HV := Lib.hid hV
  rw [hV.1] at hcl
  clear HI hV
  go_wp2_with fail
  refine (toCluster3_c C _ (hC.keep HB1.out) HZ.out).mono ?_
  rintro e w2 ⟨D2, rfl, he2, hf2, hb2⟩
  have hz2 := hb2.size
  have HD2 := Lib.hid (show CluM (w1.heap.size) w2.heap.size w2 D2 from (by simpa using hf2))
  have HE2 := Lib.hid he2
  have HZ2 : Hid (CluSz D2 1048576) := HZ.out.same he2
  have HV2 : Hid (lgL D2 = R ∧ lgC D2 = c) := ⟨(lg_same he2).1.trans HV.out.1, (lg_same he2).2.trans HV.out.2⟩
  clear hf2 he2
  have q2_0_0 : w2.cell? ⟨w.heap.size, 0, none⟩ = some (.slice C.an C.nodes.length C.cn) := by
    rw [hb2.cell (p := ⟨w.heap.size, 0, none⟩) (show w.heap.size < _ by (try simp) <;> (try omega))]
    exact q1_0_0
  have q2_0_1 : w2.cell? ⟨w.heap.size, 1, none⟩ = some (.slice C.ast C.stores.length C.cst) := by
    rw [hb2.cell (p := ⟨w.heap.size, 1, none⟩) (show w.heap.size < _ by (try simp) <;> (try omega))]
    exact q1_0_1
  have q2_0_2 : w2.cell? ⟨w.heap.size, 2, none⟩ = some (.slice C.aw C.wire.length C.cw) := by
    rw [hb2.cell (p := ⟨w.heap.size, 2, none⟩) (show w.heap.size < _ by (try simp) <;> (try omega))]
    exact q1_0_2
  have q2_0_3 : w2.cell? ⟨w.heap.size, 3, none⟩ = some (.slice C.ad C.done.length C.cd) := by
    rw [hb2.cell (p := ⟨w.heap.size, 3, none⟩) (show w.heap.size < _ by (try simp) <;> (try omega))]
    exact q1_0_3
  have hl2_0 : w.heap.size < w2.heap.size := by omega
  clear q1_0_0 q1_0_1 q1_0_2 q1_0_3
  have HB2 : Hid (Below w.heap.size w w2) := HB1.out.trans (hb2.mono (by (try simp) <;> (try omega)))
  clear hb2
  go_wp2_with fail
  refine (specLongest_c D2.nodes D2.an D2.cn D2.stores D2.ast D2.cst D2.wire D2.aw D2.cw D2.done D2.ad D2.cd _ HD2.out.ok HD2.out.dcap HZ2.out).mono ?_
  unfold LgR
  rw [HV2.out.1, HV2.out.2]
  rintro e w3 ⟨a3, c3, rfl, hf3, hb3⟩
  have hz3 := hb3.size
  have HG33 := Lib.hid (show FreshIn strE 9 1 (w2.heap.size) w3.heap.size (.slice a3 R.length c3) R w3 from (by simpa using hf3.here))
  clear hf3
  have HD23 := Lib.hid (HD2.out.below hb3)
  clear HD2
  have q3_0_0 : w3.cell? ⟨w.heap.size, 0, none⟩ = some (.slice C.an C.nodes.length C.cn) := by
    rw [hb3.cell (p := ⟨w.heap.size, 0, none⟩) (show w.heap.size < _ by (try simp) <;> (try omega))]
    exact q2_0_0
  have q3_0_1 : w3.cell? ⟨w.heap.size, 1, none⟩ = some (.slice C.ast C.stores.length C.cst) := by
    rw [hb3.cell (p := ⟨w.heap.size, 1, none⟩) (show w.heap.size < _ by (try simp) <;> (try omega))]
    exact q2_0_1
  have q3_0_2 : w3.cell? ⟨w.heap.size, 2, none⟩ = some (.slice C.aw C.wire.length C.cw) := by
    rw [hb3.cell (p := ⟨w.heap.size, 2, none⟩) (show w.heap.size < _ by (try simp) <;> (try omega))]
    exact q2_0_2
  have q3_0_3 : w3.cell? ⟨w.heap.size, 3, none⟩ = some (.slice C.ad C.done.length C.cd) := by
    rw [hb3.cell (p := ⟨w.heap.size, 3, none⟩) (show w.heap.size < _ by (try simp) <;> (try omega))]
    exact q2_0_3
  have hl3_0 : w.heap.size < w3.heap.size := by omega
  clear q2_0_0 q2_0_1 q2_0_2 q2_0_3
  have HB3 : Hid (Below w.heap.size w w3) := HB2.out.trans (hb3.mono (by (try simp) <;> (try omega)))
  clear hb3
  clear HD23
  go_wp2_with fail
  refine (toCluster3_c C _ (hC.keep HB3.out) HZ.out).mono ?_
  rintro e w4 ⟨D4, rfl, he4, hf4, hb4⟩
  have hz4 := hb4.size
  have HD4 := Lib.hid (show CluM (w3.heap.size) w4.heap.size w4 D4 from (by simpa using hf4))
  have HE4 := Lib.hid he4
  have HZ4 : Hid (CluSz D4 1048576) := HZ.out.same he4
  have HV4 : Hid (lgL D4 = R ∧ lgC D4 = c) := ⟨(lg_same he4).1.trans HV.out.1, (lg_same he4).2.trans HV.out.2⟩
  clear hf4 he4
  have HG34 := Lib.hid (HG33.out.below hb4)
  clear HG33
  have q4_0_0 : w4.cell? ⟨w.heap.size, 0, none⟩ = some (.slice C.an C.nodes.length C.cn) := by
    rw [hb4.cell (p := ⟨w.heap.size, 0, none⟩) (show w.heap.size < _ by (try simp) <;> (try omega))]
    exact q3_0_0
  have q4_0_1 : w4.cell? ⟨w.heap.size, 1, none⟩ = some (.slice C.ast C.stores.length C.cst) := by
    rw [hb4.cell (p := ⟨w.heap.size, 1, none⟩) (show w.heap.size < _ by (try simp) <;> (try omega))]
    exact q3_0_1
  have q4_0_2 : w4.cell? ⟨w.heap.size, 2, none⟩ = some (.slice C.aw C.wire.length C.cw) := by
    rw [hb4.cell (p := ⟨w.heap.size, 2, none⟩) (show w.heap.size < _ by (try simp) <;> (try omega))]
    exact q3_0_2
  have q4_0_3 : w4.cell? ⟨w.heap.size, 3, none⟩ = some (.slice C.ad C.done.length C.cd) := by
    rw [hb4.cell (p := ⟨w.heap.size, 3, none⟩) (show w.heap.size < _ by (try simp) <;> (try omega))]
    exact q3_0_3
  have hl4_0 : w.heap.size < w4.heap.size := by omega
  clear q3_0_0 q3_0_1 q3_0_2 q3_0_3
  have HB4 : Hid (Below w.heap.size w w4) := HB3.out.trans (hb4.mono (by (try simp) <;> (try omega)))
  clear hb4
  go_wp2_with fail
  refine (implLongest_c D4.nodes D4.an D4.cn D4.stores D4.ast D4.cst D4.wire D4.aw D4.cw D4.done D4.ad D4.cd _ (HD4.out.alloc _).ok HD4.out.dcap HZ4.out).mono ?_
  unfold LgR
  rw [HV4.out.1, HV4.out.2]
  rintro e w5 ⟨a5, c5, rfl, hf5, hb5⟩
  have hz5 := hb5.size
  simp only [World.size_alloc] at hz5
  have HG55 := Lib.hid (show FreshIn strE 9 1 (w4.heap.size + 1) w5.heap.size (.slice a5 R.length c5) R w5 from (by simpa using hf5.here))
  clear hf5
  have HG35 := Lib.hid ((HG34.out.alloc _).below hb5)
  clear HG34
  have HD45 := Lib.hid ((HD4.out.alloc _).below hb5)
  clear HD4
  have q5_0_0 : w5.cell? ⟨w.heap.size, 0, none⟩ = some (.slice C.an C.nodes.length C.cn) := by
    rw [hb5.cell (p := ⟨w.heap.size, 0, none⟩) (show w.heap.size < _ by (try simp) <;> (try omega))]
    first | assumption | (simp [go_sem, *])
  have q5_0_1 : w5.cell? ⟨w.heap.size, 1, none⟩ = some (.slice C.ast C.stores.length C.cst) := by
    rw [hb5.cell (p := ⟨w.heap.size, 1, none⟩) (show w.heap.size < _ by (try simp) <;> (try omega))]
    first | assumption | (simp [go_sem, *])
  have q5_0_2 : w5.cell? ⟨w.heap.size, 2, none⟩ = some (.slice C.aw C.wire.length C.cw) := by
    rw [hb5.cell (p := ⟨w.heap.size, 2, none⟩) (show w.heap.size < _ by (try simp) <;> (try omega))]
    first | assumption | (simp [go_sem, *])
  have q5_0_3 : w5.cell? ⟨w.heap.size, 3, none⟩ = some (.slice C.ad C.done.length C.cd) := by
    rw [hb5.cell (p := ⟨w.heap.size, 3, none⟩) (show w.heap.size < _ by (try simp) <;> (try omega))]
    first | assumption | (simp [go_sem, *])
  have hl5_0 : w.heap.size < w5.heap.size := by omega
  clear q4_0_0 q4_0_1 q4_0_2 q4_0_3
  have q5_1_0 : w5.cell? ⟨w4.heap.size, 0, none⟩ = some (.slice D4.an D4.nodes.length D4.cn) := by
    rw [hb5.cell (p := ⟨w4.heap.size, 0, none⟩) (show w4.heap.size < _ by (try simp) <;> (try omega))]
    first | assumption | (simp [go_sem, *])
  have q5_1_1 : w5.cell? ⟨w4.heap.size, 1, none⟩ = some (.slice D4.ast D4.stores.length D4.cst) := by
    rw [hb5.cell (p := ⟨w4.heap.size, 1, none⟩) (show w4.heap.size < _ by (try simp) <;> (try omega))]
    first | assumption | (simp [go_sem, *])
  have q5_1_2 : w5.cell? ⟨w4.heap.size, 2, none⟩ = some (.slice D4.aw D4.wire.length D4.cw) := by
    rw [hb5.cell (p := ⟨w4.heap.size, 2, none⟩) (show w4.heap.size < _ by (try simp) <;> (try omega))]
    first | assumption | (simp [go_sem, *])
  have q5_1_3 : w5.cell? ⟨w4.heap.size, 3, none⟩ = some (.slice D4.ad D4.done.length D4.cd) := by
    rw [hb5.cell (p := ⟨w4.heap.size, 3, none⟩) (show w4.heap.size < _ by (try simp) <;> (try omega))]
    first | assumption | (simp [go_sem, *])
  have hl5_1 : w4.heap.size < w5.heap.size := by omega
  have HB5 : Hid (Below w.heap.size w w5) := (HB4.out.alloc (by (try simp) <;> (try omega)) _).trans (hb5.mono (by (try simp) <;> (try omega)))
  clear hb5
  go_wp2_with fail
  refine (eqStringS_c a5 a3 c5 c3 R R _ (HG55.out.sl fun _ => rfl) (HG35.out.sl fun _ => rfl) hcl hcl).mono ?_
  simp only [decide_true]
  rintro e w6 ⟨rfl, hb6⟩
  have hz6 := hb6.size
  have HG36 := Lib.hid (HG35.out.below hb6)
  clear HG35
  have HD46 := Lib.hid (HD45.out.below hb6)
  clear HD45
  have HG56 := Lib.hid (HG55.out.below hb6)
  clear HG55
  have q6_0_0 : w6.cell? ⟨w.heap.size, 0, none⟩ = some (.slice C.an C.nodes.length C.cn) := by
    rw [hb6.cell (p := ⟨w.heap.size, 0, none⟩) (show w.heap.size < _ by (try simp) <;> (try omega))]
    exact q5_0_0
  have q6_0_1 : w6.cell? ⟨w.heap.size, 1, none⟩ = some (.slice C.ast C.stores.length C.cst) := by
    rw [hb6.cell (p := ⟨w.heap.size, 1, none⟩) (show w.heap.size < _ by (try simp) <;> (try omega))]
    exact q5_0_1
  have q6_0_2 : w6.cell? ⟨w.heap.size, 2, none⟩ = some (.slice C.aw C.wire.length C.cw) := by
    rw [hb6.cell (p := ⟨w.heap.size, 2, none⟩) (show w.heap.size < _ by (try simp) <;> (try omega))]
    exact q5_0_2
  have q6_0_3 : w6.cell? ⟨w.heap.size, 3, none⟩ = some (.slice C.ad C.done.length C.cd) := by
    rw [hb6.cell (p := ⟨w.heap.size, 3, none⟩) (show w.heap.size < _ by (try simp) <;> (try omega))]
    exact q5_0_3
  have hl6_0 : w.heap.size < w6.heap.size := by omega
  clear q5_0_0 q5_0_1 q5_0_2 q5_0_3
  have q6_1_0 : w6.cell? ⟨w4.heap.size, 0, none⟩ = some (.slice D4.an D4.nodes.length D4.cn) := by
    rw [hb6.cell (p := ⟨w4.heap.size, 0, none⟩) (show w4.heap.size < _ by (try simp) <;> (try omega))]
    exact q5_1_0
  have q6_1_1 : w6.cell? ⟨w4.heap.size, 1, none⟩ = some (.slice D4.ast D4.stores.length D4.cst) := by
    rw [hb6.cell (p := ⟨w4.heap.size, 1, none⟩) (show w4.heap.size < _ by (try simp) <;> (try omega))]
    exact q5_1_1
  have q6_1_2 : w6.cell? ⟨w4.heap.size, 2, none⟩ = some (.slice D4.aw D4.wire.length D4.cw) := by
    rw [hb6.cell (p := ⟨w4.heap.size, 2, none⟩) (show w4.heap.size < _ by (try simp) <;> (try omega))]
    exact q5_1_2
  have q6_1_3 : w6.cell? ⟨w4.heap.size, 3, none⟩ = some (.slice D4.ad D4.done.length D4.cd) := by
    rw [hb6.cell (p := ⟨w4.heap.size, 3, none⟩) (show w4.heap.size < _ by (try simp) <;> (try omega))]
    exact q5_1_3
  have hl6_1 : w4.heap.size < w6.heap.size := by omega
  clear q5_1_0 q5_1_1 q5_1_2 q5_1_3
  have HB6 : Hid (Below w.heap.size w w6) := HB5.out.trans (hb6.mono (by (try simp) <;> (try omega)))
  clear hb6
  go_wp2_with fail
  go_region_held3 (fun w' => w'.cell? ⟨w.heap.size, 0, none⟩ = some (.slice C.an C.nodes.length C.cn) ∧ w'.cell? ⟨w.heap.size, 1, none⟩ = some (.slice C.ast C.stores.length C.cst) ∧ w'.cell? ⟨w.heap.size, 2, none⟩ = some (.slice C.aw C.wire.length C.cw) ∧ w'.cell? ⟨w.heap.size, 3, none⟩ = some (.slice C.ad C.done.length C.cd) ∧ w'.cell? ⟨w4.heap.size, 0, none⟩ = some (.slice D4.an D4.nodes.length D4.cn) ∧ w'.cell? ⟨w4.heap.size, 1, none⟩ = some (.slice D4.ast D4.stores.length D4.cst) ∧ w'.cell? ⟨w4.heap.size, 2, none⟩ = some (.slice D4.aw D4.wire.length D4.cw) ∧ w'.cell? ⟨w4.heap.size, 3, none⟩ = some (.slice D4.ad D4.done.length D4.cd))
    (first | go_keep | (repeat' apply And.intro) <;> assumption)
    (first
    | (have tok8 := hb7
       clear tok8
       go_at_call 12
       refine (eqCluster_same D4 D7 _ (HD46.out.drew.below hb7).ok hf7.ok (he7.trans HE4.out.symm) HZ4.out).mono ?_
       rintro e w8 ⟨rfl, hb8⟩
       have hz8 := hb8.size
       try simp at hz8
       have q8_0_0 : w8.cell? ⟨w.heap.size, 0, none⟩ = some (.slice C.an C.nodes.length C.cn) := by
         rw [hb8.cell (p := ⟨w.heap.size, 0, none⟩) (show w.heap.size < _ by (try simp) <;> (try omega))]
         first | assumption | (simp [go_sem, *])
       have q8_0_1 : w8.cell? ⟨w.heap.size, 1, none⟩ = some (.slice C.ast C.stores.length C.cst) := by
         rw [hb8.cell (p := ⟨w.heap.size, 1, none⟩) (show w.heap.size < _ by (try simp) <;> (try omega))]
         first | assumption | (simp [go_sem, *])
       have q8_0_2 : w8.cell? ⟨w.heap.size, 2, none⟩ = some (.slice C.aw C.wire.length C.cw) := by
         rw [hb8.cell (p := ⟨w.heap.size, 2, none⟩) (show w.heap.size < _ by (try simp) <;> (try omega))]
         first | assumption | (simp [go_sem, *])
       have q8_0_3 : w8.cell? ⟨w.heap.size, 3, none⟩ = some (.slice C.ad C.done.length C.cd) := by
         rw [hb8.cell (p := ⟨w.heap.size, 3, none⟩) (show w.heap.size < _ by (try simp) <;> (try omega))]
         first | assumption | (simp [go_sem, *])
       have hl8_0 : w.heap.size < w8.heap.size := by omega
       have q8_1_0 : w8.cell? ⟨w4.heap.size, 0, none⟩ = some (.slice D4.an D4.nodes.length D4.cn) := by
         rw [hb8.cell (p := ⟨w4.heap.size, 0, none⟩) (show w4.heap.size < _ by (try simp) <;> (try omega))]
         first | assumption | (simp [go_sem, *])
       have q8_1_1 : w8.cell? ⟨w4.heap.size, 1, none⟩ = some (.slice D4.ast D4.stores.length D4.cst) := by
         rw [hb8.cell (p := ⟨w4.heap.size, 1, none⟩) (show w4.heap.size < _ by (try simp) <;> (try omega))]
         first | assumption | (simp [go_sem, *])
       have q8_1_2 : w8.cell? ⟨w4.heap.size, 2, none⟩ = some (.slice D4.aw D4.wire.length D4.cw) := by
         rw [hb8.cell (p := ⟨w4.heap.size, 2, none⟩) (show w4.heap.size < _ by (try simp) <;> (try omega))]
         first | assumption | (simp [go_sem, *])
       have q8_1_3 : w8.cell? ⟨w4.heap.size, 3, none⟩ = some (.slice D4.ad D4.done.length D4.cd) := by
         rw [hb8.cell (p := ⟨w4.heap.size, 3, none⟩) (show w4.heap.size < _ by (try simp) <;> (try omega))]
         first | assumption | (simp [go_sem, *])
       have hl8_1 : w4.heap.size < w8.heap.size := by omega)
    | (go_at_call 10
       refine (toCluster3_c C _ (hC.keep (HB6.out.drew)) HZ.out).mono ?_
       rintro e w7 ⟨D7, rfl, he7, hf7, hb7⟩
       have hz7 := hb7.size
       try simp at hz7
       have q7_0_0 : w7.cell? ⟨w.heap.size, 0, none⟩ = some (.slice C.an C.nodes.length C.cn) := by
         rw [hb7.cell (p := ⟨w.heap.size, 0, none⟩) (show w.heap.size < _ by (try simp) <;> (try omega))]
         first | assumption | (simp [go_sem, *])
       have q7_0_1 : w7.cell? ⟨w.heap.size, 1, none⟩ = some (.slice C.ast C.stores.length C.cst) := by
         rw [hb7.cell (p := ⟨w.heap.size, 1, none⟩) (show w.heap.size < _ by (try simp) <;> (try omega))]
         first | assumption | (simp [go_sem, *])
       have q7_0_2 : w7.cell? ⟨w.heap.size, 2, none⟩ = some (.slice C.aw C.wire.length C.cw) := by
         rw [hb7.cell (p := ⟨w.heap.size, 2, none⟩) (show w.heap.size < _ by (try simp) <;> (try omega))]
         first | assumption | (simp [go_sem, *])
       have q7_0_3 : w7.cell? ⟨w.heap.size, 3, none⟩ = some (.slice C.ad C.done.length C.cd) := by
         rw [hb7.cell (p := ⟨w.heap.size, 3, none⟩) (show w.heap.size < _ by (try simp) <;> (try omega))]
         first | assumption | (simp [go_sem, *])
       have hl7_0 : w.heap.size < w7.heap.size := by omega
       have q7_1_0 : w7.cell? ⟨w4.heap.size, 0, none⟩ = some (.slice D4.an D4.nodes.length D4.cn) := by
         rw [hb7.cell (p := ⟨w4.heap.size, 0, none⟩) (show w4.heap.size < _ by (try simp) <;> (try omega))]
         first | assumption | (simp [go_sem, *])
       have q7_1_1 : w7.cell? ⟨w4.heap.size, 1, none⟩ = some (.slice D4.ast D4.stores.length D4.cst) := by
         rw [hb7.cell (p := ⟨w4.heap.size, 1, none⟩) (show w4.heap.size < _ by (try simp) <;> (try omega))]
         first | assumption | (simp [go_sem, *])
       have q7_1_2 : w7.cell? ⟨w4.heap.size, 2, none⟩ = some (.slice D4.aw D4.wire.length D4.cw) := by
         rw [hb7.cell (p := ⟨w4.heap.size, 2, none⟩) (show w4.heap.size < _ by (try simp) <;> (try omega))]
         first | assumption | (simp [go_sem, *])
       have q7_1_3 : w7.cell? ⟨w4.heap.size, 3, none⟩ = some (.slice D4.ad D4.done.length D4.cd) := by
         rw [hb7.cell (p := ⟨w4.heap.size, 3, none⟩) (show w4.heap.size < _ by (try simp) <;> (try omega))]
         first | assumption | (simp [go_sem, *])
       have hl7_1 : w4.heap.size < w7.heap.size := by omega))
  have hr8 : Below w6.heap.size w6 w8 := ((((Below.refl _ _).drew).trans (hb7.mono (by (try simp) <;> (try omega)))).trans (hb8.mono (by (try simp) <;> (try omega))))
  have hzr8 := hr8.size
  have HG38 := Lib.hid (HG36.out.below hr8)
  clear HG36
  have HD48 := Lib.hid (HD46.out.below hr8)
  clear HD46
  have HG58 := Lib.hid (HG56.out.below hr8)
  clear HG56
  have HB8 : Hid (Below w.heap.size w w8) := HB6.out.trans (hr8.mono (by omega))
  clear q6_0_0 q6_0_1 q6_0_2 q6_0_3 q7_0_0 q7_0_1 q7_0_2 q7_0_3 q6_1_0 q6_1_1 q6_1_2 q6_1_3 q7_1_0 q7_1_1 q7_1_2 q7_1_3 hb7 hb8 hr8
  obtain ⟨KN, hKN⟩ : ∃ k, cluNum D4 1 = k := ⟨_, rfl⟩
  have HKN := Lib.hid hKN
  clear hKN
  go_wp2_with fail
  refine (markCluster_c D4 1 (w3.heap.size) (w4.heap.size) _ HD48.out (by omega) (cluNum_le D4 HZ4.out)).mono ?_
  rw [HKN.out]
  rintro e w9 ⟨rfl, _, hb9⟩
  have hz9 := hb9.size
  have hKNn : decide ((KN : Int) < 0) = false := decide_eq_false (by omega)
  have HG39 := Lib.hid (HG38.out.mid hb9 (by omega))
  clear HG38
  have HG59 := Lib.hid (HG58.out.mid hb9 (by omega))
  clear HG58
  have q9_0_0 : w9.cell? ⟨w.heap.size, 0, none⟩ = some (.slice C.an C.nodes.length C.cn) := by
    rw [hb9.cell (p := ⟨w.heap.size, 0, none⟩) (show w.heap.size < _ by (try simp) <;> (try omega)) (by show w.heap.size < _ ∨ _ ≤ w.heap.size; omega)]
    exact q8_0_0
  have q9_0_1 : w9.cell? ⟨w.heap.size, 1, none⟩ = some (.slice C.ast C.stores.length C.cst) := by
    rw [hb9.cell (p := ⟨w.heap.size, 1, none⟩) (show w.heap.size < _ by (try simp) <;> (try omega)) (by show w.heap.size < _ ∨ _ ≤ w.heap.size; omega)]
    exact q8_0_1
  have q9_0_2 : w9.cell? ⟨w.heap.size, 2, none⟩ = some (.slice C.aw C.wire.length C.cw) := by
    rw [hb9.cell (p := ⟨w.heap.size, 2, none⟩) (show w.heap.size < _ by (try simp) <;> (try omega)) (by show w.heap.size < _ ∨ _ ≤ w.heap.size; omega)]
    exact q8_0_2
  have q9_0_3 : w9.cell? ⟨w.heap.size, 3, none⟩ = some (.slice C.ad C.done.length C.cd) := by
    rw [hb9.cell (p := ⟨w.heap.size, 3, none⟩) (show w.heap.size < _ by (try simp) <;> (try omega)) (by show w.heap.size < _ ∨ _ ≤ w.heap.size; omega)]
    exact q8_0_3
  have hl9_0 : w.heap.size < w9.heap.size := by omega
  clear q8_0_0 q8_0_1 q8_0_2 q8_0_3
  have q9_1_0 : w9.cell? ⟨w4.heap.size, 0, none⟩ = some (.slice D4.an D4.nodes.length D4.cn) := by
    rw [hb9.cell (p := ⟨w4.heap.size, 0, none⟩) (show w4.heap.size < _ by (try simp) <;> (try omega)) (by show w4.heap.size < _ ∨ _ ≤ w4.heap.size; omega)]
    exact q8_1_0
  have q9_1_1 : w9.cell? ⟨w4.heap.size, 1, none⟩ = some (.slice D4.ast D4.stores.length D4.cst) := by
    rw [hb9.cell (p := ⟨w4.heap.size, 1, none⟩) (show w4.heap.size < _ by (try simp) <;> (try omega)) (by show w4.heap.size < _ ∨ _ ≤ w4.heap.size; omega)]
    exact q8_1_1
  have q9_1_2 : w9.cell? ⟨w4.heap.size, 2, none⟩ = some (.slice D4.aw D4.wire.length D4.cw) := by
    rw [hb9.cell (p := ⟨w4.heap.size, 2, none⟩) (show w4.heap.size < _ by (try simp) <;> (try omega)) (by show w4.heap.size < _ ∨ _ ≤ w4.heap.size; omega)]
    exact q8_1_2
  have q9_1_3 : w9.cell? ⟨w4.heap.size, 3, none⟩ = some (.slice D4.ad D4.done.length D4.cd) := by
    rw [hb9.cell (p := ⟨w4.heap.size, 3, none⟩) (show w4.heap.size < _ by (try simp) <;> (try omega)) (by show w4.heap.size < _ ∨ _ ≤ w4.heap.size; omega)]
    exact q8_1_3
  have hl9_1 : w4.heap.size < w9.heap.size := by omega
  clear q8_1_0 q8_1_1 q8_1_2 q8_1_3
  have HB9 : Hid (Below w.heap.size w w9) := HB8.out.trans (hb9.below (by omega) (by (try simp) <;> (try omega)))
  clear hb9
  clear HD48
  go_wp2_with fail
  refine (eqStringS_c a5 a3 c5 c3 R R _ (HG59.out.sl fun _ => rfl) (HG39.out.sl fun _ => rfl) hcl hcl).mono ?_
  simp only [decide_true]
  rintro e w10 ⟨rfl, hb10⟩
  have hz10 := hb10.size
  have HG310 := Lib.hid (HG39.out.below hb10)
  clear HG39
  have HG510 := Lib.hid (HG59.out.below hb10)
  clear HG59
  have q10_0_0 : w10.cell? ⟨w.heap.size, 0, none⟩ = some (.slice C.an C.nodes.length C.cn) := by
    rw [hb10.cell (p := ⟨w.heap.size, 0, none⟩) (show w.heap.size < _ by (try simp) <;> (try omega))]
    exact q9_0_0
  have q10_0_1 : w10.cell? ⟨w.heap.size, 1, none⟩ = some (.slice C.ast C.stores.length C.cst) := by
    rw [hb10.cell (p := ⟨w.heap.size, 1, none⟩) (show w.heap.size < _ by (try simp) <;> (try omega))]
    exact q9_0_1
  have q10_0_2 : w10.cell? ⟨w.heap.size, 2, none⟩ = some (.slice C.aw C.wire.length C.cw) := by
    rw [hb10.cell (p := ⟨w.heap.size, 2, none⟩) (show w.heap.size < _ by (try simp) <;> (try omega))]
    exact q9_0_2
  have q10_0_3 : w10.cell? ⟨w.heap.size, 3, none⟩ = some (.slice C.ad C.done.length C.cd) := by
    rw [hb10.cell (p := ⟨w.heap.size, 3, none⟩) (show w.heap.size < _ by (try simp) <;> (try omega))]
    exact q9_0_3
  have hl10_0 : w.heap.size < w10.heap.size := by omega
  clear q9_0_0 q9_0_1 q9_0_2 q9_0_3
  have q10_1_0 : w10.cell? ⟨w4.heap.size, 0, none⟩ = some (.slice D4.an D4.nodes.length D4.cn) := by
    rw [hb10.cell (p := ⟨w4.heap.size, 0, none⟩) (show w4.heap.size < _ by (try simp) <;> (try omega))]
    exact q9_1_0
  have q10_1_1 : w10.cell? ⟨w4.heap.size, 1, none⟩ = some (.slice D4.ast D4.stores.length D4.cst) := by
    rw [hb10.cell (p := ⟨w4.heap.size, 1, none⟩) (show w4.heap.size < _ by (try simp) <;> (try omega))]
    exact q9_1_1
  have q10_1_2 : w10.cell? ⟨w4.heap.size, 2, none⟩ = some (.slice D4.aw D4.wire.length D4.cw) := by
    rw [hb10.cell (p := ⟨w4.heap.size, 2, none⟩) (show w4.heap.size < _ by (try simp) <;> (try omega))]
    exact q9_1_2
  have q10_1_3 : w10.cell? ⟨w4.heap.size, 3, none⟩ = some (.slice D4.ad D4.done.length D4.cd) := by
    rw [hb10.cell (p := ⟨w4.heap.size, 3, none⟩) (show w4.heap.size < _ by (try simp) <;> (try omega))]
    exact q9_1_3
  have hl10_1 : w4.heap.size < w10.heap.size := by omega
  clear q9_1_0 q9_1_1 q9_1_2 q9_1_3
  have HB10 : Hid (Below w.heap.size w w10) := HB9.out.trans (hb10.mono (by (try simp) <;> (try omega)))
  clear hb10
  go_wp2_with fail
  refine (markStringS_c a5 c5 R 1 (w4.heap.size + 1) (w5.heap.size) _ HG510.out (by omega) (by omega)).mono ?_
  rintro e w11 ⟨rfl, hf11, hb11⟩
  have hz11 := hb11.size
  have HM11 := Lib.hid hf11
  clear hf11
  have HG311 := Lib.hid (HG310.out.mid hb11 (by omega))
  clear HG310
  have q11_0_0 : w11.cell? ⟨w.heap.size, 0, none⟩ = some (.slice C.an C.nodes.length C.cn) := by
    rw [hb11.cell (p := ⟨w.heap.size, 0, none⟩) (show w.heap.size < _ by (try simp) <;> (try omega)) (by show w.heap.size < _ ∨ _ ≤ w.heap.size; omega)]
    exact q10_0_0
  have q11_0_1 : w11.cell? ⟨w.heap.size, 1, none⟩ = some (.slice C.ast C.stores.length C.cst) := by
    rw [hb11.cell (p := ⟨w.heap.size, 1, none⟩) (show w.heap.size < _ by (try simp) <;> (try omega)) (by show w.heap.size < _ ∨ _ ≤ w.heap.size; omega)]
    exact q10_0_1
  have q11_0_2 : w11.cell? ⟨w.heap.size, 2, none⟩ = some (.slice C.aw C.wire.length C.cw) := by
    rw [hb11.cell (p := ⟨w.heap.size, 2, none⟩) (show w.heap.size < _ by (try simp) <;> (try omega)) (by show w.heap.size < _ ∨ _ ≤ w.heap.size; omega)]
    exact q10_0_2
  have q11_0_3 : w11.cell? ⟨w.heap.size, 3, none⟩ = some (.slice C.ad C.done.length C.cd) := by
    rw [hb11.cell (p := ⟨w.heap.size, 3, none⟩) (show w.heap.size < _ by (try simp) <;> (try omega)) (by show w.heap.size < _ ∨ _ ≤ w.heap.size; omega)]
    exact q10_0_3
  have hl11_0 : w.heap.size < w11.heap.size := by omega
  clear q10_0_0 q10_0_1 q10_0_2 q10_0_3
  have q11_1_0 : w11.cell? ⟨w4.heap.size, 0, none⟩ = some (.slice D4.an D4.nodes.length D4.cn) := by
    rw [hb11.cell (p := ⟨w4.heap.size, 0, none⟩) (show w4.heap.size < _ by (try simp) <;> (try omega)) (by show w4.heap.size < _ ∨ _ ≤ w4.heap.size; omega)]
    exact q10_1_0
  have q11_1_1 : w11.cell? ⟨w4.heap.size, 1, none⟩ = some (.slice D4.ast D4.stores.length D4.cst) := by
    rw [hb11.cell (p := ⟨w4.heap.size, 1, none⟩) (show w4.heap.size < _ by (try simp) <;> (try omega)) (by show w4.heap.size < _ ∨ _ ≤ w4.heap.size; omega)]
    exact q10_1_1
  have q11_1_2 : w11.cell? ⟨w4.heap.size, 2, none⟩ = some (.slice D4.aw D4.wire.length D4.cw) := by
    rw [hb11.cell (p := ⟨w4.heap.size, 2, none⟩) (show w4.heap.size < _ by (try simp) <;> (try omega)) (by show w4.heap.size < _ ∨ _ ≤ w4.heap.size; omega)]
    exact q10_1_2
  have q11_1_3 : w11.cell? ⟨w4.heap.size, 3, none⟩ = some (.slice D4.ad D4.done.length D4.cd) := by
    rw [hb11.cell (p := ⟨w4.heap.size, 3, none⟩) (show w4.heap.size < _ by (try simp) <;> (try omega)) (by show w4.heap.size < _ ∨ _ ≤ w4.heap.size; omega)]
    exact q10_1_3
  have hl11_1 : w4.heap.size < w11.heap.size := by omega
  clear q10_1_0 q10_1_1 q10_1_2 q10_1_3
  have HB11 : Hid (Below w.heap.size w w11) := HB10.out.trans (hb11.below (by omega) (by (try simp) <;> (try omega)))
  clear hb11
  clear HG510
  go_wp2_with fail
  refine (heldStringS_c a5 c5 R.length 1 _ (HM11.out.slmB) (by omega)).mono ?_
  rintro e w12 ⟨rfl, hb12⟩
  have hz12 := hb12.size
  have HG312 := Lib.hid (HG311.out.below hb12)
  clear HG311
  have HM12 := Lib.hid (HM11.out.below hb12)
  clear HM11
  have q12_0_0 : w12.cell? ⟨w.heap.size, 0, none⟩ = some (.slice C.an C.nodes.length C.cn) := by
    rw [hb12.cell (p := ⟨w.heap.size, 0, none⟩) (show w.heap.size < _ by (try simp) <;> (try omega))]
    exact q11_0_0
  have q12_0_1 : w12.cell? ⟨w.heap.size, 1, none⟩ = some (.slice C.ast C.stores.length C.cst) := by
    rw [hb12.cell (p := ⟨w.heap.size, 1, none⟩) (show w.heap.size < _ by (try simp) <;> (try omega))]
    exact q11_0_1
  have q12_0_2 : w12.cell? ⟨w.heap.size, 2, none⟩ = some (.slice C.aw C.wire.length C.cw) := by
    rw [hb12.cell (p := ⟨w.heap.size, 2, none⟩) (show w.heap.size < _ by (try simp) <;> (try omega))]
    exact q11_0_2
  have q12_0_3 : w12.cell? ⟨w.heap.size, 3, none⟩ = some (.slice C.ad C.done.length C.cd) := by
    rw [hb12.cell (p := ⟨w.heap.size, 3, none⟩) (show w.heap.size < _ by (try simp) <;> (try omega))]
    exact q11_0_3
  have hl12_0 : w.heap.size < w12.heap.size := by omega
  clear q11_0_0 q11_0_1 q11_0_2 q11_0_3
  have q12_1_0 : w12.cell? ⟨w4.heap.size, 0, none⟩ = some (.slice D4.an D4.nodes.length D4.cn) := by
    rw [hb12.cell (p := ⟨w4.heap.size, 0, none⟩) (show w4.heap.size < _ by (try simp) <;> (try omega))]
    exact q11_1_0
  have q12_1_1 : w12.cell? ⟨w4.heap.size, 1, none⟩ = some (.slice D4.ast D4.stores.length D4.cst) := by
    rw [hb12.cell (p := ⟨w4.heap.size, 1, none⟩) (show w4.heap.size < _ by (try simp) <;> (try omega))]
    exact q11_1_1
  have q12_1_2 : w12.cell? ⟨w4.heap.size, 2, none⟩ = some (.slice D4.aw D4.wire.length D4.cw) := by
    rw [hb12.cell (p := ⟨w4.heap.size, 2, none⟩) (show w4.heap.size < _ by (try simp) <;> (try omega))]
    exact q11_1_2
  have q12_1_3 : w12.cell? ⟨w4.heap.size, 3, none⟩ = some (.slice D4.ad D4.done.length D4.cd) := by
    rw [hb12.cell (p := ⟨w4.heap.size, 3, none⟩) (show w4.heap.size < _ by (try simp) <;> (try omega))]
    exact q11_1_3
  have hl12_1 : w4.heap.size < w12.heap.size := by omega
  clear q11_1_0 q11_1_1 q11_1_2 q11_1_3
  have HB12 : Hid (Below w.heap.size w w12) := HB11.out.trans (hb12.mono (by (try simp) <;> (try omega)))
  clear hb12
  go_wp2_with fail
  refine (toCluster3_c C _ (hC.keep HB12.out) HZ.out).mono ?_
  rintro e w13 ⟨D13, rfl, he13, hf13, hb13⟩
  have hz13 := hb13.size
  have HD13 := Lib.hid (show CluM (w12.heap.size) w13.heap.size w13 D13 from (by simpa using hf13))
  have HE13 := Lib.hid he13
  have HZ13 : Hid (CluSz D13 1048576) := HZ.out.same he13
  have HV13 : Hid (lgL D13 = R ∧ lgC D13 = c) := ⟨(lg_same he13).1.trans HV.out.1, (lg_same he13).2.trans HV.out.2⟩
  clear hf13 he13
  have HG313 := Lib.hid (HG312.out.below hb13)
  clear HG312
  have HM13 := Lib.hid (HM12.out.below hb13)
  clear HM12
  have q13_0_0 : w13.cell? ⟨w.heap.size, 0, none⟩ = some (.slice C.an C.nodes.length C.cn) := by
    rw [hb13.cell (p := ⟨w.heap.size, 0, none⟩) (show w.heap.size < _ by (try simp) <;> (try omega))]
    exact q12_0_0
  have q13_0_1 : w13.cell? ⟨w.heap.size, 1, none⟩ = some (.slice C.ast C.stores.length C.cst) := by
    rw [hb13.cell (p := ⟨w.heap.size, 1, none⟩) (show w.heap.size < _ by (try simp) <;> (try omega))]
    exact q12_0_1
  have q13_0_2 : w13.cell? ⟨w.heap.size, 2, none⟩ = some (.slice C.aw C.wire.length C.cw) := by
    rw [hb13.cell (p := ⟨w.heap.size, 2, none⟩) (show w.heap.size < _ by (try simp) <;> (try omega))]
    exact q12_0_2
  have q13_0_3 : w13.cell? ⟨w.heap.size, 3, none⟩ = some (.slice C.ad C.done.length C.cd) := by
    rw [hb13.cell (p := ⟨w.heap.size, 3, none⟩) (show w.heap.size < _ by (try simp) <;> (try omega))]
    exact q12_0_3
  have hl13_0 : w.heap.size < w13.heap.size := by omega
  clear q12_0_0 q12_0_1 q12_0_2 q12_0_3
  have HB13 : Hid (Below w.heap.size w w13) := HB12.out.trans (hb13.mono (by (try simp) <;> (try omega)))
  clear hb13
  go_wp2_with fail
  refine (implLongest_c D13.nodes D13.an D13.cn D13.stores D13.ast D13.cst D13.wire D13.aw D13.cw D13.done D13.ad D13.cd _ HD13.out.ok HD13.out.dcap HZ13.out).mono ?_
  unfold LgR
  rw [HV13.out.1, HV13.out.2]
  rintro e w14 ⟨a14, c14, rfl, hf14, hb14⟩
  have hz14 := hb14.size
  have HG1414 := Lib.hid (show FreshIn strE 9 1 (w13.heap.size) w14.heap.size (.slice a14 R.length c14) R w14 from (by simpa using hf14.here))
  clear hf14
  have HG314 := Lib.hid (HG313.out.below hb14)
  clear HG313
  have HM14 := Lib.hid (HM13.out.below hb14)
  clear HM13
  have HD1314 := Lib.hid (HD13.out.below hb14)
  clear HD13
  have q14_0_0 : w14.cell? ⟨w.heap.size, 0, none⟩ = some (.slice C.an C.nodes.length C.cn) := by
    rw [hb14.cell (p := ⟨w.heap.size, 0, none⟩) (show w.heap.size < _ by (try simp) <;> (try omega))]
    exact q13_0_0
  have q14_0_1 : w14.cell? ⟨w.heap.size, 1, none⟩ = some (.slice C.ast C.stores.length C.cst) := by
    rw [hb14.cell (p := ⟨w.heap.size, 1, none⟩) (show w.heap.size < _ by (try simp) <;> (try omega))]
    exact q13_0_1
  have q14_0_2 : w14.cell? ⟨w.heap.size, 2, none⟩ = some (.slice C.aw C.wire.length C.cw) := by
    rw [hb14.cell (p := ⟨w.heap.size, 2, none⟩) (show w.heap.size < _ by (try simp) <;> (try omega))]
    exact q13_0_2
  have q14_0_3 : w14.cell? ⟨w.heap.size, 3, none⟩ = some (.slice C.ad C.done.length C.cd) := by
    rw [hb14.cell (p := ⟨w.heap.size, 3, none⟩) (show w.heap.size < _ by (try simp) <;> (try omega))]
    exact q13_0_3
  have hl14_0 : w.heap.size < w14.heap.size := by omega
  clear q13_0_0 q13_0_1 q13_0_2 q13_0_3
  have HB14 : Hid (Below w.heap.size w w14) := HB13.out.trans (hb14.mono (by (try simp) <;> (try omega)))
  clear hb14
  go_wp2_with fail
  refine (eqStringS_c a14 a3 c14 c3 R R _ (HG1414.out.sl fun _ => rfl) (HG314.out.sl fun _ => rfl) hcl hcl).mono ?_
  simp only [decide_true]
  rintro e w15 ⟨rfl, hb15⟩
  have hz15 := hb15.size
  have HG315 := Lib.hid (HG314.out.below hb15)
  clear HG314
  have HM15 := Lib.hid (HM14.out.below hb15)
  clear HM14
  have HD1315 := Lib.hid (HD1314.out.below hb15)
  clear HD1314
  have HG1415 := Lib.hid (HG1414.out.below hb15)
  clear HG1414
  have q15_0_0 : w15.cell? ⟨w.heap.size, 0, none⟩ = some (.slice C.an C.nodes.length C.cn) := by
    rw [hb15.cell (p := ⟨w.heap.size, 0, none⟩) (show w.heap.size < _ by (try simp) <;> (try omega))]
    exact q14_0_0
  have q15_0_1 : w15.cell? ⟨w.heap.size, 1, none⟩ = some (.slice C.ast C.stores.length C.cst) := by
    rw [hb15.cell (p := ⟨w.heap.size, 1, none⟩) (show w.heap.size < _ by (try simp) <;> (try omega))]
    exact q14_0_1
  have q15_0_2 : w15.cell? ⟨w.heap.size, 2, none⟩ = some (.slice C.aw C.wire.length C.cw) := by
    rw [hb15.cell (p := ⟨w.heap.size, 2, none⟩) (show w.heap.size < _ by (try simp) <;> (try omega))]
    exact q14_0_2
  have q15_0_3 : w15.cell? ⟨w.heap.size, 3, none⟩ = some (.slice C.ad C.done.length C.cd) := by
    rw [hb15.cell (p := ⟨w.heap.size, 3, none⟩) (show w.heap.size < _ by (try simp) <;> (try omega))]
    exact q14_0_3
  have hl15_0 : w.heap.size < w15.heap.size := by omega
  clear q14_0_0 q14_0_1 q14_0_2 q14_0_3
  have HB15 : Hid (Below w.heap.size w w15) := HB14.out.trans (hb15.mono (by (try simp) <;> (try omega)))
  clear hb15
  go_wp2_with fail
  refine (heldStringS_c a5 c5 R.length 1 _ (HM15.out.slmB) (by omega)).mono ?_
  rintro e w16 ⟨rfl, hb16⟩
  have hz16 := hb16.size
  have HG316 := Lib.hid (HG315.out.below hb16)
  clear HG315
  have HM16 := Lib.hid (HM15.out.below hb16)
  clear HM15
  have HD1316 := Lib.hid (HD1315.out.below hb16)
  clear HD1315
  have HG1416 := Lib.hid (HG1415.out.below hb16)
  clear HG1415
  have q16_0_0 : w16.cell? ⟨w.heap.size, 0, none⟩ = some (.slice C.an C.nodes.length C.cn) := by
    rw [hb16.cell (p := ⟨w.heap.size, 0, none⟩) (show w.heap.size < _ by (try simp) <;> (try omega))]
    exact q15_0_0
  have q16_0_1 : w16.cell? ⟨w.heap.size, 1, none⟩ = some (.slice C.ast C.stores.length C.cst) := by
    rw [hb16.cell (p := ⟨w.heap.size, 1, none⟩) (show w.heap.size < _ by (try simp) <;> (try omega))]
    exact q15_0_1
  have q16_0_2 : w16.cell? ⟨w.heap.size, 2, none⟩ = some (.slice C.aw C.wire.length C.cw) := by
    rw [hb16.cell (p := ⟨w.heap.size, 2, none⟩) (show w.heap.size < _ by (try simp) <;> (try omega))]
    exact q15_0_2
  have q16_0_3 : w16.cell? ⟨w.heap.size, 3, none⟩ = some (.slice C.ad C.done.length C.cd) := by
    rw [hb16.cell (p := ⟨w.heap.size, 3, none⟩) (show w.heap.size < _ by (try simp) <;> (try omega))]
    exact q15_0_3
  have hl16_0 : w.heap.size < w16.heap.size := by omega
  clear q15_0_0 q15_0_1 q15_0_2 q15_0_3
  have HB16 : Hid (Below w.heap.size w w16) := HB15.out.trans (hb16.mono (by (try simp) <;> (try omega)))
  clear hb16
  go_wp2_with fail
  go_ret
  exact ⟨rfl, HB16.out⟩
end
section
open Go.ChangeShapes Go.WideShapes Go.ChangeAt Go.RowKit
set_option maxRecDepth 100000 in
theorem fnExactLongestDone_lifted (os : Os) (started : os.Started) (H : Type) (enc : TypeId × Value → H) :
    ReturnsInHanded {} Try.checked os 6 .any (Rows.fnExactLongestDoneSpec.pre6 enc Try.prog Try.f6 Rows.fnExactLongestDoneRow.domain false) (Rows.fnExactLongestDoneSpec.post enc Try.prog Try.f6 false true false false) := by
  refine returnsInHanded_of_change (C := Try.checked) Try.own started (by kernel_rfl) Try.func6
    (ChangeSpec.witness6 (enc := enc) (C := Try.checked) false ⟨#[], #[.agg #[.slice none 0 0, .slice none 0 0, .slice none 0 0, .slice none 0 0]], []⟩ 8 (by kernel_rfl) (by kernel_rfl) (by kernel_rfl) (by kernel_rfl)) ?_
  intro W base args ds gs before hval hW hcnd _
  have hW' := hW
  obtain ⟨p, q, hA, hV, rfl, hfz, hnd⟩ := hW
  obtain ⟨v0, d0, rfl, rfl, h0⟩ := trodAll_one hA
  obtain ⟨rfl, rfl⟩ := trodVars_none hV
  obtain ⟨C, rfl, l1, l2⟩ := openCluster (hval 0 27 v0 rfl rfl) h0
  exact law_calls rfl rfl (by kernel_rfl) hW' rfl (lawLong_c C W l1 l2)
theorem fnExactLongestDone_holds : Rows.FnExactLongestDoneSaid :=
  OpenClaim.holds_of_wide 6 Try.f6 rfl rfl rfl rfl rfl rfl rfl ⟨rfl, rfl, rfl, rfl, rfl⟩ rfl rfl rfl rfl rfl (by kernel_rfl) Try.func6 (by kernel_rfl)
    (of_decide_eq_true (by kernel_rfl)) (by unfold Func.isWrapper; first | (rw [if_pos (by decide +kernel)]; kernel_rfl) | (rw [if_neg (by decide +kernel)]; exact ⟨rfl, rfl⟩))
    (fun os started H enc _ => fnExactLongestDone_lifted os started H enc)
end
end Go.Proofs.Ytckaccadgbcohaa
