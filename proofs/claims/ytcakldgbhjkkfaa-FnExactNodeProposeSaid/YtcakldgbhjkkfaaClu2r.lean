/- toNodeS, toMessageS: the copies' rows, each with slices of its own. No conditions but sizes. -/
import Derived.Test.YtcakldgbhjkkfaaClu2
import Derived.Test.YtcakldgbhjkkfaaRg
import Derived.Test.YtcakldgbhjkkfaaMkNode
import Derived.Test.YtcakldgbhjkkfaaMkMessage
import Derived.Test.YtcakldgbhjkkfaaMkStore
namespace Go.Proofs.Ytcakldgbhjkkfaa
set_option linter.unusedVariables false
set_option linter.unusedSimpArgs false
open Go.RowKit
theorem nodeOwn.low {B B' : Nat} {w : World} {r : NodeA} (h : nodeOwn B w r) (hB : B' ≤ B) : nodeOwn B' w r := ⟨h.1.low hB, h.2.1.low hB, h.2.2.1.low hB, h.2.2.2.low hB⟩
theorem nodeOwn.keep {B : Nat} {w w' : World} {r : NodeA} (h : nodeOwn B w r) (hb : Below w.heap.size w w') : nodeOwn B w' r := ⟨h.1.keepB hb, h.2.1.keepB hb, h.2.2.1.keepB hb, h.2.2.2.keepB hb⟩
theorem nodeOwn.setCell {B : Nat} {w : World} {r : NodeA} (h : nodeOwn B w r) {p : Addr} (hp : p.block < B) (u : Value) : nodeOwn B (w.setCell p u) r := ⟨h.1.setB hp u, h.2.1.setB hp u, h.2.2.1.setB hp u, h.2.2.2.setB hp u⟩
theorem messageOwn.low {B B' : Nat} {w : World} {r : MsgA} (h : messageOwn B w r) (hB : B' ≤ B) : messageOwn B' w r := FreshIn.low h hB
theorem messageOwn.keep {B : Nat} {w w' : World} {r : MsgA} (h : messageOwn B w r) (hb : Below w.heap.size w w') : messageOwn B w' r := FreshIn.keepB h hb
theorem messageOwn.setCell {B : Nat} {w : World} {r : MsgA} (h : messageOwn B w r) {p : Addr} (hp : p.block < B) (u : Value) : messageOwn B (w.setCell p u) r := FreshIn.setB h hp u
abbrev NodeG := RowsG nodeOwn nodeBlk (fun r => r.N.log.length ≤ r.cl)
abbrev MsgG := RowsG messageOwn messageBlk (fun _ => True)
theorem NodeG.setCell {B : Nat} {w : World} {L : List NodeA} (h : NodeG B w L) {p : Addr} (hp : p.block < B) (u : Value) : NodeG B (w.setCell p u) L := RowsG.to h (by simp [World.setCell]) (fun _ hr => hr.setCell hp u)
theorem MsgG.setCell {B : Nat} {w : World} {L : List MsgA} (h : MsgG B w L) {p : Addr} (hp : p.block < B) (u : Value) : MsgG B (w.setCell p u) L := RowsG.to h (by simp [World.setCell]) (fun _ hr => hr.setCell hp u)
theorem nodeNew {lo : Nat} {w : World} {N : NodeV} (al : Option Addr) (cl : Nat) (av : Option Addr) (cv : Nat) (an : Option Addr) (cn : Nat) (am : Option Addr) (cm : Nat) (h : FreshNode lo N w al cl av cv an cn am cm) : RowNew nodeOwn nodeBlk (fun r => r.N.log.length ≤ r.cl) lo w ⟨N, al, cl, av, cv, an, cn, am, cm⟩ := by
  obtain ⟨x1, x2, x3, y1, y2, y3, y4, f1, f2, f3, f4⟩ := h
  have d1 := f1.blks
  have d2 := f2.blks
  have d3 := f3.blks
  have d4 := f4.blks
  refine ⟨⟨f1.mono (Nat.le_refl _) (by omega), f2.mono (by omega) (by omega), f3.mono (by omega) (by omega), f4.mono (by omega) (by omega)⟩, ?_, ?_, fit_of_own f1⟩
  · simp only [nodeBlk, List.nodup_append, List.mem_append]
    refine ⟨⟨⟨blkOf_nodup _, blkOf_nodup _, ?_⟩, blkOf_nodup _, ?_⟩, blkOf_nodup _, ?_⟩
    · intro a ha b hb
      have := d1 a ha; have := d2 b hb; omega
    · rintro a (ha | ha) b hb
      · have := d1 a ha; have := d3 b hb; omega
      · have := d2 a ha; have := d3 b hb; omega
    · rintro a ((ha | ha) | ha) b hb
      · have := d1 a ha; have := d4 b hb; omega
      · have := d2 a ha; have := d4 b hb; omega
      · have := d3 a ha; have := d4 b hb; omega
  · intro b hb
    simp only [nodeBlk, List.mem_append] at hb
    rcases hb with ((hb | hb) | hb) | hb
    · have := d1 b hb; omega
    · have := d2 b hb; omega
    · have := d3 b hb; omega
    · have := d4 b hb; omega
def NodeSR2 (rs : List NodeA) (w : World) (e : Ending) (w' : World) : Prop :=
  ∃ b L, e = .returned (.slice (some ⟨b, 0, none⟩) (List.length L) (List.length L)) ∧ L.map (·.N) = rs.map (·.N) ∧ RowsR nodeE 13 nodeOwn nodeBlk w.heap.size w' b L ∧ (∀ r ∈ L, r.N.log.length ≤ r.cl) ∧ Below w.heap.size w w'
def MsgSR2 (rs : List MsgA) (w : World) (e : Ending) (w' : World) : Prop :=
  ∃ b L, e = .returned (.slice (some ⟨b, 0, none⟩) (List.length L) (List.length L)) ∧ L.map (·.M) = rs.map (·.M) ∧ RowsR msgE 9 messageOwn messageBlk w.heap.size w' b L ∧ Below w.heap.size w w'
end Go.Proofs.Ytcakldgbhjkkfaa
