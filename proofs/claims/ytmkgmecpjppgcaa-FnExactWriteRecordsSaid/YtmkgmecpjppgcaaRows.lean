/-
  No cell of these rows narrows 'for every input' (looked for: loops, veiled, ifaces, maps, wideKeys, modest, calm, conditions, laid).
  DERIVED. THE GIVEN ROWS OF THIS SEAT. 12 by the template 'for every input the law returns true; each argument reads behind the call as it read before'; 0 by the template 'total and deterministic' (their statements: YtmkgmecpjppgcaaTotals.lean).
  GIVEN WITH THE SEED: the statements are not yours to turn. If you find one false, say at which input.
  Laid BY PROGRAM, IN A SANDBOX (cutbox-rows.mjs): the forced cells as the released guide's own fill.sh prints them over the translation a69b2c77d2b7553e… (all of the seat's roots in one cut). By AI agents, Wed Nov 11 2026. No macro, syntax, notation, axiom, sorry.
-/
import Derived.Test.YtmkgmecpjppgcaaChecked
import GoSem.Claim
import GoSem.ClaimJoined
import GoSem.ClaimMapViews
import Derived.JoinedTies
import Derived.KernelRfl
namespace Go.Proofs.Ytmkgmecpjppgcaa
/- THE CELL 'sum', in the pinned program and in every row, IS THE sha256 OF THE DUMP (.gsa) THAT YtmkgmecpjppgcaaProg.lean LOADS. Nothing in Lean hashes anything: it is a label: what it is worth is what the hold of that sum in a sandbox is worth. -/
noncomputable def Try.pinned : Pinned := { name := "ytmkgmecpjppgcaa", sum := "a69b2c77d2b7553e9b30a154d39f6bd7f9df97c9238b49da9f69b9d8742db5fc", checked := Try.checked }
namespace Rows
def none {H : Type} : Left H := { results := [], args := [] }

/-- 'laws.FnExactStoreOK': WHATEVER THE INPUT: true; the input reads as it did. -/
def fnExactStoreOKSpec : ChangeSpec := { name := "fnExactStoreOK", fn := fun _ => fun
  | [d] => { results := [.lit (.bool true)], args := [d] }
  | _ => none }
def fnExactStoreOKRow : OpenClaim := { program := "ytmkgmecpjppgcaa", sum := "a69b2c77d2b7553e9b30a154d39f6bd7f9df97c9238b49da9f69b9d8742db5fc", func := "loop.example/g00308/laws.FnExactStoreOK", spec := "fnExactStoreOK", apart := false }
def FnExactStoreOKSaid : Prop := fnExactStoreOKRow.holds Try.pinned (OpenSpec.ofChange fnExactStoreOKSpec)

/-- ITS FALSE NEIGHBOUR: 'it returns false'. Refute it at one input. -/
def fnExactStoreOKWrong : ChangeSpec := { name := "fnExactStoreOK", fn := fun _ => fun
  | [d] => { results := [.lit (.bool false)], args := [d] }
  | _ => none }
def FnExactStoreOKWrongFalsely : Prop := fnExactStoreOKRow.holds Try.pinned (OpenSpec.ofChange fnExactStoreOKWrong)

/-- 'laws.FnExactSyncStore': WHATEVER THE INPUT: true; the input reads as it did. -/
def fnExactSyncStoreSpec : ChangeSpec := { name := "fnExactSyncStore", fn := fun _ => fun
  | [d] => { results := [.lit (.bool true)], args := [d] }
  | _ => none }
def fnExactSyncStoreRow : OpenClaim := { program := "ytmkgmecpjppgcaa", sum := "a69b2c77d2b7553e9b30a154d39f6bd7f9df97c9238b49da9f69b9d8742db5fc", func := "loop.example/g00308/laws.FnExactSyncStore", spec := "fnExactSyncStore", apart := false }
def FnExactSyncStoreSaid : Prop := fnExactSyncStoreRow.holds Try.pinned (OpenSpec.ofChange fnExactSyncStoreSpec)

/-- ITS FALSE NEIGHBOUR: 'it returns false'. Refute it at one input. -/
def fnExactSyncStoreWrong : ChangeSpec := { name := "fnExactSyncStore", fn := fun _ => fun
  | [d] => { results := [.lit (.bool false)], args := [d] }
  | _ => none }
def FnExactSyncStoreWrongFalsely : Prop := fnExactSyncStoreRow.holds Try.pinned (OpenSpec.ofChange fnExactSyncStoreWrong)

/-- 'laws.FnExactCrashStore': WHATEVER THE INPUT: true; the input reads as it did. -/
def fnExactCrashStoreSpec : ChangeSpec := { name := "fnExactCrashStore", fn := fun _ => fun
  | [d1, d2] => { results := [.lit (.bool true)], args := [d1, d2] }
  | _ => none }
def fnExactCrashStoreRow : OpenClaim := { program := "ytmkgmecpjppgcaa", sum := "a69b2c77d2b7553e9b30a154d39f6bd7f9df97c9238b49da9f69b9d8742db5fc", func := "loop.example/g00308/laws.FnExactCrashStore", spec := "fnExactCrashStore", apart := false }
def FnExactCrashStoreSaid : Prop := fnExactCrashStoreRow.holds Try.pinned (OpenSpec.ofChange fnExactCrashStoreSpec)

/-- ITS FALSE NEIGHBOUR: 'it returns false'. Refute it at one input. -/
def fnExactCrashStoreWrong : ChangeSpec := { name := "fnExactCrashStore", fn := fun _ => fun
  | [d1, d2] => { results := [.lit (.bool false)], args := [d1, d2] }
  | _ => none }
def FnExactCrashStoreWrongFalsely : Prop := fnExactCrashStoreRow.holds Try.pinned (OpenSpec.ofChange fnExactCrashStoreWrong)

/-- 'laws.FnExactAppliedCount': WHATEVER THE INPUT: true; the input reads as it did. -/
def fnExactAppliedCountSpec : ChangeSpec := { name := "fnExactAppliedCount", fn := fun _ => fun
  | [d] => { results := [.lit (.bool true)], args := [d] }
  | _ => none }
def fnExactAppliedCountRow : OpenClaim := { program := "ytmkgmecpjppgcaa", sum := "a69b2c77d2b7553e9b30a154d39f6bd7f9df97c9238b49da9f69b9d8742db5fc", func := "loop.example/g00308/laws.FnExactAppliedCount", spec := "fnExactAppliedCount", apart := false }
def FnExactAppliedCountSaid : Prop := fnExactAppliedCountRow.holds Try.pinned (OpenSpec.ofChange fnExactAppliedCountSpec)

/-- ITS FALSE NEIGHBOUR: 'it returns false'. Refute it at one input. -/
def fnExactAppliedCountWrong : ChangeSpec := { name := "fnExactAppliedCount", fn := fun _ => fun
  | [d] => { results := [.lit (.bool false)], args := [d] }
  | _ => none }
def FnExactAppliedCountWrongFalsely : Prop := fnExactAppliedCountRow.holds Try.pinned (OpenSpec.ofChange fnExactAppliedCountWrong)

/-- 'laws.FnExactStateOK': WHATEVER THE INPUT: true; the input reads as it did. -/
def fnExactStateOKSpec : ChangeSpec := { name := "fnExactStateOK", fn := fun _ => fun
  | [d] => { results := [.lit (.bool true)], args := [d] }
  | _ => none }
def fnExactStateOKRow : OpenClaim := { program := "ytmkgmecpjppgcaa", sum := "a69b2c77d2b7553e9b30a154d39f6bd7f9df97c9238b49da9f69b9d8742db5fc", func := "loop.example/g00308/laws.FnExactStateOK", spec := "fnExactStateOK", apart := false }
def FnExactStateOKSaid : Prop := fnExactStateOKRow.holds Try.pinned (OpenSpec.ofChange fnExactStateOKSpec)

/-- ITS FALSE NEIGHBOUR: 'it returns false'. Refute it at one input. -/
def fnExactStateOKWrong : ChangeSpec := { name := "fnExactStateOK", fn := fun _ => fun
  | [d] => { results := [.lit (.bool false)], args := [d] }
  | _ => none }
def FnExactStateOKWrongFalsely : Prop := fnExactStateOKRow.holds Try.pinned (OpenSpec.ofChange fnExactStateOKWrong)

/-- 'laws.FnExactSameState': WHATEVER THE INPUT: true; the input reads as it did. -/
def fnExactSameStateSpec : ChangeSpec := { name := "fnExactSameState", fn := fun _ => fun
  | [d1, d2] => { results := [.lit (.bool true)], args := [d1, d2] }
  | _ => none }
def fnExactSameStateRow : OpenClaim := { program := "ytmkgmecpjppgcaa", sum := "a69b2c77d2b7553e9b30a154d39f6bd7f9df97c9238b49da9f69b9d8742db5fc", func := "loop.example/g00308/laws.FnExactSameState", spec := "fnExactSameState", apart := false }
def FnExactSameStateSaid : Prop := fnExactSameStateRow.holds Try.pinned (OpenSpec.ofChange fnExactSameStateSpec)

/-- ITS FALSE NEIGHBOUR: 'it returns false'. Refute it at one input. -/
def fnExactSameStateWrong : ChangeSpec := { name := "fnExactSameState", fn := fun _ => fun
  | [d1, d2] => { results := [.lit (.bool false)], args := [d1, d2] }
  | _ => none }
def FnExactSameStateWrongFalsely : Prop := fnExactSameStateRow.holds Try.pinned (OpenSpec.ofChange fnExactSameStateWrong)

/-- 'laws.FnExactCutChunks': WHATEVER THE INPUT: true; the input reads as it did. -/
def fnExactCutChunksSpec : ChangeSpec := { name := "fnExactCutChunks", fn := fun _ => fun
  | [d1, d2] => { results := [.lit (.bool true)], args := [d1, d2] }
  | _ => none }
def fnExactCutChunksRow : OpenClaim := { program := "ytmkgmecpjppgcaa", sum := "a69b2c77d2b7553e9b30a154d39f6bd7f9df97c9238b49da9f69b9d8742db5fc", func := "loop.example/g00308/laws.FnExactCutChunks", spec := "fnExactCutChunks", unfollowed := true, recurses := true, apart := false }
def FnExactCutChunksSaid : Prop := fnExactCutChunksRow.holds Try.pinned (OpenSpec.ofChange fnExactCutChunksSpec)

/-- ITS FALSE NEIGHBOUR: 'it returns false'. Refute it at one input. -/
def fnExactCutChunksWrong : ChangeSpec := { name := "fnExactCutChunks", fn := fun _ => fun
  | [d1, d2] => { results := [.lit (.bool false)], args := [d1, d2] }
  | _ => none }
def FnExactCutChunksWrongFalsely : Prop := fnExactCutChunksRow.holds Try.pinned (OpenSpec.ofChange fnExactCutChunksWrong)

/-- 'laws.FnExactWriteRecords': WHATEVER THE INPUT: true; the input reads as it did. -/
def fnExactWriteRecordsSpec : ChangeSpec := { name := "fnExactWriteRecords", fn := fun _ => fun
  | [d1, d2] => { results := [.lit (.bool true)], args := [d1, d2] }
  | _ => none }
def fnExactWriteRecordsRow : OpenClaim := { program := "ytmkgmecpjppgcaa", sum := "a69b2c77d2b7553e9b30a154d39f6bd7f9df97c9238b49da9f69b9d8742db5fc", func := "loop.example/g00308/laws.FnExactWriteRecords", spec := "fnExactWriteRecords", inPlace := ["internal/abi.NoEscape"], unfollowed := true, recurses := true, apart := false }
def FnExactWriteRecordsSaid : Prop := fnExactWriteRecordsRow.holds Try.pinned (OpenSpec.ofChange fnExactWriteRecordsSpec)

/-- ITS FALSE NEIGHBOUR: 'it returns false'. Refute it at one input. -/
def fnExactWriteRecordsWrong : ChangeSpec := { name := "fnExactWriteRecords", fn := fun _ => fun
  | [d1, d2] => { results := [.lit (.bool false)], args := [d1, d2] }
  | _ => none }
def FnExactWriteRecordsWrongFalsely : Prop := fnExactWriteRecordsRow.holds Try.pinned (OpenSpec.ofChange fnExactWriteRecordsWrong)

/-- 'laws.FnExactNodeOK': WHATEVER THE INPUT: true; the input reads as it did. -/
def fnExactNodeOKSpec : ChangeSpec := { name := "fnExactNodeOK", fn := fun _ => fun
  | [d] => { results := [.lit (.bool true)], args := [d] }
  | _ => none }
def fnExactNodeOKRow : OpenClaim := { program := "ytmkgmecpjppgcaa", sum := "a69b2c77d2b7553e9b30a154d39f6bd7f9df97c9238b49da9f69b9d8742db5fc", func := "loop.example/g00308/laws.FnExactNodeOK", spec := "fnExactNodeOK", apart := false }
def FnExactNodeOKSaid : Prop := fnExactNodeOKRow.holds Try.pinned (OpenSpec.ofChange fnExactNodeOKSpec)

/-- ITS FALSE NEIGHBOUR: 'it returns false'. Refute it at one input. -/
def fnExactNodeOKWrong : ChangeSpec := { name := "fnExactNodeOK", fn := fun _ => fun
  | [d] => { results := [.lit (.bool false)], args := [d] }
  | _ => none }
def FnExactNodeOKWrongFalsely : Prop := fnExactNodeOKRow.holds Try.pinned (OpenSpec.ofChange fnExactNodeOKWrong)

/-- 'laws.FnExactNewNode': WHATEVER THE INPUT: true; the input reads as it did. -/
def fnExactNewNodeSpec : ChangeSpec := { name := "fnExactNewNode", fn := fun _ => fun
  | [d1, d2] => { results := [.lit (.bool true)], args := [d1, d2] }
  | _ => none }
def fnExactNewNodeRow : OpenClaim := { program := "ytmkgmecpjppgcaa", sum := "a69b2c77d2b7553e9b30a154d39f6bd7f9df97c9238b49da9f69b9d8742db5fc", func := "loop.example/g00308/laws.FnExactNewNode", spec := "fnExactNewNode", apart := false }
def FnExactNewNodeSaid : Prop := fnExactNewNodeRow.holds Try.pinned (OpenSpec.ofChange fnExactNewNodeSpec)

/-- ITS FALSE NEIGHBOUR: 'it returns false'. Refute it at one input. -/
def fnExactNewNodeWrong : ChangeSpec := { name := "fnExactNewNode", fn := fun _ => fun
  | [d1, d2] => { results := [.lit (.bool false)], args := [d1, d2] }
  | _ => none }
def FnExactNewNodeWrongFalsely : Prop := fnExactNewNodeRow.holds Try.pinned (OpenSpec.ofChange fnExactNewNodeWrong)

/-- 'laws.FnExactUpToDate': WHATEVER THE INPUT: true; the input reads as it did. -/
def fnExactUpToDateSpec : ChangeSpec := { name := "fnExactUpToDate", fn := fun _ => fun
  | [d1, d2, d3] => { results := [.lit (.bool true)], args := [d1, d2, d3] }
  | _ => none }
def fnExactUpToDateRow : OpenClaim := { program := "ytmkgmecpjppgcaa", sum := "a69b2c77d2b7553e9b30a154d39f6bd7f9df97c9238b49da9f69b9d8742db5fc", func := "loop.example/g00308/laws.FnExactUpToDate", spec := "fnExactUpToDate", apart := false }
def FnExactUpToDateSaid : Prop := fnExactUpToDateRow.holds Try.pinned (OpenSpec.ofChange fnExactUpToDateSpec)

/-- ITS FALSE NEIGHBOUR: 'it returns false'. Refute it at one input. -/
def fnExactUpToDateWrong : ChangeSpec := { name := "fnExactUpToDate", fn := fun _ => fun
  | [d1, d2, d3] => { results := [.lit (.bool false)], args := [d1, d2, d3] }
  | _ => none }
def FnExactUpToDateWrongFalsely : Prop := fnExactUpToDateRow.holds Try.pinned (OpenSpec.ofChange fnExactUpToDateWrong)

/-- 'laws.FnExactCommitted': WHATEVER THE INPUT: true; the input reads as it did. -/
def fnExactCommittedSpec : ChangeSpec := { name := "fnExactCommitted", fn := fun _ => fun
  | [d] => { results := [.lit (.bool true)], args := [d] }
  | _ => none }
def fnExactCommittedRow : OpenClaim := { program := "ytmkgmecpjppgcaa", sum := "a69b2c77d2b7553e9b30a154d39f6bd7f9df97c9238b49da9f69b9d8742db5fc", func := "loop.example/g00308/laws.FnExactCommitted", spec := "fnExactCommitted", apart := false }
def FnExactCommittedSaid : Prop := fnExactCommittedRow.holds Try.pinned (OpenSpec.ofChange fnExactCommittedSpec)

/-- ITS FALSE NEIGHBOUR: 'it returns false'. Refute it at one input. -/
def fnExactCommittedWrong : ChangeSpec := { name := "fnExactCommitted", fn := fun _ => fun
  | [d] => { results := [.lit (.bool false)], args := [d] }
  | _ => none }
def FnExactCommittedWrongFalsely : Prop := fnExactCommittedRow.holds Try.pinned (OpenSpec.ofChange fnExactCommittedWrong)

/- THE SECOND FORM. 'bulk': how many values and letters a reading holds, each counted each time it is reached (what is shared counts as often as it is met; a slice's spare places count too). A statement '..UptoSaid' is the law's where the arguments, and the package variables that the reading takes, are together of bulk at most 1048576: NARROWER than '..Said'. Prove '..Said' where nothing that the law and all that it calls make is longer than what came in: it says more and counts as full. Else prove '..UptoSaid'. A law counts once. -/
mutual
def uptoBulk {H : Type} : DataW H → Nat
  | .lit (.string bytes) => bytes.length + 1
  | .lit _ => 1
  | .nil => 1
  | .ptr d => uptoBulk d + 1
  | .slice elems spare => uptoBulkAll elems + uptoBulkAll spare + 1
  | .agg parts => uptoBulkAll parts + 1
  | .iface _ d => uptoBulk d + 1
  | .map entries => uptoBulkEntries entries + 1
  | .held _ => 1
def uptoBulkAll {H : Type} : List (DataW H) → Nat
  | [] => 0
  | d :: r => uptoBulk d + uptoBulkAll r
def uptoBulkEntries {H : Type} : List (Lit × DataW H) → Nat
  | [] => 0
  | x :: r => uptoBulkEntry x + uptoBulkEntries r
def uptoBulkEntry {H : Type} : Lit × DataW H → Nat
  | (.string bytes, d) => bytes.length + uptoBulk d + 1
  | (_, d) => uptoBulk d + 1
 end
def uptoSmall : (H : Type) → List (DataW H) → Bool := fun _ ds => decide (uptoBulkAll ds ≤ 1048576)
def OpenSpec.upto (s : _root_.Go.ChangeSpec) : _root_.Go.OpenSpec := { _root_.Go.OpenSpec.ofChange s with cond := some uptoSmall }

/-- 'laws.FnExactStoreOK', WHERE WHAT IT READS IS OF BULK AT MOST 1048576: true; the input reads as it did. -/
def fnExactStoreOKUptoRow : OpenClaim := { program := "ytmkgmecpjppgcaa", sum := "a69b2c77d2b7553e9b30a154d39f6bd7f9df97c9238b49da9f69b9d8742db5fc", func := "loop.example/g00308/laws.FnExactStoreOK", spec := "fnExactStoreOK", apart := false, narrowed := true }
def FnExactStoreOKUptoSaid : Prop := fnExactStoreOKUptoRow.holds Try.pinned (OpenSpec.upto fnExactStoreOKSpec)

/-- 'laws.FnExactSyncStore', WHERE WHAT IT READS IS OF BULK AT MOST 1048576: true; the input reads as it did. -/
def fnExactSyncStoreUptoRow : OpenClaim := { program := "ytmkgmecpjppgcaa", sum := "a69b2c77d2b7553e9b30a154d39f6bd7f9df97c9238b49da9f69b9d8742db5fc", func := "loop.example/g00308/laws.FnExactSyncStore", spec := "fnExactSyncStore", apart := false, narrowed := true }
def FnExactSyncStoreUptoSaid : Prop := fnExactSyncStoreUptoRow.holds Try.pinned (OpenSpec.upto fnExactSyncStoreSpec)

/-- 'laws.FnExactCrashStore', WHERE WHAT IT READS IS OF BULK AT MOST 1048576: true; the input reads as it did. -/
def fnExactCrashStoreUptoRow : OpenClaim := { program := "ytmkgmecpjppgcaa", sum := "a69b2c77d2b7553e9b30a154d39f6bd7f9df97c9238b49da9f69b9d8742db5fc", func := "loop.example/g00308/laws.FnExactCrashStore", spec := "fnExactCrashStore", apart := false, narrowed := true }
def FnExactCrashStoreUptoSaid : Prop := fnExactCrashStoreUptoRow.holds Try.pinned (OpenSpec.upto fnExactCrashStoreSpec)

/-- 'laws.FnExactAppliedCount', WHERE WHAT IT READS IS OF BULK AT MOST 1048576: true; the input reads as it did. -/
def fnExactAppliedCountUptoRow : OpenClaim := { program := "ytmkgmecpjppgcaa", sum := "a69b2c77d2b7553e9b30a154d39f6bd7f9df97c9238b49da9f69b9d8742db5fc", func := "loop.example/g00308/laws.FnExactAppliedCount", spec := "fnExactAppliedCount", apart := false, narrowed := true }
def FnExactAppliedCountUptoSaid : Prop := fnExactAppliedCountUptoRow.holds Try.pinned (OpenSpec.upto fnExactAppliedCountSpec)

/-- 'laws.FnExactStateOK', WHERE WHAT IT READS IS OF BULK AT MOST 1048576: true; the input reads as it did. -/
def fnExactStateOKUptoRow : OpenClaim := { program := "ytmkgmecpjppgcaa", sum := "a69b2c77d2b7553e9b30a154d39f6bd7f9df97c9238b49da9f69b9d8742db5fc", func := "loop.example/g00308/laws.FnExactStateOK", spec := "fnExactStateOK", apart := false, narrowed := true }
def FnExactStateOKUptoSaid : Prop := fnExactStateOKUptoRow.holds Try.pinned (OpenSpec.upto fnExactStateOKSpec)

/-- 'laws.FnExactSameState', WHERE WHAT IT READS IS OF BULK AT MOST 1048576: true; the input reads as it did. -/
def fnExactSameStateUptoRow : OpenClaim := { program := "ytmkgmecpjppgcaa", sum := "a69b2c77d2b7553e9b30a154d39f6bd7f9df97c9238b49da9f69b9d8742db5fc", func := "loop.example/g00308/laws.FnExactSameState", spec := "fnExactSameState", apart := false, narrowed := true }
def FnExactSameStateUptoSaid : Prop := fnExactSameStateUptoRow.holds Try.pinned (OpenSpec.upto fnExactSameStateSpec)

/-- 'laws.FnExactCutChunks', WHERE WHAT IT READS IS OF BULK AT MOST 1048576: true; the input reads as it did. -/
def fnExactCutChunksUptoRow : OpenClaim := { program := "ytmkgmecpjppgcaa", sum := "a69b2c77d2b7553e9b30a154d39f6bd7f9df97c9238b49da9f69b9d8742db5fc", func := "loop.example/g00308/laws.FnExactCutChunks", spec := "fnExactCutChunks", unfollowed := true, recurses := true, apart := false, narrowed := true }
def FnExactCutChunksUptoSaid : Prop := fnExactCutChunksUptoRow.holds Try.pinned (OpenSpec.upto fnExactCutChunksSpec)

/-- 'laws.FnExactWriteRecords', WHERE WHAT IT READS IS OF BULK AT MOST 1048576: true; the input reads as it did. -/
def fnExactWriteRecordsUptoRow : OpenClaim := { program := "ytmkgmecpjppgcaa", sum := "a69b2c77d2b7553e9b30a154d39f6bd7f9df97c9238b49da9f69b9d8742db5fc", func := "loop.example/g00308/laws.FnExactWriteRecords", spec := "fnExactWriteRecords", inPlace := ["internal/abi.NoEscape"], unfollowed := true, recurses := true, apart := false, narrowed := true }
def FnExactWriteRecordsUptoSaid : Prop := fnExactWriteRecordsUptoRow.holds Try.pinned (OpenSpec.upto fnExactWriteRecordsSpec)

/-- 'laws.FnExactNodeOK', WHERE WHAT IT READS IS OF BULK AT MOST 1048576: true; the input reads as it did. -/
def fnExactNodeOKUptoRow : OpenClaim := { program := "ytmkgmecpjppgcaa", sum := "a69b2c77d2b7553e9b30a154d39f6bd7f9df97c9238b49da9f69b9d8742db5fc", func := "loop.example/g00308/laws.FnExactNodeOK", spec := "fnExactNodeOK", apart := false, narrowed := true }
def FnExactNodeOKUptoSaid : Prop := fnExactNodeOKUptoRow.holds Try.pinned (OpenSpec.upto fnExactNodeOKSpec)

/-- 'laws.FnExactNewNode', WHERE WHAT IT READS IS OF BULK AT MOST 1048576: true; the input reads as it did. -/
def fnExactNewNodeUptoRow : OpenClaim := { program := "ytmkgmecpjppgcaa", sum := "a69b2c77d2b7553e9b30a154d39f6bd7f9df97c9238b49da9f69b9d8742db5fc", func := "loop.example/g00308/laws.FnExactNewNode", spec := "fnExactNewNode", apart := false, narrowed := true }
def FnExactNewNodeUptoSaid : Prop := fnExactNewNodeUptoRow.holds Try.pinned (OpenSpec.upto fnExactNewNodeSpec)

/-- 'laws.FnExactUpToDate', WHERE WHAT IT READS IS OF BULK AT MOST 1048576: true; the input reads as it did. -/
def fnExactUpToDateUptoRow : OpenClaim := { program := "ytmkgmecpjppgcaa", sum := "a69b2c77d2b7553e9b30a154d39f6bd7f9df97c9238b49da9f69b9d8742db5fc", func := "loop.example/g00308/laws.FnExactUpToDate", spec := "fnExactUpToDate", apart := false, narrowed := true }
def FnExactUpToDateUptoSaid : Prop := fnExactUpToDateUptoRow.holds Try.pinned (OpenSpec.upto fnExactUpToDateSpec)

/-- 'laws.FnExactCommitted', WHERE WHAT IT READS IS OF BULK AT MOST 1048576: true; the input reads as it did. -/
def fnExactCommittedUptoRow : OpenClaim := { program := "ytmkgmecpjppgcaa", sum := "a69b2c77d2b7553e9b30a154d39f6bd7f9df97c9238b49da9f69b9d8742db5fc", func := "loop.example/g00308/laws.FnExactCommitted", spec := "fnExactCommitted", apart := false, narrowed := true }
def FnExactCommittedUptoSaid : Prop := fnExactCommittedUptoRow.holds Try.pinned (OpenSpec.upto fnExactCommittedSpec)

end Rows
end Go.Proofs.Ytmkgmecpjppgcaa
