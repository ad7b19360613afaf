/-
  No cell of these rows narrows 'for every input' (looked for: loops, veiled, ifaces, maps, wideKeys, modest, calm, conditions, laid).
  DERIVED. THE GIVEN ROWS OF THIS SEAT. 8 by the template 'for every input the law returns true; each argument reads behind the call as it read before'; 0 by the template 'total and deterministic' (their statements: YtmdjcoeijlnloaaTotals.lean).
  GIVEN WITH THE SEED: the statements are not yours to turn. If you find one false, say at which input.
  Laid BY PROGRAM, IN A SANDBOX (cutbox-rows.mjs): the forced cells as the released guide's own fill.sh prints them over the translation 91c9360628f96f45… (all of the seat's roots in one cut). By AI agents, Wed Nov 11 2026. No macro, syntax, notation, axiom, sorry.
-/
import Derived.Test.YtmdjcoeijlnloaaChecked
import GoSem.Claim
import GoSem.ClaimJoined
import GoSem.ClaimMapViews
import Derived.JoinedTies
import Derived.KernelRfl
namespace Go.Proofs.Ytmdjcoeijlnloaa
/- THE CELL 'sum', in the pinned program and in every row, IS THE sha256 OF THE DUMP (.gsa) THAT YtmdjcoeijlnloaaProg.lean LOADS. Nothing in Lean hashes anything: it is a label: what it is worth is what the hold of that sum in a sandbox is worth. -/
noncomputable def Try.pinned : Pinned := { name := "ytmdjcoeijlnloaa", sum := "91c9360628f96f4574ae6cd23ffa321a0e6808794b7e5ad28f0fd143e14d8770", checked := Try.checked }
namespace Rows
def none {H : Type} : Left H := { results := [], args := [] }

/-- 'laws.FnExactRecordsOf': WHATEVER THE INPUT: true; the input reads as it did. -/
def fnExactRecordsOfSpec : ChangeSpec := { name := "fnExactRecordsOf", fn := fun _ => fun
  | [d1, d2] => { results := [.lit (.bool true)], args := [d1, d2] }
  | _ => none }
def fnExactRecordsOfRow : OpenClaim := { program := "ytmdjcoeijlnloaa", sum := "91c9360628f96f4574ae6cd23ffa321a0e6808794b7e5ad28f0fd143e14d8770", func := "loop.example/g00308/laws.FnExactRecordsOf", spec := "fnExactRecordsOf", inPlace := ["internal/abi.NoEscape"], unfollowed := true, recurses := true, apart := false }
def FnExactRecordsOfSaid : Prop := fnExactRecordsOfRow.holds Try.pinned (OpenSpec.ofChange fnExactRecordsOfSpec)

/-- ITS FALSE NEIGHBOUR: 'it returns false'. Refute it at one input. -/
def fnExactRecordsOfWrong : ChangeSpec := { name := "fnExactRecordsOf", fn := fun _ => fun
  | [d1, d2] => { results := [.lit (.bool false)], args := [d1, d2] }
  | _ => none }
def FnExactRecordsOfWrongFalsely : Prop := fnExactRecordsOfRow.holds Try.pinned (OpenSpec.ofChange fnExactRecordsOfWrong)

/-- 'laws.FnExactApplyRecord': WHATEVER THE INPUT: true; the input reads as it did. -/
def fnExactApplyRecordSpec : ChangeSpec := { name := "fnExactApplyRecord", fn := fun _ => fun
  | [d1, d2] => { results := [.lit (.bool true)], args := [d1, d2] }
  | _ => none }
def fnExactApplyRecordRow : OpenClaim := { program := "ytmdjcoeijlnloaa", sum := "91c9360628f96f4574ae6cd23ffa321a0e6808794b7e5ad28f0fd143e14d8770", func := "loop.example/g00308/laws.FnExactApplyRecord", spec := "fnExactApplyRecord", unfollowed := true, recurses := true, apart := false }
def FnExactApplyRecordSaid : Prop := fnExactApplyRecordRow.holds Try.pinned (OpenSpec.ofChange fnExactApplyRecordSpec)

/-- ITS FALSE NEIGHBOUR: 'it returns false'. Refute it at one input. -/
def fnExactApplyRecordWrong : ChangeSpec := { name := "fnExactApplyRecord", fn := fun _ => fun
  | [d1, d2] => { results := [.lit (.bool false)], args := [d1, d2] }
  | _ => none }
def FnExactApplyRecordWrongFalsely : Prop := fnExactApplyRecordRow.holds Try.pinned (OpenSpec.ofChange fnExactApplyRecordWrong)

/-- 'laws.FnRecords': WHATEVER THE INPUT: true; the input reads as it did. -/
def fnRecordsSpec : ChangeSpec := { name := "fnRecords", fn := fun _ => fun
  | [d1, d2] => { results := [.lit (.bool true)], args := [d1, d2] }
  | _ => none }
def fnRecordsRow : OpenClaim := { program := "ytmdjcoeijlnloaa", sum := "91c9360628f96f4574ae6cd23ffa321a0e6808794b7e5ad28f0fd143e14d8770", func := "loop.example/g00308/laws.FnRecords", spec := "fnRecords", inPlace := ["internal/abi.NoEscape"], unfollowed := true, recurses := true, apart := false }
def FnRecordsSaid : Prop := fnRecordsRow.holds Try.pinned (OpenSpec.ofChange fnRecordsSpec)

/-- ITS FALSE NEIGHBOUR: 'it returns false'. Refute it at one input. -/
def fnRecordsWrong : ChangeSpec := { name := "fnRecords", fn := fun _ => fun
  | [d1, d2] => { results := [.lit (.bool false)], args := [d1, d2] }
  | _ => none }
def FnRecordsWrongFalsely : Prop := fnRecordsRow.holds Try.pinned (OpenSpec.ofChange fnRecordsWrong)

/-- 'laws.FnExactRecover': WHATEVER THE INPUT: true; the input reads as it did. -/
def fnExactRecoverSpec : ChangeSpec := { name := "fnExactRecover", fn := fun _ => fun
  | [d] => { results := [.lit (.bool true)], args := [d] }
  | _ => none }
def fnExactRecoverRow : OpenClaim := { program := "ytmdjcoeijlnloaa", sum := "91c9360628f96f4574ae6cd23ffa321a0e6808794b7e5ad28f0fd143e14d8770", func := "loop.example/g00308/laws.FnExactRecover", spec := "fnExactRecover", apart := false }
def FnExactRecoverSaid : Prop := fnExactRecoverRow.holds Try.pinned (OpenSpec.ofChange fnExactRecoverSpec)

/-- ITS FALSE NEIGHBOUR: 'it returns false'. Refute it at one input. -/
def fnExactRecoverWrong : ChangeSpec := { name := "fnExactRecover", fn := fun _ => fun
  | [d] => { results := [.lit (.bool false)], args := [d] }
  | _ => none }
def FnExactRecoverWrongFalsely : Prop := fnExactRecoverRow.holds Try.pinned (OpenSpec.ofChange fnExactRecoverWrong)

/-- 'laws.FnCommands': WHATEVER THE INPUT: true; the input reads as it did. -/
def fnCommandsSpec : ChangeSpec := { name := "fnCommands", fn := fun _ => fun
  | [d1, d2] => { results := [.lit (.bool true)], args := [d1, d2] }
  | _ => none }
def fnCommandsRow : OpenClaim := { program := "ytmdjcoeijlnloaa", sum := "91c9360628f96f4574ae6cd23ffa321a0e6808794b7e5ad28f0fd143e14d8770", func := "loop.example/g00308/laws.FnCommands", spec := "fnCommands", inPlace := ["internal/abi.NoEscape"], unfollowed := true, recurses := true, apart := false }
def FnCommandsSaid : Prop := fnCommandsRow.holds Try.pinned (OpenSpec.ofChange fnCommandsSpec)

/-- ITS FALSE NEIGHBOUR: 'it returns false'. Refute it at one input. -/
def fnCommandsWrong : ChangeSpec := { name := "fnCommands", fn := fun _ => fun
  | [d1, d2] => { results := [.lit (.bool false)], args := [d1, d2] }
  | _ => none }
def FnCommandsWrongFalsely : Prop := fnCommandsRow.holds Try.pinned (OpenSpec.ofChange fnCommandsWrong)

/-- 'laws.FnTorn': WHATEVER THE INPUT: true; the input reads as it did. -/
def fnTornSpec : ChangeSpec := { name := "fnTorn", fn := fun _ => fun
  | [d1, d2] => { results := [.lit (.bool true)], args := [d1, d2] }
  | _ => none }
def fnTornRow : OpenClaim := { program := "ytmdjcoeijlnloaa", sum := "91c9360628f96f4574ae6cd23ffa321a0e6808794b7e5ad28f0fd143e14d8770", func := "loop.example/g00308/laws.FnTorn", spec := "fnTorn", inPlace := ["internal/abi.NoEscape"], unfollowed := true, recurses := true, apart := false }
def FnTornSaid : Prop := fnTornRow.holds Try.pinned (OpenSpec.ofChange fnTornSpec)

/-- ITS FALSE NEIGHBOUR: 'it returns false'. Refute it at one input. -/
def fnTornWrong : ChangeSpec := { name := "fnTorn", fn := fun _ => fun
  | [d1, d2] => { results := [.lit (.bool false)], args := [d1, d2] }
  | _ => none }
def FnTornWrongFalsely : Prop := fnTornRow.holds Try.pinned (OpenSpec.ofChange fnTornWrong)

/-- 'laws.FnExactNewCluster': WHATEVER THE INPUT: true; the input reads as it did. -/
def fnExactNewClusterSpec : ChangeSpec := { name := "fnExactNewCluster", fn := fun _ => fun
  | [d] => { results := [.lit (.bool true)], args := [d] }
  | _ => none }
def fnExactNewClusterRow : OpenClaim := { program := "ytmdjcoeijlnloaa", sum := "91c9360628f96f4574ae6cd23ffa321a0e6808794b7e5ad28f0fd143e14d8770", func := "loop.example/g00308/laws.FnExactNewCluster", spec := "fnExactNewCluster", apart := false }
def FnExactNewClusterSaid : Prop := fnExactNewClusterRow.holds Try.pinned (OpenSpec.ofChange fnExactNewClusterSpec)

/-- ITS FALSE NEIGHBOUR: 'it returns false'. Refute it at one input. -/
def fnExactNewClusterWrong : ChangeSpec := { name := "fnExactNewCluster", fn := fun _ => fun
  | [d] => { results := [.lit (.bool false)], args := [d] }
  | _ => none }
def FnExactNewClusterWrongFalsely : Prop := fnExactNewClusterRow.holds Try.pinned (OpenSpec.ofChange fnExactNewClusterWrong)

/-- 'laws.FnExactNodePropose': WHATEVER THE INPUT: true; the input reads as it did. -/
def fnExactNodeProposeSpec : ChangeSpec := { name := "fnExactNodePropose", fn := fun _ => fun
  | [d1, d2] => { results := [.lit (.bool true)], args := [d1, d2] }
  | _ => none }
def fnExactNodeProposeRow : OpenClaim := { program := "ytmdjcoeijlnloaa", sum := "91c9360628f96f4574ae6cd23ffa321a0e6808794b7e5ad28f0fd143e14d8770", func := "loop.example/g00308/laws.FnExactNodePropose", spec := "fnExactNodePropose", unfollowed := true, recurses := true, apart := false }
def FnExactNodeProposeSaid : Prop := fnExactNodeProposeRow.holds Try.pinned (OpenSpec.ofChange fnExactNodeProposeSpec)

/-- ITS FALSE NEIGHBOUR: 'it returns false'. Refute it at one input. -/
def fnExactNodeProposeWrong : ChangeSpec := { name := "fnExactNodePropose", fn := fun _ => fun
  | [d1, d2] => { results := [.lit (.bool false)], args := [d1, d2] }
  | _ => none }
def FnExactNodeProposeWrongFalsely : Prop := fnExactNodeProposeRow.holds Try.pinned (OpenSpec.ofChange fnExactNodeProposeWrong)

/- THE SECOND FORM. 'bulk': how many values and letters a reading holds, each counted each time it is reached (what is shared counts as often as it is met; a slice's spare places count too). A statement '..UptoSaid' is the law's where the arguments, and the package variables that the reading takes, are together of bulk at most 1048576: NARROWER than '..Said'. Prove '..Said' where nothing that the law and all that it calls make is longer than what came in: it says more and counts as full. Else prove '..UptoSaid'. A law counts once. -/
mutual
def uptoBulk {H : Type} : DataW H → Nat
  | .lit (.string bytes) => bytes.length + 1
  | .lit _ => 1
  | .nil => 1
  | .ptr d => uptoBulk d + 1
  | .slice elems spare => uptoBulkAll elems + uptoBulkAll spare + 1
  | .agg parts => uptoBulkAll parts + 1
  | .iface _ d => uptoBulk d + 1
  | .map entries => uptoBulkEntries entries + 1
  | .held _ => 1
def uptoBulkAll {H : Type} : List (DataW H) → Nat
  | [] => 0
  | d :: r => uptoBulk d + uptoBulkAll r
def uptoBulkEntries {H : Type} : List (Lit × DataW H) → Nat
  | [] => 0
  | x :: r => uptoBulkEntry x + uptoBulkEntries r
def uptoBulkEntry {H : Type} : Lit × DataW H → Nat
  | (.string bytes, d) => bytes.length + uptoBulk d + 1
  | (_, d) => uptoBulk d + 1
 end
def uptoSmall : (H : Type) → List (DataW H) → Bool := fun _ ds => decide (uptoBulkAll ds ≤ 1048576)
def OpenSpec.upto (s : _root_.Go.ChangeSpec) : _root_.Go.OpenSpec := { _root_.Go.OpenSpec.ofChange s with cond := some uptoSmall }

/-- 'laws.FnExactRecordsOf', WHERE WHAT IT READS IS OF BULK AT MOST 1048576: true; the input reads as it did. -/
def fnExactRecordsOfUptoRow : OpenClaim := { program := "ytmdjcoeijlnloaa", sum := "91c9360628f96f4574ae6cd23ffa321a0e6808794b7e5ad28f0fd143e14d8770", func := "loop.example/g00308/laws.FnExactRecordsOf", spec := "fnExactRecordsOf", inPlace := ["internal/abi.NoEscape"], unfollowed := true, recurses := true, apart := false, narrowed := true }
def FnExactRecordsOfUptoSaid : Prop := fnExactRecordsOfUptoRow.holds Try.pinned (OpenSpec.upto fnExactRecordsOfSpec)

/-- 'laws.FnExactApplyRecord', WHERE WHAT IT READS IS OF BULK AT MOST 1048576: true; the input reads as it did. -/
def fnExactApplyRecordUptoRow : OpenClaim := { program := "ytmdjcoeijlnloaa", sum := "91c9360628f96f4574ae6cd23ffa321a0e6808794b7e5ad28f0fd143e14d8770", func := "loop.example/g00308/laws.FnExactApplyRecord", spec := "fnExactApplyRecord", unfollowed := true, recurses := true, apart := false, narrowed := true }
def FnExactApplyRecordUptoSaid : Prop := fnExactApplyRecordUptoRow.holds Try.pinned (OpenSpec.upto fnExactApplyRecordSpec)

/-- 'laws.FnRecords', WHERE WHAT IT READS IS OF BULK AT MOST 1048576: true; the input reads as it did. -/
def fnRecordsUptoRow : OpenClaim := { program := "ytmdjcoeijlnloaa", sum := "91c9360628f96f4574ae6cd23ffa321a0e6808794b7e5ad28f0fd143e14d8770", func := "loop.example/g00308/laws.FnRecords", spec := "fnRecords", inPlace := ["internal/abi.NoEscape"], unfollowed := true, recurses := true, apart := false, narrowed := true }
def FnRecordsUptoSaid : Prop := fnRecordsUptoRow.holds Try.pinned (OpenSpec.upto fnRecordsSpec)

/-- 'laws.FnExactRecover', WHERE WHAT IT READS IS OF BULK AT MOST 1048576: true; the input reads as it did. -/
def fnExactRecoverUptoRow : OpenClaim := { program := "ytmdjcoeijlnloaa", sum := "91c9360628f96f4574ae6cd23ffa321a0e6808794b7e5ad28f0fd143e14d8770", func := "loop.example/g00308/laws.FnExactRecover", spec := "fnExactRecover", apart := false, narrowed := true }
def FnExactRecoverUptoSaid : Prop := fnExactRecoverUptoRow.holds Try.pinned (OpenSpec.upto fnExactRecoverSpec)

/-- 'laws.FnCommands', WHERE WHAT IT READS IS OF BULK AT MOST 1048576: true; the input reads as it did. -/
def fnCommandsUptoRow : OpenClaim := { program := "ytmdjcoeijlnloaa", sum := "91c9360628f96f4574ae6cd23ffa321a0e6808794b7e5ad28f0fd143e14d8770", func := "loop.example/g00308/laws.FnCommands", spec := "fnCommands", inPlace := ["internal/abi.NoEscape"], unfollowed := true, recurses := true, apart := false, narrowed := true }
def FnCommandsUptoSaid : Prop := fnCommandsUptoRow.holds Try.pinned (OpenSpec.upto fnCommandsSpec)

/-- 'laws.FnTorn', WHERE WHAT IT READS IS OF BULK AT MOST 1048576: true; the input reads as it did. -/
def fnTornUptoRow : OpenClaim := { program := "ytmdjcoeijlnloaa", sum := "91c9360628f96f4574ae6cd23ffa321a0e6808794b7e5ad28f0fd143e14d8770", func := "loop.example/g00308/laws.FnTorn", spec := "fnTorn", inPlace := ["internal/abi.NoEscape"], unfollowed := true, recurses := true, apart := false, narrowed := true }
def FnTornUptoSaid : Prop := fnTornUptoRow.holds Try.pinned (OpenSpec.upto fnTornSpec)

/-- 'laws.FnExactNewCluster', WHERE WHAT IT READS IS OF BULK AT MOST 1048576: true; the input reads as it did. -/
def fnExactNewClusterUptoRow : OpenClaim := { program := "ytmdjcoeijlnloaa", sum := "91c9360628f96f4574ae6cd23ffa321a0e6808794b7e5ad28f0fd143e14d8770", func := "loop.example/g00308/laws.FnExactNewCluster", spec := "fnExactNewCluster", apart := false, narrowed := true }
def FnExactNewClusterUptoSaid : Prop := fnExactNewClusterUptoRow.holds Try.pinned (OpenSpec.upto fnExactNewClusterSpec)

/-- 'laws.FnExactNodePropose', WHERE WHAT IT READS IS OF BULK AT MOST 1048576: true; the input reads as it did. -/
def fnExactNodeProposeUptoRow : OpenClaim := { program := "ytmdjcoeijlnloaa", sum := "91c9360628f96f4574ae6cd23ffa321a0e6808794b7e5ad28f0fd143e14d8770", func := "loop.example/g00308/laws.FnExactNodePropose", spec := "fnExactNodePropose", unfollowed := true, recurses := true, apart := false, narrowed := true }
def FnExactNodeProposeUptoSaid : Prop := fnExactNodeProposeUptoRow.holds Try.pinned (OpenSpec.upto fnExactNodeProposeSpec)

end Rows
end Go.Proofs.Ytmdjcoeijlnloaa
