/-
  No cell of these rows narrows 'for every input' (looked for: loops, veiled, ifaces, maps, wideKeys, modest, calm, conditions, laid).
  DERIVED. THE GIVEN ROWS OF THIS SEAT. 5 by the template 'for every input the law returns true; each argument reads behind the call as it read before'; 0 by the template 'total and deterministic' (their statements: YtckaccadgbcohaaTotals.lean).
  GIVEN WITH THE SEED: the statements are not yours to turn. If you find one false, say at which input.
  Laid BY PROGRAM, IN A SANDBOX (cutbox-rows.mjs): the forced cells as the released guide's own fill.sh prints them over the translation 9a91f1464da646c0… (all of the seat's roots in one cut). By AI agents, Wed Nov 11 2026. No macro, syntax, notation, axiom, sorry.
-/
import Derived.Test.YtckaccadgbcohaaChecked
import GoSem.Claim
import GoSem.ClaimJoined
import GoSem.ClaimMapViews
import Derived.JoinedTies
import Derived.KernelRfl
namespace Go.Proofs.Ytckaccadgbcohaa
/- THE CELL 'sum', in the pinned program and in every row, IS THE sha256 OF THE DUMP (.gsa) THAT YtckaccadgbcohaaProg.lean LOADS. Nothing in Lean hashes anything: it is a label: what it is worth is what the hold of that sum in a sandbox is worth. -/
noncomputable def Try.pinned : Pinned := { name := "ytckaccadgbcohaa", sum := "9a91f1464da646c090b4f624212771839eadfc0dd8e915a3c3d1341fefd67290", checked := Try.checked }
namespace Rows
def none {H : Type} : Left H := { results := [], args := [] }

/-- 'laws.FnExactClusterOK': WHATEVER THE INPUT: true; the input reads as it did. -/
def fnExactClusterOKSpec : ChangeSpec := { name := "fnExactClusterOK", fn := fun _ => fun
  | [d] => { results := [.lit (.bool true)], args := [d] }
  | _ => none }
def fnExactClusterOKRow : OpenClaim := { program := "ytckaccadgbcohaa", sum := "9a91f1464da646c090b4f624212771839eadfc0dd8e915a3c3d1341fefd67290", func := "loop.example/g00308/laws.FnExactClusterOK", spec := "fnExactClusterOK", unfollowed := true, recurses := true, apart := false }
def FnExactClusterOKSaid : Prop := fnExactClusterOKRow.holds Try.pinned (OpenSpec.ofChange fnExactClusterOKSpec)

/-- ITS FALSE NEIGHBOUR: 'it returns false'. Refute it at one input. -/
def fnExactClusterOKWrong : ChangeSpec := { name := "fnExactClusterOK", fn := fun _ => fun
  | [d] => { results := [.lit (.bool false)], args := [d] }
  | _ => none }
def FnExactClusterOKWrongFalsely : Prop := fnExactClusterOKRow.holds Try.pinned (OpenSpec.ofChange fnExactClusterOKWrong)

/-- 'laws.FnExactCommitsAgree': WHATEVER THE INPUT: true; the input reads as it did. -/
def fnExactCommitsAgreeSpec : ChangeSpec := { name := "fnExactCommitsAgree", fn := fun _ => fun
  | [d] => { results := [.lit (.bool true)], args := [d] }
  | _ => none }
def fnExactCommitsAgreeRow : OpenClaim := { program := "ytckaccadgbcohaa", sum := "9a91f1464da646c090b4f624212771839eadfc0dd8e915a3c3d1341fefd67290", func := "loop.example/g00308/laws.FnExactCommitsAgree", spec := "fnExactCommitsAgree", unfollowed := true, recurses := true, apart := false }
def FnExactCommitsAgreeSaid : Prop := fnExactCommitsAgreeRow.holds Try.pinned (OpenSpec.ofChange fnExactCommitsAgreeSpec)

/-- ITS FALSE NEIGHBOUR: 'it returns false'. Refute it at one input. -/
def fnExactCommitsAgreeWrong : ChangeSpec := { name := "fnExactCommitsAgree", fn := fun _ => fun
  | [d] => { results := [.lit (.bool false)], args := [d] }
  | _ => none }
def FnExactCommitsAgreeWrongFalsely : Prop := fnExactCommitsAgreeRow.holds Try.pinned (OpenSpec.ofChange fnExactCommitsAgreeWrong)

/-- 'laws.FnExactStoresHold': WHATEVER THE INPUT: true; the input reads as it did. -/
def fnExactStoresHoldSpec : ChangeSpec := { name := "fnExactStoresHold", fn := fun _ => fun
  | [d] => { results := [.lit (.bool true)], args := [d] }
  | _ => none }
def fnExactStoresHoldRow : OpenClaim := { program := "ytckaccadgbcohaa", sum := "9a91f1464da646c090b4f624212771839eadfc0dd8e915a3c3d1341fefd67290", func := "loop.example/g00308/laws.FnExactStoresHold", spec := "fnExactStoresHold", unfollowed := true, recurses := true, apart := false }
def FnExactStoresHoldSaid : Prop := fnExactStoresHoldRow.holds Try.pinned (OpenSpec.ofChange fnExactStoresHoldSpec)

/-- ITS FALSE NEIGHBOUR: 'it returns false'. Refute it at one input. -/
def fnExactStoresHoldWrong : ChangeSpec := { name := "fnExactStoresHold", fn := fun _ => fun
  | [d] => { results := [.lit (.bool false)], args := [d] }
  | _ => none }
def FnExactStoresHoldWrongFalsely : Prop := fnExactStoresHoldRow.holds Try.pinned (OpenSpec.ofChange fnExactStoresHoldWrong)

/-- 'laws.FnExactLongestDone': WHATEVER THE INPUT: true; the input reads as it did. -/
def fnExactLongestDoneSpec : ChangeSpec := { name := "fnExactLongestDone", fn := fun _ => fun
  | [d] => { results := [.lit (.bool true)], args := [d] }
  | _ => none }
def fnExactLongestDoneRow : OpenClaim := { program := "ytckaccadgbcohaa", sum := "9a91f1464da646c090b4f624212771839eadfc0dd8e915a3c3d1341fefd67290", func := "loop.example/g00308/laws.FnExactLongestDone", spec := "fnExactLongestDone", unfollowed := true, recurses := true, apart := false }
def FnExactLongestDoneSaid : Prop := fnExactLongestDoneRow.holds Try.pinned (OpenSpec.ofChange fnExactLongestDoneSpec)

/-- ITS FALSE NEIGHBOUR: 'it returns false'. Refute it at one input. -/
def fnExactLongestDoneWrong : ChangeSpec := { name := "fnExactLongestDone", fn := fun _ => fun
  | [d] => { results := [.lit (.bool false)], args := [d] }
  | _ => none }
def FnExactLongestDoneWrongFalsely : Prop := fnExactLongestDoneRow.holds Try.pinned (OpenSpec.ofChange fnExactLongestDoneWrong)

/-- 'laws.FnExactNewCluster': WHATEVER THE INPUT: true; the input reads as it did. -/
def fnExactNewClusterSpec : ChangeSpec := { name := "fnExactNewCluster", fn := fun _ => fun
  | [d] => { results := [.lit (.bool true)], args := [d] }
  | _ => none }
def fnExactNewClusterRow : OpenClaim := { program := "ytckaccadgbcohaa", sum := "9a91f1464da646c090b4f624212771839eadfc0dd8e915a3c3d1341fefd67290", func := "loop.example/g00308/laws.FnExactNewCluster", spec := "fnExactNewCluster", apart := false }
def FnExactNewClusterSaid : Prop := fnExactNewClusterRow.holds Try.pinned (OpenSpec.ofChange fnExactNewClusterSpec)

/-- ITS FALSE NEIGHBOUR: 'it returns false'. Refute it at one input. -/
def fnExactNewClusterWrong : ChangeSpec := { name := "fnExactNewCluster", fn := fun _ => fun
  | [d] => { results := [.lit (.bool false)], args := [d] }
  | _ => none }
def FnExactNewClusterWrongFalsely : Prop := fnExactNewClusterRow.holds Try.pinned (OpenSpec.ofChange fnExactNewClusterWrong)

/- THE SECOND FORM. 'bulk': how many values and letters a reading holds, each counted each time it is reached (what is shared counts as often as it is met; a slice's spare places count too). A statement '..UptoSaid' is the law's where the arguments, and the package variables that the reading takes, are together of bulk at most 1048576: NARROWER than '..Said'. Prove '..Said' where nothing that the law and all that it calls make is longer than what came in: it says more and counts as full. Else prove '..UptoSaid'. A law counts once. -/
mutual
def uptoBulk {H : Type} : DataW H → Nat
  | .lit (.string bytes) => bytes.length + 1
  | .lit _ => 1
  | .nil => 1
  | .ptr d => uptoBulk d + 1
  | .slice elems spare => uptoBulkAll elems + uptoBulkAll spare + 1
  | .agg parts => uptoBulkAll parts + 1
  | .iface _ d => uptoBulk d + 1
  | .map entries => uptoBulkEntries entries + 1
  | .held _ => 1
def uptoBulkAll {H : Type} : List (DataW H) → Nat
  | [] => 0
  | d :: r => uptoBulk d + uptoBulkAll r
def uptoBulkEntries {H : Type} : List (Lit × DataW H) → Nat
  | [] => 0
  | x :: r => uptoBulkEntry x + uptoBulkEntries r
def uptoBulkEntry {H : Type} : Lit × DataW H → Nat
  | (.string bytes, d) => bytes.length + uptoBulk d + 1
  | (_, d) => uptoBulk d + 1
 end
def uptoSmall : (H : Type) → List (DataW H) → Bool := fun _ ds => decide (uptoBulkAll ds ≤ 1048576)
def OpenSpec.upto (s : _root_.Go.ChangeSpec) : _root_.Go.OpenSpec := { _root_.Go.OpenSpec.ofChange s with cond := some uptoSmall }

/-- 'laws.FnExactClusterOK', WHERE WHAT IT READS IS OF BULK AT MOST 1048576: true; the input reads as it did. -/
def fnExactClusterOKUptoRow : OpenClaim := { program := "ytckaccadgbcohaa", sum := "9a91f1464da646c090b4f624212771839eadfc0dd8e915a3c3d1341fefd67290", func := "loop.example/g00308/laws.FnExactClusterOK", spec := "fnExactClusterOK", unfollowed := true, recurses := true, apart := false, narrowed := true }
def FnExactClusterOKUptoSaid : Prop := fnExactClusterOKUptoRow.holds Try.pinned (OpenSpec.upto fnExactClusterOKSpec)

/-- 'laws.FnExactCommitsAgree', WHERE WHAT IT READS IS OF BULK AT MOST 1048576: true; the input reads as it did. -/
def fnExactCommitsAgreeUptoRow : OpenClaim := { program := "ytckaccadgbcohaa", sum := "9a91f1464da646c090b4f624212771839eadfc0dd8e915a3c3d1341fefd67290", func := "loop.example/g00308/laws.FnExactCommitsAgree", spec := "fnExactCommitsAgree", unfollowed := true, recurses := true, apart := false, narrowed := true }
def FnExactCommitsAgreeUptoSaid : Prop := fnExactCommitsAgreeUptoRow.holds Try.pinned (OpenSpec.upto fnExactCommitsAgreeSpec)

/-- 'laws.FnExactStoresHold', WHERE WHAT IT READS IS OF BULK AT MOST 1048576: true; the input reads as it did. -/
def fnExactStoresHoldUptoRow : OpenClaim := { program := "ytckaccadgbcohaa", sum := "9a91f1464da646c090b4f624212771839eadfc0dd8e915a3c3d1341fefd67290", func := "loop.example/g00308/laws.FnExactStoresHold", spec := "fnExactStoresHold", unfollowed := true, recurses := true, apart := false, narrowed := true }
def FnExactStoresHoldUptoSaid : Prop := fnExactStoresHoldUptoRow.holds Try.pinned (OpenSpec.upto fnExactStoresHoldSpec)

/-- 'laws.FnExactLongestDone', WHERE WHAT IT READS IS OF BULK AT MOST 1048576: true; the input reads as it did. -/
def fnExactLongestDoneUptoRow : OpenClaim := { program := "ytckaccadgbcohaa", sum := "9a91f1464da646c090b4f624212771839eadfc0dd8e915a3c3d1341fefd67290", func := "loop.example/g00308/laws.FnExactLongestDone", spec := "fnExactLongestDone", unfollowed := true, recurses := true, apart := false, narrowed := true }
def FnExactLongestDoneUptoSaid : Prop := fnExactLongestDoneUptoRow.holds Try.pinned (OpenSpec.upto fnExactLongestDoneSpec)

/-- 'laws.FnExactNewCluster', WHERE WHAT IT READS IS OF BULK AT MOST 1048576: true; the input reads as it did. -/
def fnExactNewClusterUptoRow : OpenClaim := { program := "ytckaccadgbcohaa", sum := "9a91f1464da646c090b4f624212771839eadfc0dd8e915a3c3d1341fefd67290", func := "loop.example/g00308/laws.FnExactNewCluster", spec := "fnExactNewCluster", apart := false, narrowed := true }
def FnExactNewClusterUptoSaid : Prop := fnExactNewClusterUptoRow.holds Try.pinned (OpenSpec.upto fnExactNewClusterSpec)

end Rows
end Go.Proofs.Ytckaccadgbcohaa
