/-
  No cell of these rows narrows 'for every input' (looked for: loops, veiled, ifaces, maps, wideKeys, modest, calm, conditions, laid).
  DERIVED. THE GIVEN ROWS OF THIS SEAT. 5 by the template 'for every input the law returns true; each argument reads behind the call as it read before'; 0 by the template 'total and deterministic' (their statements: YtipgcjonidlloaaTotals.lean).
  GIVEN WITH THE SEED: the statements are not yours to turn. If you find one false, say at which input.
  Laid BY PROGRAM, IN A SANDBOX (cutbox-rows.mjs): the forced cells as the released guide's own fill.sh prints them over the translation f796f02325f0071b… (all of the seat's roots in one cut). By AI agents, Wed Nov 11 2026. No macro, syntax, notation, axiom, sorry.
-/
import Derived.Test.YtipgcjonidlloaaChecked
import GoSem.Claim
import GoSem.ClaimJoined
import GoSem.ClaimMapViews
import Derived.JoinedTies
import Derived.KernelRfl
namespace Go.Proofs.Ytipgcjonidlloaa
/- THE CELL 'sum', in the pinned program and in every row, IS THE sha256 OF THE DUMP (.gsa) THAT YtipgcjonidlloaaProg.lean LOADS. Nothing in Lean hashes anything: it is a label: what it is worth is what the hold of that sum in a sandbox is worth. -/
noncomputable def Try.pinned : Pinned := { name := "ytipgcjonidlloaa", sum := "f796f02325f0071b7f1c7c402fc95ce5b34abf1ba632af59e3793c0e76828464", checked := Try.checked }
namespace Rows
def none {H : Type} : Left H := { results := [], args := [] }

/-- 'laws.FnExactSurelyLitBefore': WHATEVER THE INPUT: true; the input reads as it did. -/
def fnExactSurelyLitBeforeSpec : ChangeSpec := { name := "fnExactSurelyLitBefore", fn := fun _ => fun
  | [d1, d2, d3, d4] => { results := [.lit (.bool true)], args := [d1, d2, d3, d4] }
  | _ => none }
def fnExactSurelyLitBeforeRow : OpenClaim := { program := "ytipgcjonidlloaa", sum := "f796f02325f0071b7f1c7c402fc95ce5b34abf1ba632af59e3793c0e76828464", func := "loop.example/g01049/laws.FnExactSurelyLitBefore", spec := "fnExactSurelyLitBefore", apart := false }
def FnExactSurelyLitBeforeSaid : Prop := fnExactSurelyLitBeforeRow.holds Try.pinned (OpenSpec.ofChange fnExactSurelyLitBeforeSpec)

/-- ITS FALSE NEIGHBOUR: 'it returns false'. Refute it at one input. -/
def fnExactSurelyLitBeforeWrong : ChangeSpec := { name := "fnExactSurelyLitBefore", fn := fun _ => fun
  | [d1, d2, d3, d4] => { results := [.lit (.bool false)], args := [d1, d2, d3, d4] }
  | _ => none }
def FnExactSurelyLitBeforeWrongFalsely : Prop := fnExactSurelyLitBeforeRow.holds Try.pinned (OpenSpec.ofChange fnExactSurelyLitBeforeWrong)

/-- 'laws.FnExactDarkNodes': WHATEVER THE INPUT: true; the input reads as it did. -/
def fnExactDarkNodesSpec : ChangeSpec := { name := "fnExactDarkNodes", fn := fun _ => fun
  | [d1, d2] => { results := [.lit (.bool true)], args := [d1, d2] }
  | _ => none }
def fnExactDarkNodesRow : OpenClaim := { program := "ytipgcjonidlloaa", sum := "f796f02325f0071b7f1c7c402fc95ce5b34abf1ba632af59e3793c0e76828464", func := "loop.example/g01049/laws.FnExactDarkNodes", spec := "fnExactDarkNodes", apart := false }
def FnExactDarkNodesSaid : Prop := fnExactDarkNodesRow.holds Try.pinned (OpenSpec.ofChange fnExactDarkNodesSpec)

/-- ITS FALSE NEIGHBOUR: 'it returns false'. Refute it at one input. -/
def fnExactDarkNodesWrong : ChangeSpec := { name := "fnExactDarkNodes", fn := fun _ => fun
  | [d1, d2] => { results := [.lit (.bool false)], args := [d1, d2] }
  | _ => none }
def FnExactDarkNodesWrongFalsely : Prop := fnExactDarkNodesRow.holds Try.pinned (OpenSpec.ofChange fnExactDarkNodesWrong)

/-- 'laws.FnExactIdleFuses': WHATEVER THE INPUT: true; the input reads as it did. -/
def fnExactIdleFusesSpec : ChangeSpec := { name := "fnExactIdleFuses", fn := fun _ => fun
  | [d1, d2] => { results := [.lit (.bool true)], args := [d1, d2] }
  | _ => none }
def fnExactIdleFusesRow : OpenClaim := { program := "ytipgcjonidlloaa", sum := "f796f02325f0071b7f1c7c402fc95ce5b34abf1ba632af59e3793c0e76828464", func := "loop.example/g01049/laws.FnExactIdleFuses", spec := "fnExactIdleFuses", apart := false }
def FnExactIdleFusesSaid : Prop := fnExactIdleFusesRow.holds Try.pinned (OpenSpec.ofChange fnExactIdleFusesSpec)

/-- ITS FALSE NEIGHBOUR: 'it returns false'. Refute it at one input. -/
def fnExactIdleFusesWrong : ChangeSpec := { name := "fnExactIdleFuses", fn := fun _ => fun
  | [d1, d2] => { results := [.lit (.bool false)], args := [d1, d2] }
  | _ => none }
def FnExactIdleFusesWrongFalsely : Prop := fnExactIdleFusesRow.holds Try.pinned (OpenSpec.ofChange fnExactIdleFusesWrong)

/-- 'laws.FnExactNeededFuses': WHATEVER THE INPUT: true; the input reads as it did. -/
def fnExactNeededFusesSpec : ChangeSpec := { name := "fnExactNeededFuses", fn := fun _ => fun
  | [d1, d2, d3] => { results := [.lit (.bool true)], args := [d1, d2, d3] }
  | _ => none }
def fnExactNeededFusesRow : OpenClaim := { program := "ytipgcjonidlloaa", sum := "f796f02325f0071b7f1c7c402fc95ce5b34abf1ba632af59e3793c0e76828464", func := "loop.example/g01049/laws.FnExactNeededFuses", spec := "fnExactNeededFuses", apart := false }
def FnExactNeededFusesSaid : Prop := fnExactNeededFusesRow.holds Try.pinned (OpenSpec.ofChange fnExactNeededFusesSpec)

/-- ITS FALSE NEIGHBOUR: 'it returns false'. Refute it at one input. -/
def fnExactNeededFusesWrong : ChangeSpec := { name := "fnExactNeededFuses", fn := fun _ => fun
  | [d1, d2, d3] => { results := [.lit (.bool false)], args := [d1, d2, d3] }
  | _ => none }
def FnExactNeededFusesWrongFalsely : Prop := fnExactNeededFusesRow.holds Try.pinned (OpenSpec.ofChange fnExactNeededFusesWrong)

/-- 'laws.FnExactFastestWay': WHATEVER THE INPUT: true; the input reads as it did. -/
def fnExactFastestWaySpec : ChangeSpec := { name := "fnExactFastestWay", fn := fun _ => fun
  | [d1, d2, d3] => { results := [.lit (.bool true)], args := [d1, d2, d3] }
  | _ => none }
def fnExactFastestWayRow : OpenClaim := { program := "ytipgcjonidlloaa", sum := "f796f02325f0071b7f1c7c402fc95ce5b34abf1ba632af59e3793c0e76828464", func := "loop.example/g01049/laws.FnExactFastestWay", spec := "fnExactFastestWay", recurses := true, apart := false }
def FnExactFastestWaySaid : Prop := fnExactFastestWayRow.holds Try.pinned (OpenSpec.ofChange fnExactFastestWaySpec)

/-- ITS FALSE NEIGHBOUR: 'it returns false'. Refute it at one input. -/
def fnExactFastestWayWrong : ChangeSpec := { name := "fnExactFastestWay", fn := fun _ => fun
  | [d1, d2, d3] => { results := [.lit (.bool false)], args := [d1, d2, d3] }
  | _ => none }
def FnExactFastestWayWrongFalsely : Prop := fnExactFastestWayRow.holds Try.pinned (OpenSpec.ofChange fnExactFastestWayWrong)

/- THE SECOND FORM. 'bulk': how many values and letters a reading holds, each counted each time it is reached (what is shared counts as often as it is met; a slice's spare places count too). A statement '..UptoSaid' is the law's where the arguments, and the package variables that the reading takes, are together of bulk at most 1048576: NARROWER than '..Said'. Prove '..Said' where nothing that the law and all that it calls make is longer than what came in: it says more and counts as full. Else prove '..UptoSaid'. A law counts once. -/
mutual
def uptoBulk {H : Type} : DataW H → Nat
  | .lit (.string bytes) => bytes.length + 1
  | .lit _ => 1
  | .nil => 1
  | .ptr d => uptoBulk d + 1
  | .slice elems spare => uptoBulkAll elems + uptoBulkAll spare + 1
  | .agg parts => uptoBulkAll parts + 1
  | .iface _ d => uptoBulk d + 1
  | .map entries => uptoBulkEntries entries + 1
  | .held _ => 1
def uptoBulkAll {H : Type} : List (DataW H) → Nat
  | [] => 0
  | d :: r => uptoBulk d + uptoBulkAll r
def uptoBulkEntries {H : Type} : List (Lit × DataW H) → Nat
  | [] => 0
  | x :: r => uptoBulkEntry x + uptoBulkEntries r
def uptoBulkEntry {H : Type} : Lit × DataW H → Nat
  | (.string bytes, d) => bytes.length + uptoBulk d + 1
  | (_, d) => uptoBulk d + 1
 end
def uptoSmall : (H : Type) → List (DataW H) → Bool := fun _ ds => decide (uptoBulkAll ds ≤ 1048576)
def OpenSpec.upto (s : _root_.Go.ChangeSpec) : _root_.Go.OpenSpec := { _root_.Go.OpenSpec.ofChange s with cond := some uptoSmall }

/-- 'laws.FnExactSurelyLitBefore', WHERE WHAT IT READS IS OF BULK AT MOST 1048576: true; the input reads as it did. -/
def fnExactSurelyLitBeforeUptoRow : OpenClaim := { program := "ytipgcjonidlloaa", sum := "f796f02325f0071b7f1c7c402fc95ce5b34abf1ba632af59e3793c0e76828464", func := "loop.example/g01049/laws.FnExactSurelyLitBefore", spec := "fnExactSurelyLitBefore", apart := false, narrowed := true }
def FnExactSurelyLitBeforeUptoSaid : Prop := fnExactSurelyLitBeforeUptoRow.holds Try.pinned (OpenSpec.upto fnExactSurelyLitBeforeSpec)

/-- 'laws.FnExactDarkNodes', WHERE WHAT IT READS IS OF BULK AT MOST 1048576: true; the input reads as it did. -/
def fnExactDarkNodesUptoRow : OpenClaim := { program := "ytipgcjonidlloaa", sum := "f796f02325f0071b7f1c7c402fc95ce5b34abf1ba632af59e3793c0e76828464", func := "loop.example/g01049/laws.FnExactDarkNodes", spec := "fnExactDarkNodes", apart := false, narrowed := true }
def FnExactDarkNodesUptoSaid : Prop := fnExactDarkNodesUptoRow.holds Try.pinned (OpenSpec.upto fnExactDarkNodesSpec)

/-- 'laws.FnExactIdleFuses', WHERE WHAT IT READS IS OF BULK AT MOST 1048576: true; the input reads as it did. -/
def fnExactIdleFusesUptoRow : OpenClaim := { program := "ytipgcjonidlloaa", sum := "f796f02325f0071b7f1c7c402fc95ce5b34abf1ba632af59e3793c0e76828464", func := "loop.example/g01049/laws.FnExactIdleFuses", spec := "fnExactIdleFuses", apart := false, narrowed := true }
def FnExactIdleFusesUptoSaid : Prop := fnExactIdleFusesUptoRow.holds Try.pinned (OpenSpec.upto fnExactIdleFusesSpec)

/-- 'laws.FnExactNeededFuses', WHERE WHAT IT READS IS OF BULK AT MOST 1048576: true; the input reads as it did. -/
def fnExactNeededFusesUptoRow : OpenClaim := { program := "ytipgcjonidlloaa", sum := "f796f02325f0071b7f1c7c402fc95ce5b34abf1ba632af59e3793c0e76828464", func := "loop.example/g01049/laws.FnExactNeededFuses", spec := "fnExactNeededFuses", apart := false, narrowed := true }
def FnExactNeededFusesUptoSaid : Prop := fnExactNeededFusesUptoRow.holds Try.pinned (OpenSpec.upto fnExactNeededFusesSpec)

/-- 'laws.FnExactFastestWay', WHERE WHAT IT READS IS OF BULK AT MOST 1048576: true; the input reads as it did. -/
def fnExactFastestWayUptoRow : OpenClaim := { program := "ytipgcjonidlloaa", sum := "f796f02325f0071b7f1c7c402fc95ce5b34abf1ba632af59e3793c0e76828464", func := "loop.example/g01049/laws.FnExactFastestWay", spec := "fnExactFastestWay", recurses := true, apart := false, narrowed := true }
def FnExactFastestWayUptoSaid : Prop := fnExactFastestWayUptoRow.holds Try.pinned (OpenSpec.upto fnExactFastestWaySpec)

end Rows
end Go.Proofs.Ytipgcjonidlloaa
