/-
  No cell of these rows narrows 'for every input' (looked for: loops, veiled, ifaces, maps, wideKeys, modest, calm, conditions, laid).
  DERIVED. THE GIVEN ROWS OF THIS SEAT. 5 by the template 'for every input the law returns true; each argument reads behind the call as it read before'; 0 by the template 'total and deterministic' (their statements: YtemkongfmceedaaTotals.lean).
  GIVEN WITH THE SEED: the statements are not yours to turn. If you find one false, say at which input.
  Laid BY PROGRAM, IN A SANDBOX (cutbox-rows.mjs): the forced cells as the released guide's own fill.sh prints them over the translation 5a2e960f5f379402… (all of the seat's roots in one cut). By AI agents, Wed Nov 11 2026. No macro, syntax, notation, axiom, sorry.
-/
import Derived.Test.YtemkongfmceedaaChecked
import GoSem.Claim
import GoSem.ClaimJoined
import GoSem.ClaimMapViews
import Derived.JoinedTies
import Derived.KernelRfl
namespace Go.Proofs.Ytemkongfmceedaa
/- THE CELL 'sum', in the pinned program and in every row, IS THE sha256 OF THE DUMP (.gsa) THAT YtemkongfmceedaaProg.lean LOADS. Nothing in Lean hashes anything: it is a label: what it is worth is what the hold of that sum in a sandbox is worth. -/
noncomputable def Try.pinned : Pinned := { name := "ytemkongfmceedaa", sum := "5a2e960f5f3794026f10325245d9694db3de1122e6c4298e7985ff30bc869771", checked := Try.checked }
namespace Rows
def none {H : Type} : Left H := { results := [], args := [] }

/-- 'laws.FnExactStripOf': WHATEVER THE INPUT: true; the input reads as it did. -/
def fnExactStripOfSpec : ChangeSpec := { name := "fnExactStripOf", fn := fun _ => fun
  | [d1, d2, d3] => { results := [.lit (.bool true)], args := [d1, d2, d3] }
  | _ => none }
def fnExactStripOfRow : OpenClaim := { program := "ytemkongfmceedaa", sum := "5a2e960f5f3794026f10325245d9694db3de1122e6c4298e7985ff30bc869771", func := "loop.example/g01049/laws.FnExactStripOf", spec := "fnExactStripOf", apart := false }
def FnExactStripOfSaid : Prop := fnExactStripOfRow.holds Try.pinned (OpenSpec.ofChange fnExactStripOfSpec)

/-- ITS FALSE NEIGHBOUR: 'it returns false'. Refute it at one input. -/
def fnExactStripOfWrong : ChangeSpec := { name := "fnExactStripOf", fn := fun _ => fun
  | [d1, d2, d3] => { results := [.lit (.bool false)], args := [d1, d2, d3] }
  | _ => none }
def FnExactStripOfWrongFalsely : Prop := fnExactStripOfRow.holds Try.pinned (OpenSpec.ofChange fnExactStripOfWrong)

/-- 'laws.FnExactMostWind': WHATEVER THE INPUT: true; the input reads as it did. -/
def fnExactMostWindSpec : ChangeSpec := { name := "fnExactMostWind", fn := fun _ => fun
  | [d1, d2] => { results := [.lit (.bool true)], args := [d1, d2] }
  | _ => none }
def fnExactMostWindRow : OpenClaim := { program := "ytemkongfmceedaa", sum := "5a2e960f5f3794026f10325245d9694db3de1122e6c4298e7985ff30bc869771", func := "loop.example/g01049/laws.FnExactMostWind", spec := "fnExactMostWind", apart := false }
def FnExactMostWindSaid : Prop := fnExactMostWindRow.holds Try.pinned (OpenSpec.ofChange fnExactMostWindSpec)

/-- ITS FALSE NEIGHBOUR: 'it returns false'. Refute it at one input. -/
def fnExactMostWindWrong : ChangeSpec := { name := "fnExactMostWind", fn := fun _ => fun
  | [d1, d2] => { results := [.lit (.bool false)], args := [d1, d2] }
  | _ => none }
def FnExactMostWindWrongFalsely : Prop := fnExactMostWindRow.holds Try.pinned (OpenSpec.ofChange fnExactMostWindWrong)

/-- 'laws.FnExactIsSpared': WHATEVER THE INPUT: true; the input reads as it did. -/
def fnExactIsSparedSpec : ChangeSpec := { name := "fnExactIsSpared", fn := fun _ => fun
  | [d1, d2, d3, d4] => { results := [.lit (.bool true)], args := [d1, d2, d3, d4] }
  | _ => none }
def fnExactIsSparedRow : OpenClaim := { program := "ytemkongfmceedaa", sum := "5a2e960f5f3794026f10325245d9694db3de1122e6c4298e7985ff30bc869771", func := "loop.example/g01049/laws.FnExactIsSpared", spec := "fnExactIsSpared", apart := false }
def FnExactIsSparedSaid : Prop := fnExactIsSparedRow.holds Try.pinned (OpenSpec.ofChange fnExactIsSparedSpec)

/-- ITS FALSE NEIGHBOUR: 'it returns false'. Refute it at one input. -/
def fnExactIsSparedWrong : ChangeSpec := { name := "fnExactIsSpared", fn := fun _ => fun
  | [d1, d2, d3, d4] => { results := [.lit (.bool false)], args := [d1, d2, d3, d4] }
  | _ => none }
def FnExactIsSparedWrongFalsely : Prop := fnExactIsSparedRow.holds Try.pinned (OpenSpec.ofChange fnExactIsSparedWrong)

/-- 'laws.FnExactStripOfAll': WHATEVER THE INPUT: true; the input reads as it did. -/
def fnExactStripOfAllSpec : ChangeSpec := { name := "fnExactStripOfAll", fn := fun _ => fun
  | [d1, d2, d3] => { results := [.lit (.bool true)], args := [d1, d2, d3] }
  | _ => none }
def fnExactStripOfAllRow : OpenClaim := { program := "ytemkongfmceedaa", sum := "5a2e960f5f3794026f10325245d9694db3de1122e6c4298e7985ff30bc869771", func := "loop.example/g01049/laws.FnExactStripOfAll", spec := "fnExactStripOfAll", apart := false }
def FnExactStripOfAllSaid : Prop := fnExactStripOfAllRow.holds Try.pinned (OpenSpec.ofChange fnExactStripOfAllSpec)

/-- ITS FALSE NEIGHBOUR: 'it returns false'. Refute it at one input. -/
def fnExactStripOfAllWrong : ChangeSpec := { name := "fnExactStripOfAll", fn := fun _ => fun
  | [d1, d2, d3] => { results := [.lit (.bool false)], args := [d1, d2, d3] }
  | _ => none }
def FnExactStripOfAllWrongFalsely : Prop := fnExactStripOfAllRow.holds Try.pinned (OpenSpec.ofChange fnExactStripOfAllWrong)

/-- 'laws.FnExactWorstShot': WHATEVER THE INPUT: true; the input reads as it did. -/
def fnExactWorstShotSpec : ChangeSpec := { name := "fnExactWorstShot", fn := fun _ => fun
  | [d1, d2, d3] => { results := [.lit (.bool true)], args := [d1, d2, d3] }
  | _ => none }
def fnExactWorstShotRow : OpenClaim := { program := "ytemkongfmceedaa", sum := "5a2e960f5f3794026f10325245d9694db3de1122e6c4298e7985ff30bc869771", func := "loop.example/g01049/laws.FnExactWorstShot", spec := "fnExactWorstShot", apart := false }
def FnExactWorstShotSaid : Prop := fnExactWorstShotRow.holds Try.pinned (OpenSpec.ofChange fnExactWorstShotSpec)

/-- ITS FALSE NEIGHBOUR: 'it returns false'. Refute it at one input. -/
def fnExactWorstShotWrong : ChangeSpec := { name := "fnExactWorstShot", fn := fun _ => fun
  | [d1, d2, d3] => { results := [.lit (.bool false)], args := [d1, d2, d3] }
  | _ => none }
def FnExactWorstShotWrongFalsely : Prop := fnExactWorstShotRow.holds Try.pinned (OpenSpec.ofChange fnExactWorstShotWrong)

/- THE SECOND FORM. 'bulk': how many values and letters a reading holds, each counted each time it is reached (what is shared counts as often as it is met; a slice's spare places count too). A statement '..UptoSaid' is the law's where the arguments, and the package variables that the reading takes, are together of bulk at most 1048576: NARROWER than '..Said'. Prove '..Said' where nothing that the law and all that it calls make is longer than what came in: it says more and counts as full. Else prove '..UptoSaid'. A law counts once. -/
mutual
def uptoBulk {H : Type} : DataW H → Nat
  | .lit (.string bytes) => bytes.length + 1
  | .lit _ => 1
  | .nil => 1
  | .ptr d => uptoBulk d + 1
  | .slice elems spare => uptoBulkAll elems + uptoBulkAll spare + 1
  | .agg parts => uptoBulkAll parts + 1
  | .iface _ d => uptoBulk d + 1
  | .map entries => uptoBulkEntries entries + 1
  | .held _ => 1
def uptoBulkAll {H : Type} : List (DataW H) → Nat
  | [] => 0
  | d :: r => uptoBulk d + uptoBulkAll r
def uptoBulkEntries {H : Type} : List (Lit × DataW H) → Nat
  | [] => 0
  | x :: r => uptoBulkEntry x + uptoBulkEntries r
def uptoBulkEntry {H : Type} : Lit × DataW H → Nat
  | (.string bytes, d) => bytes.length + uptoBulk d + 1
  | (_, d) => uptoBulk d + 1
 end
def uptoSmall : (H : Type) → List (DataW H) → Bool := fun _ ds => decide (uptoBulkAll ds ≤ 1048576)
def OpenSpec.upto (s : _root_.Go.ChangeSpec) : _root_.Go.OpenSpec := { _root_.Go.OpenSpec.ofChange s with cond := some uptoSmall }

/-- 'laws.FnExactStripOf', WHERE WHAT IT READS IS OF BULK AT MOST 1048576: true; the input reads as it did. -/
def fnExactStripOfUptoRow : OpenClaim := { program := "ytemkongfmceedaa", sum := "5a2e960f5f3794026f10325245d9694db3de1122e6c4298e7985ff30bc869771", func := "loop.example/g01049/laws.FnExactStripOf", spec := "fnExactStripOf", apart := false, narrowed := true }
def FnExactStripOfUptoSaid : Prop := fnExactStripOfUptoRow.holds Try.pinned (OpenSpec.upto fnExactStripOfSpec)

/-- 'laws.FnExactMostWind', WHERE WHAT IT READS IS OF BULK AT MOST 1048576: true; the input reads as it did. -/
def fnExactMostWindUptoRow : OpenClaim := { program := "ytemkongfmceedaa", sum := "5a2e960f5f3794026f10325245d9694db3de1122e6c4298e7985ff30bc869771", func := "loop.example/g01049/laws.FnExactMostWind", spec := "fnExactMostWind", apart := false, narrowed := true }
def FnExactMostWindUptoSaid : Prop := fnExactMostWindUptoRow.holds Try.pinned (OpenSpec.upto fnExactMostWindSpec)

/-- 'laws.FnExactIsSpared', WHERE WHAT IT READS IS OF BULK AT MOST 1048576: true; the input reads as it did. -/
def fnExactIsSparedUptoRow : OpenClaim := { program := "ytemkongfmceedaa", sum := "5a2e960f5f3794026f10325245d9694db3de1122e6c4298e7985ff30bc869771", func := "loop.example/g01049/laws.FnExactIsSpared", spec := "fnExactIsSpared", apart := false, narrowed := true }
def FnExactIsSparedUptoSaid : Prop := fnExactIsSparedUptoRow.holds Try.pinned (OpenSpec.upto fnExactIsSparedSpec)

/-- 'laws.FnExactStripOfAll', WHERE WHAT IT READS IS OF BULK AT MOST 1048576: true; the input reads as it did. -/
def fnExactStripOfAllUptoRow : OpenClaim := { program := "ytemkongfmceedaa", sum := "5a2e960f5f3794026f10325245d9694db3de1122e6c4298e7985ff30bc869771", func := "loop.example/g01049/laws.FnExactStripOfAll", spec := "fnExactStripOfAll", apart := false, narrowed := true }
def FnExactStripOfAllUptoSaid : Prop := fnExactStripOfAllUptoRow.holds Try.pinned (OpenSpec.upto fnExactStripOfAllSpec)

/-- 'laws.FnExactWorstShot', WHERE WHAT IT READS IS OF BULK AT MOST 1048576: true; the input reads as it did. -/
def fnExactWorstShotUptoRow : OpenClaim := { program := "ytemkongfmceedaa", sum := "5a2e960f5f3794026f10325245d9694db3de1122e6c4298e7985ff30bc869771", func := "loop.example/g01049/laws.FnExactWorstShot", spec := "fnExactWorstShot", apart := false, narrowed := true }
def FnExactWorstShotUptoSaid : Prop := fnExactWorstShotUptoRow.holds Try.pinned (OpenSpec.upto fnExactWorstShotSpec)

end Rows
end Go.Proofs.Ytemkongfmceedaa
