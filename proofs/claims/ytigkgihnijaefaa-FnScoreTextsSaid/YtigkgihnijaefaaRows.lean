/-
  No cell of these rows narrows 'for every input' (looked for: loops, veiled, ifaces, maps, wideKeys, modest, calm, conditions, laid).
  DERIVED. THE GIVEN ROWS OF THIS SEAT. 3 by the template 'for every input the law returns true; each argument reads behind the call as it read before'; 0 by the template 'total and deterministic' (their statements: YtigkgihnijaefaaTotals.lean).
  GIVEN WITH THE SEED: the statements are not yours to turn. If you find one false, say at which input.
  Laid BY PROGRAM, IN A SANDBOX (cutbox-rows.mjs): the forced cells as the released guide's own fill.sh prints them over the translation 406587d72c075199… (all of the seat's roots in one cut). By AI agents, Wed Nov 11 2026. No macro, syntax, notation, axiom, sorry.
-/
import Derived.Test.YtigkgihnijaefaaChecked
import GoSem.Claim
import GoSem.ClaimJoined
import GoSem.ClaimMapViews
import Derived.JoinedTies
import Derived.KernelRfl
namespace Go.Proofs.Ytigkgihnijaefaa
/- THE CELL 'sum', in the pinned program and in every row, IS THE sha256 OF THE DUMP (.gsa) THAT YtigkgihnijaefaaProg.lean LOADS. Nothing in Lean hashes anything: it is a label: what it is worth is what the hold of that sum in a sandbox is worth. -/
noncomputable def Try.pinned : Pinned := { name := "ytigkgihnijaefaa", sum := "406587d72c075199841f77fcd6ac9c630aae58ce9fb76aaaf0089f915c102e6d", checked := Try.checked }
namespace Rows
def none {H : Type} : Left H := { results := [], args := [] }

/-- 'laws.FnStretched': WHATEVER THE INPUT: true; the input reads as it did. -/
def fnStretchedSpec : ChangeSpec := { name := "fnStretched", fn := fun _ => fun
  | [d] => { results := [.lit (.bool true)], args := [d] }
  | _ => none }
def fnStretchedRow : OpenClaim := { program := "ytigkgihnijaefaa", sum := "406587d72c075199841f77fcd6ac9c630aae58ce9fb76aaaf0089f915c102e6d", func := "loop.example/g01049/laws.FnStretched", spec := "fnStretched", apart := false }
def FnStretchedSaid : Prop := fnStretchedRow.holds Try.pinned (OpenSpec.ofChange fnStretchedSpec)

/-- ITS FALSE NEIGHBOUR: 'it returns false'. Refute it at one input. -/
def fnStretchedWrong : ChangeSpec := { name := "fnStretched", fn := fun _ => fun
  | [d] => { results := [.lit (.bool false)], args := [d] }
  | _ => none }
def FnStretchedWrongFalsely : Prop := fnStretchedRow.holds Try.pinned (OpenSpec.ofChange fnStretchedWrong)

/-- 'laws.FnBeats': WHATEVER THE INPUT: true; the input reads as it did. -/
def fnBeatsSpec : ChangeSpec := { name := "fnBeats", fn := fun _ => fun
  | [d] => { results := [.lit (.bool true)], args := [d] }
  | _ => none }
def fnBeatsRow : OpenClaim := { program := "ytigkgihnijaefaa", sum := "406587d72c075199841f77fcd6ac9c630aae58ce9fb76aaaf0089f915c102e6d", func := "loop.example/g01049/laws.FnBeats", spec := "fnBeats", apart := false }
def FnBeatsSaid : Prop := fnBeatsRow.holds Try.pinned (OpenSpec.ofChange fnBeatsSpec)

/-- ITS FALSE NEIGHBOUR: 'it returns false'. Refute it at one input. -/
def fnBeatsWrong : ChangeSpec := { name := "fnBeats", fn := fun _ => fun
  | [d] => { results := [.lit (.bool false)], args := [d] }
  | _ => none }
def FnBeatsWrongFalsely : Prop := fnBeatsRow.holds Try.pinned (OpenSpec.ofChange fnBeatsWrong)

/-- 'laws.FnScoreTexts': WHATEVER THE INPUT: true; the input reads as it did. -/
def fnScoreTextsSpec : ChangeSpec := { name := "fnScoreTexts", fn := fun _ => fun
  | [d] => { results := [.lit (.bool true)], args := [d] }
  | _ => none }
def fnScoreTextsRow : OpenClaim := { program := "ytigkgihnijaefaa", sum := "406587d72c075199841f77fcd6ac9c630aae58ce9fb76aaaf0089f915c102e6d", func := "loop.example/g01049/laws.FnScoreTexts", spec := "fnScoreTexts", recurses := true, apart := false }
def FnScoreTextsSaid : Prop := fnScoreTextsRow.holds Try.pinned (OpenSpec.ofChange fnScoreTextsSpec)

/-- ITS FALSE NEIGHBOUR: 'it returns false'. Refute it at one input. -/
def fnScoreTextsWrong : ChangeSpec := { name := "fnScoreTexts", fn := fun _ => fun
  | [d] => { results := [.lit (.bool false)], args := [d] }
  | _ => none }
def FnScoreTextsWrongFalsely : Prop := fnScoreTextsRow.holds Try.pinned (OpenSpec.ofChange fnScoreTextsWrong)

/- THE SECOND FORM. 'bulk': how many values and letters a reading holds, each counted each time it is reached (what is shared counts as often as it is met; a slice's spare places count too). A statement '..UptoSaid' is the law's where the arguments, and the package variables that the reading takes, are together of bulk at most 1048576: NARROWER than '..Said'. Prove '..Said' where nothing that the law and all that it calls make is longer than what came in: it says more and counts as full. Else prove '..UptoSaid'. A law counts once. -/
mutual
def uptoBulk {H : Type} : DataW H → Nat
  | .lit (.string bytes) => bytes.length + 1
  | .lit _ => 1
  | .nil => 1
  | .ptr d => uptoBulk d + 1
  | .slice elems spare => uptoBulkAll elems + uptoBulkAll spare + 1
  | .agg parts => uptoBulkAll parts + 1
  | .iface _ d => uptoBulk d + 1
  | .map entries => uptoBulkEntries entries + 1
  | .held _ => 1
def uptoBulkAll {H : Type} : List (DataW H) → Nat
  | [] => 0
  | d :: r => uptoBulk d + uptoBulkAll r
def uptoBulkEntries {H : Type} : List (Lit × DataW H) → Nat
  | [] => 0
  | x :: r => uptoBulkEntry x + uptoBulkEntries r
def uptoBulkEntry {H : Type} : Lit × DataW H → Nat
  | (.string bytes, d) => bytes.length + uptoBulk d + 1
  | (_, d) => uptoBulk d + 1
 end
def uptoSmall : (H : Type) → List (DataW H) → Bool := fun _ ds => decide (uptoBulkAll ds ≤ 1048576)
def OpenSpec.upto (s : _root_.Go.ChangeSpec) : _root_.Go.OpenSpec := { _root_.Go.OpenSpec.ofChange s with cond := some uptoSmall }

/-- 'laws.FnStretched', WHERE WHAT IT READS IS OF BULK AT MOST 1048576: true; the input reads as it did. -/
def fnStretchedUptoRow : OpenClaim := { program := "ytigkgihnijaefaa", sum := "406587d72c075199841f77fcd6ac9c630aae58ce9fb76aaaf0089f915c102e6d", func := "loop.example/g01049/laws.FnStretched", spec := "fnStretched", apart := false, narrowed := true }
def FnStretchedUptoSaid : Prop := fnStretchedUptoRow.holds Try.pinned (OpenSpec.upto fnStretchedSpec)

/-- 'laws.FnBeats', WHERE WHAT IT READS IS OF BULK AT MOST 1048576: true; the input reads as it did. -/
def fnBeatsUptoRow : OpenClaim := { program := "ytigkgihnijaefaa", sum := "406587d72c075199841f77fcd6ac9c630aae58ce9fb76aaaf0089f915c102e6d", func := "loop.example/g01049/laws.FnBeats", spec := "fnBeats", apart := false, narrowed := true }
def FnBeatsUptoSaid : Prop := fnBeatsUptoRow.holds Try.pinned (OpenSpec.upto fnBeatsSpec)

/-- 'laws.FnScoreTexts', WHERE WHAT IT READS IS OF BULK AT MOST 1048576: true; the input reads as it did. -/
def fnScoreTextsUptoRow : OpenClaim := { program := "ytigkgihnijaefaa", sum := "406587d72c075199841f77fcd6ac9c630aae58ce9fb76aaaf0089f915c102e6d", func := "loop.example/g01049/laws.FnScoreTexts", spec := "fnScoreTexts", recurses := true, apart := false, narrowed := true }
def FnScoreTextsUptoSaid : Prop := fnScoreTextsUptoRow.holds Try.pinned (OpenSpec.upto fnScoreTextsSpec)

end Rows
end Go.Proofs.Ytigkgihnijaefaa
