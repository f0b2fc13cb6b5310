/-
  No cell of these rows narrows 'for every input' (looked for: loops, veiled, ifaces, maps, wideKeys, modest, calm, conditions, laid).
  DERIVED. THE GIVEN ROWS OF THIS SEAT. 6 by the template 'for every input the law returns true; each argument reads behind the call as it read before'; 0 by the template 'total and deterministic' (their statements: YtfhpgeohgdfgdaaTotals.lean).
  GIVEN WITH THE SEED: the statements are not yours to turn. If you find one false, say at which input.
  Laid BY PROGRAM, IN A SANDBOX (cutbox-rows.mjs): the forced cells as the released guide's own fill.sh prints them over the translation 99d897cdf73b4a38… (all of the seat's roots in one cut). By AI agents, Wed Nov 11 2026. No macro, syntax, notation, axiom, sorry.
-/
import Derived.Test.YtfhpgeohgdfgdaaChecked
import GoSem.Claim
import GoSem.ClaimJoined
import GoSem.ClaimMapViews
import Derived.JoinedTies
import Derived.KernelRfl
namespace Go.Proofs.Ytfhpgeohgdfgdaa
/- THE CELL 'sum', in the pinned program and in every row, IS THE sha256 OF THE DUMP (.gsa) THAT YtfhpgeohgdfgdaaProg.lean LOADS. Nothing in Lean hashes anything: it is a label: what it is worth is what the hold of that sum in a sandbox is worth. -/
noncomputable def Try.pinned : Pinned := { name := "ytfhpgeohgdfgdaa", sum := "99d897cdf73b4a38e4fc82120ff78b29dd6380195757f31107df00f1f6cf1aab", checked := Try.checked }
namespace Rows
def none {H : Type} : Left H := { results := [], args := [] }

/-- 'laws.FnExactBeatsBetween': WHATEVER THE INPUT: true; the input reads as it did. -/
def fnExactBeatsBetweenSpec : ChangeSpec := { name := "fnExactBeatsBetween", fn := fun _ => fun
  | [d1, d2, d3] => { results := [.lit (.bool true)], args := [d1, d2, d3] }
  | _ => none }
def fnExactBeatsBetweenRow : OpenClaim := { program := "ytfhpgeohgdfgdaa", sum := "99d897cdf73b4a38e4fc82120ff78b29dd6380195757f31107df00f1f6cf1aab", func := "loop.example/g01049/laws.FnExactBeatsBetween", spec := "fnExactBeatsBetween", apart := false }
def FnExactBeatsBetweenSaid : Prop := fnExactBeatsBetweenRow.holds Try.pinned (OpenSpec.ofChange fnExactBeatsBetweenSpec)

/-- ITS FALSE NEIGHBOUR: 'it returns false'. Refute it at one input. -/
def fnExactBeatsBetweenWrong : ChangeSpec := { name := "fnExactBeatsBetween", fn := fun _ => fun
  | [d1, d2, d3] => { results := [.lit (.bool false)], args := [d1, d2, d3] }
  | _ => none }
def FnExactBeatsBetweenWrongFalsely : Prop := fnExactBeatsBetweenRow.holds Try.pinned (OpenSpec.ofChange fnExactBeatsBetweenWrong)

/-- 'laws.FnExactDebrisRange': WHATEVER THE INPUT: true; the input reads as it did. -/
def fnExactDebrisRangeSpec : ChangeSpec := { name := "fnExactDebrisRange", fn := fun _ => fun
  | [d1, d2, d3] => { results := [.lit (.bool true)], args := [d1, d2, d3] }
  | _ => none }
def fnExactDebrisRangeRow : OpenClaim := { program := "ytfhpgeohgdfgdaa", sum := "99d897cdf73b4a38e4fc82120ff78b29dd6380195757f31107df00f1f6cf1aab", func := "loop.example/g01049/laws.FnExactDebrisRange", spec := "fnExactDebrisRange", apart := false }
def FnExactDebrisRangeSaid : Prop := fnExactDebrisRangeRow.holds Try.pinned (OpenSpec.ofChange fnExactDebrisRangeSpec)

/-- ITS FALSE NEIGHBOUR: 'it returns false'. Refute it at one input. -/
def fnExactDebrisRangeWrong : ChangeSpec := { name := "fnExactDebrisRange", fn := fun _ => fun
  | [d1, d2, d3] => { results := [.lit (.bool false)], args := [d1, d2, d3] }
  | _ => none }
def FnExactDebrisRangeWrongFalsely : Prop := fnExactDebrisRangeRow.holds Try.pinned (OpenSpec.ofChange fnExactDebrisRangeWrong)

/-- 'laws.FnExactNearestMix': WHATEVER THE INPUT: true; the input reads as it did. -/
def fnExactNearestMixSpec : ChangeSpec := { name := "fnExactNearestMix", fn := fun _ => fun
  | [d1, d2] => { results := [.lit (.bool true)], args := [d1, d2] }
  | _ => none }
def fnExactNearestMixRow : OpenClaim := { program := "ytfhpgeohgdfgdaa", sum := "99d897cdf73b4a38e4fc82120ff78b29dd6380195757f31107df00f1f6cf1aab", func := "loop.example/g01049/laws.FnExactNearestMix", spec := "fnExactNearestMix", apart := false }
def FnExactNearestMixSaid : Prop := fnExactNearestMixRow.holds Try.pinned (OpenSpec.ofChange fnExactNearestMixSpec)

/-- ITS FALSE NEIGHBOUR: 'it returns false'. Refute it at one input. -/
def fnExactNearestMixWrong : ChangeSpec := { name := "fnExactNearestMix", fn := fun _ => fun
  | [d1, d2] => { results := [.lit (.bool false)], args := [d1, d2] }
  | _ => none }
def FnExactNearestMixWrongFalsely : Prop := fnExactNearestMixRow.holds Try.pinned (OpenSpec.ofChange fnExactNearestMixWrong)

/-- 'laws.FnExactAddCue': WHATEVER THE INPUT: true; the input reads as it did. -/
def fnExactAddCueSpec : ChangeSpec := { name := "fnExactAddCue", fn := fun _ => fun
  | [d1, d2] => { results := [.lit (.bool true)], args := [d1, d2] }
  | _ => none }
def fnExactAddCueRow : OpenClaim := { program := "ytfhpgeohgdfgdaa", sum := "99d897cdf73b4a38e4fc82120ff78b29dd6380195757f31107df00f1f6cf1aab", func := "loop.example/g01049/laws.FnExactAddCue", spec := "fnExactAddCue", apart := false }
def FnExactAddCueSaid : Prop := fnExactAddCueRow.holds Try.pinned (OpenSpec.ofChange fnExactAddCueSpec)

/-- ITS FALSE NEIGHBOUR: 'it returns false'. Refute it at one input. -/
def fnExactAddCueWrong : ChangeSpec := { name := "fnExactAddCue", fn := fun _ => fun
  | [d1, d2] => { results := [.lit (.bool false)], args := [d1, d2] }
  | _ => none }
def FnExactAddCueWrongFalsely : Prop := fnExactAddCueRow.holds Try.pinned (OpenSpec.ofChange fnExactAddCueWrong)

/-- 'laws.FnExactScoreText': WHATEVER THE INPUT: true; the input reads as it did. -/
def fnExactScoreTextSpec : ChangeSpec := { name := "fnExactScoreText", fn := fun _ => fun
  | [d] => { results := [.lit (.bool true)], args := [d] }
  | _ => none }
def fnExactScoreTextRow : OpenClaim := { program := "ytfhpgeohgdfgdaa", sum := "99d897cdf73b4a38e4fc82120ff78b29dd6380195757f31107df00f1f6cf1aab", func := "loop.example/g01049/laws.FnExactScoreText", spec := "fnExactScoreText", recurses := true, apart := false }
def FnExactScoreTextSaid : Prop := fnExactScoreTextRow.holds Try.pinned (OpenSpec.ofChange fnExactScoreTextSpec)

/-- ITS FALSE NEIGHBOUR: 'it returns false'. Refute it at one input. -/
def fnExactScoreTextWrong : ChangeSpec := { name := "fnExactScoreText", fn := fun _ => fun
  | [d] => { results := [.lit (.bool false)], args := [d] }
  | _ => none }
def FnExactScoreTextWrongFalsely : Prop := fnExactScoreTextRow.holds Try.pinned (OpenSpec.ofChange fnExactScoreTextWrong)

/-- 'laws.FnExactWithoutFuse': WHATEVER THE INPUT: true; the input reads as it did. -/
def fnExactWithoutFuseSpec : ChangeSpec := { name := "fnExactWithoutFuse", fn := fun _ => fun
  | [d1, d2, d3] => { results := [.lit (.bool true)], args := [d1, d2, d3] }
  | _ => none }
def fnExactWithoutFuseRow : OpenClaim := { program := "ytfhpgeohgdfgdaa", sum := "99d897cdf73b4a38e4fc82120ff78b29dd6380195757f31107df00f1f6cf1aab", func := "loop.example/g01049/laws.FnExactWithoutFuse", spec := "fnExactWithoutFuse", apart := false }
def FnExactWithoutFuseSaid : Prop := fnExactWithoutFuseRow.holds Try.pinned (OpenSpec.ofChange fnExactWithoutFuseSpec)

/-- ITS FALSE NEIGHBOUR: 'it returns false'. Refute it at one input. -/
def fnExactWithoutFuseWrong : ChangeSpec := { name := "fnExactWithoutFuse", fn := fun _ => fun
  | [d1, d2, d3] => { results := [.lit (.bool false)], args := [d1, d2, d3] }
  | _ => none }
def FnExactWithoutFuseWrongFalsely : Prop := fnExactWithoutFuseRow.holds Try.pinned (OpenSpec.ofChange fnExactWithoutFuseWrong)

/- THE SECOND FORM. 'bulk': how many values and letters a reading holds, each counted each time it is reached (what is shared counts as often as it is met; a slice's spare places count too). A statement '..UptoSaid' is the law's where the arguments, and the package variables that the reading takes, are together of bulk at most 1048576: NARROWER than '..Said'. Prove '..Said' where nothing that the law and all that it calls make is longer than what came in: it says more and counts as full. Else prove '..UptoSaid'. A law counts once. -/
mutual
def uptoBulk {H : Type} : DataW H → Nat
  | .lit (.string bytes) => bytes.length + 1
  | .lit _ => 1
  | .nil => 1
  | .ptr d => uptoBulk d + 1
  | .slice elems spare => uptoBulkAll elems + uptoBulkAll spare + 1
  | .agg parts => uptoBulkAll parts + 1
  | .iface _ d => uptoBulk d + 1
  | .map entries => uptoBulkEntries entries + 1
  | .held _ => 1
def uptoBulkAll {H : Type} : List (DataW H) → Nat
  | [] => 0
  | d :: r => uptoBulk d + uptoBulkAll r
def uptoBulkEntries {H : Type} : List (Lit × DataW H) → Nat
  | [] => 0
  | x :: r => uptoBulkEntry x + uptoBulkEntries r
def uptoBulkEntry {H : Type} : Lit × DataW H → Nat
  | (.string bytes, d) => bytes.length + uptoBulk d + 1
  | (_, d) => uptoBulk d + 1
 end
def uptoSmall : (H : Type) → List (DataW H) → Bool := fun _ ds => decide (uptoBulkAll ds ≤ 1048576)
def OpenSpec.upto (s : _root_.Go.ChangeSpec) : _root_.Go.OpenSpec := { _root_.Go.OpenSpec.ofChange s with cond := some uptoSmall }

/-- 'laws.FnExactBeatsBetween', WHERE WHAT IT READS IS OF BULK AT MOST 1048576: true; the input reads as it did. -/
def fnExactBeatsBetweenUptoRow : OpenClaim := { program := "ytfhpgeohgdfgdaa", sum := "99d897cdf73b4a38e4fc82120ff78b29dd6380195757f31107df00f1f6cf1aab", func := "loop.example/g01049/laws.FnExactBeatsBetween", spec := "fnExactBeatsBetween", apart := false, narrowed := true }
def FnExactBeatsBetweenUptoSaid : Prop := fnExactBeatsBetweenUptoRow.holds Try.pinned (OpenSpec.upto fnExactBeatsBetweenSpec)

/-- 'laws.FnExactDebrisRange', WHERE WHAT IT READS IS OF BULK AT MOST 1048576: true; the input reads as it did. -/
def fnExactDebrisRangeUptoRow : OpenClaim := { program := "ytfhpgeohgdfgdaa", sum := "99d897cdf73b4a38e4fc82120ff78b29dd6380195757f31107df00f1f6cf1aab", func := "loop.example/g01049/laws.FnExactDebrisRange", spec := "fnExactDebrisRange", apart := false, narrowed := true }
def FnExactDebrisRangeUptoSaid : Prop := fnExactDebrisRangeUptoRow.holds Try.pinned (OpenSpec.upto fnExactDebrisRangeSpec)

/-- 'laws.FnExactNearestMix', WHERE WHAT IT READS IS OF BULK AT MOST 1048576: true; the input reads as it did. -/
def fnExactNearestMixUptoRow : OpenClaim := { program := "ytfhpgeohgdfgdaa", sum := "99d897cdf73b4a38e4fc82120ff78b29dd6380195757f31107df00f1f6cf1aab", func := "loop.example/g01049/laws.FnExactNearestMix", spec := "fnExactNearestMix", apart := false, narrowed := true }
def FnExactNearestMixUptoSaid : Prop := fnExactNearestMixUptoRow.holds Try.pinned (OpenSpec.upto fnExactNearestMixSpec)

/-- 'laws.FnExactAddCue', WHERE WHAT IT READS IS OF BULK AT MOST 1048576: true; the input reads as it did. -/
def fnExactAddCueUptoRow : OpenClaim := { program := "ytfhpgeohgdfgdaa", sum := "99d897cdf73b4a38e4fc82120ff78b29dd6380195757f31107df00f1f6cf1aab", func := "loop.example/g01049/laws.FnExactAddCue", spec := "fnExactAddCue", apart := false, narrowed := true }
def FnExactAddCueUptoSaid : Prop := fnExactAddCueUptoRow.holds Try.pinned (OpenSpec.upto fnExactAddCueSpec)

/-- 'laws.FnExactScoreText', WHERE WHAT IT READS IS OF BULK AT MOST 1048576: true; the input reads as it did. -/
def fnExactScoreTextUptoRow : OpenClaim := { program := "ytfhpgeohgdfgdaa", sum := "99d897cdf73b4a38e4fc82120ff78b29dd6380195757f31107df00f1f6cf1aab", func := "loop.example/g01049/laws.FnExactScoreText", spec := "fnExactScoreText", recurses := true, apart := false, narrowed := true }
def FnExactScoreTextUptoSaid : Prop := fnExactScoreTextUptoRow.holds Try.pinned (OpenSpec.upto fnExactScoreTextSpec)

/-- 'laws.FnExactWithoutFuse', WHERE WHAT IT READS IS OF BULK AT MOST 1048576: true; the input reads as it did. -/
def fnExactWithoutFuseUptoRow : OpenClaim := { program := "ytfhpgeohgdfgdaa", sum := "99d897cdf73b4a38e4fc82120ff78b29dd6380195757f31107df00f1f6cf1aab", func := "loop.example/g01049/laws.FnExactWithoutFuse", spec := "fnExactWithoutFuse", apart := false, narrowed := true }
def FnExactWithoutFuseUptoSaid : Prop := fnExactWithoutFuseUptoRow.holds Try.pinned (OpenSpec.upto fnExactWithoutFuseSpec)

end Rows
end Go.Proofs.Ytfhpgeohgdfgdaa
