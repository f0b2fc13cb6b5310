/-
  No cell of these rows narrows 'for every input' (looked for: loops, veiled, ifaces, maps, wideKeys, modest, calm, conditions, laid).
  DERIVED. THE GIVEN ROWS OF THIS SEAT. 6 by the template 'for every input the law returns true; each argument reads behind the call as it read before'; 0 by the template 'total and deterministic' (their statements: YtpkllgmeaoodfaaTotals.lean).
  GIVEN WITH THE SEED: the statements are not yours to turn. If you find one false, say at which input.
  Laid BY PROGRAM, IN A SANDBOX (cutbox-rows.mjs): the forced cells as the released guide's own fill.sh prints them over the translation 891c3f3d663b1ffa… (all of the seat's roots in one cut). By AI agents, Wed Nov 11 2026. No macro, syntax, notation, axiom, sorry.
-/
import Derived.Test.YtpkllgmeaoodfaaChecked
import GoSem.Claim
import GoSem.ClaimJoined
import GoSem.ClaimMapViews
import Derived.JoinedTies
import Derived.KernelRfl
namespace Go.Proofs.Ytpkllgmeaoodfaa
/- THE CELL 'sum', in the pinned program and in every row, IS THE sha256 OF THE DUMP (.gsa) THAT YtpkllgmeaoodfaaProg.lean LOADS. Nothing in Lean hashes anything: it is a label: what it is worth is what the hold of that sum in a sandbox is worth. -/
noncomputable def Try.pinned : Pinned := { name := "ytpkllgmeaoodfaa", sum := "891c3f3d663b1ffae891050f71e43d49d17b5adb46ebb30a3812068809a56ba1", checked := Try.checked }
namespace Rows
def none {H : Type} : Left H := { results := [], args := [] }

/-- 'laws.FnExactStretchScore': WHATEVER THE INPUT: true; the input reads as it did. -/
def fnExactStretchScoreSpec : ChangeSpec := { name := "fnExactStretchScore", fn := fun _ => fun
  | [d1, d2] => { results := [.lit (.bool true)], args := [d1, d2] }
  | _ => none }
def fnExactStretchScoreRow : OpenClaim := { program := "ytpkllgmeaoodfaa", sum := "891c3f3d663b1ffae891050f71e43d49d17b5adb46ebb30a3812068809a56ba1", func := "loop.example/g01049/laws.FnExactStretchScore", spec := "fnExactStretchScore", apart := false }
def FnExactStretchScoreSaid : Prop := fnExactStretchScoreRow.holds Try.pinned (OpenSpec.ofChange fnExactStretchScoreSpec)

/-- ITS FALSE NEIGHBOUR: 'it returns false'. Refute it at one input. -/
def fnExactStretchScoreWrong : ChangeSpec := { name := "fnExactStretchScore", fn := fun _ => fun
  | [d1, d2] => { results := [.lit (.bool false)], args := [d1, d2] }
  | _ => none }
def FnExactStretchScoreWrongFalsely : Prop := fnExactStretchScoreRow.holds Try.pinned (OpenSpec.ofChange fnExactStretchScoreWrong)

/-- 'laws.FnExactLastLit': WHATEVER THE INPUT: true; the input reads as it did. -/
def fnExactLastLitSpec : ChangeSpec := { name := "fnExactLastLit", fn := fun _ => fun
  | [d1, d2] => { results := [.lit (.bool true)], args := [d1, d2] }
  | _ => none }
def fnExactLastLitRow : OpenClaim := { program := "ytpkllgmeaoodfaa", sum := "891c3f3d663b1ffae891050f71e43d49d17b5adb46ebb30a3812068809a56ba1", func := "loop.example/g01049/laws.FnExactLastLit", spec := "fnExactLastLit", apart := false }
def FnExactLastLitSaid : Prop := fnExactLastLitRow.holds Try.pinned (OpenSpec.ofChange fnExactLastLitSpec)

/-- ITS FALSE NEIGHBOUR: 'it returns false'. Refute it at one input. -/
def fnExactLastLitWrong : ChangeSpec := { name := "fnExactLastLit", fn := fun _ => fun
  | [d1, d2] => { results := [.lit (.bool false)], args := [d1, d2] }
  | _ => none }
def FnExactLastLitWrongFalsely : Prop := fnExactLastLitRow.holds Try.pinned (OpenSpec.ofChange fnExactLastLitWrong)

/-- 'laws.FnExactLitBetween': WHATEVER THE INPUT: true; the input reads as it did. -/
def fnExactLitBetweenSpec : ChangeSpec := { name := "fnExactLitBetween", fn := fun _ => fun
  | [d1, d2, d3] => { results := [.lit (.bool true)], args := [d1, d2, d3] }
  | _ => none }
def fnExactLitBetweenRow : OpenClaim := { program := "ytpkllgmeaoodfaa", sum := "891c3f3d663b1ffae891050f71e43d49d17b5adb46ebb30a3812068809a56ba1", func := "loop.example/g01049/laws.FnExactLitBetween", spec := "fnExactLitBetween", apart := false }
def FnExactLitBetweenSaid : Prop := fnExactLitBetweenRow.holds Try.pinned (OpenSpec.ofChange fnExactLitBetweenSpec)

/-- ITS FALSE NEIGHBOUR: 'it returns false'. Refute it at one input. -/
def fnExactLitBetweenWrong : ChangeSpec := { name := "fnExactLitBetween", fn := fun _ => fun
  | [d1, d2, d3] => { results := [.lit (.bool false)], args := [d1, d2, d3] }
  | _ => none }
def FnExactLitBetweenWrongFalsely : Prop := fnExactLitBetweenRow.holds Try.pinned (OpenSpec.ofChange fnExactLitBetweenWrong)

/-- 'laws.FnStretched': WHATEVER THE INPUT: true; the input reads as it did. -/
def fnStretchedSpec : ChangeSpec := { name := "fnStretched", fn := fun _ => fun
  | [d] => { results := [.lit (.bool true)], args := [d] }
  | _ => none }
def fnStretchedRow : OpenClaim := { program := "ytpkllgmeaoodfaa", sum := "891c3f3d663b1ffae891050f71e43d49d17b5adb46ebb30a3812068809a56ba1", func := "loop.example/g01049/laws.FnStretched", spec := "fnStretched", apart := false }
def FnStretchedSaid : Prop := fnStretchedRow.holds Try.pinned (OpenSpec.ofChange fnStretchedSpec)

/-- ITS FALSE NEIGHBOUR: 'it returns false'. Refute it at one input. -/
def fnStretchedWrong : ChangeSpec := { name := "fnStretched", fn := fun _ => fun
  | [d] => { results := [.lit (.bool false)], args := [d] }
  | _ => none }
def FnStretchedWrongFalsely : Prop := fnStretchedRow.holds Try.pinned (OpenSpec.ofChange fnStretchedWrong)

/-- 'laws.FnExactDarkGaps': WHATEVER THE INPUT: true; the input reads as it did. -/
def fnExactDarkGapsSpec : ChangeSpec := { name := "fnExactDarkGaps", fn := fun _ => fun
  | [d1, d2] => { results := [.lit (.bool true)], args := [d1, d2] }
  | _ => none }
def fnExactDarkGapsRow : OpenClaim := { program := "ytpkllgmeaoodfaa", sum := "891c3f3d663b1ffae891050f71e43d49d17b5adb46ebb30a3812068809a56ba1", func := "loop.example/g01049/laws.FnExactDarkGaps", spec := "fnExactDarkGaps", apart := false }
def FnExactDarkGapsSaid : Prop := fnExactDarkGapsRow.holds Try.pinned (OpenSpec.ofChange fnExactDarkGapsSpec)

/-- ITS FALSE NEIGHBOUR: 'it returns false'. Refute it at one input. -/
def fnExactDarkGapsWrong : ChangeSpec := { name := "fnExactDarkGaps", fn := fun _ => fun
  | [d1, d2] => { results := [.lit (.bool false)], args := [d1, d2] }
  | _ => none }
def FnExactDarkGapsWrongFalsely : Prop := fnExactDarkGapsRow.holds Try.pinned (OpenSpec.ofChange fnExactDarkGapsWrong)

/-- 'laws.FnExactReadScore': WHATEVER THE INPUT: true; the input reads as it did. -/
def fnExactReadScoreSpec : ChangeSpec := { name := "fnExactReadScore", fn := fun _ => fun
  | [d] => { results := [.lit (.bool true)], args := [d] }
  | _ => none }
def fnExactReadScoreRow : OpenClaim := { program := "ytpkllgmeaoodfaa", sum := "891c3f3d663b1ffae891050f71e43d49d17b5adb46ebb30a3812068809a56ba1", func := "loop.example/g01049/laws.FnExactReadScore", spec := "fnExactReadScore", recurses := true, apart := false }
def FnExactReadScoreSaid : Prop := fnExactReadScoreRow.holds Try.pinned (OpenSpec.ofChange fnExactReadScoreSpec)

/-- ITS FALSE NEIGHBOUR: 'it returns false'. Refute it at one input. -/
def fnExactReadScoreWrong : ChangeSpec := { name := "fnExactReadScore", fn := fun _ => fun
  | [d] => { results := [.lit (.bool false)], args := [d] }
  | _ => none }
def FnExactReadScoreWrongFalsely : Prop := fnExactReadScoreRow.holds Try.pinned (OpenSpec.ofChange fnExactReadScoreWrong)

/- THE SECOND FORM. 'bulk': how many values and letters a reading holds, each counted each time it is reached (what is shared counts as often as it is met; a slice's spare places count too). A statement '..UptoSaid' is the law's where the arguments, and the package variables that the reading takes, are together of bulk at most 1048576: NARROWER than '..Said'. Prove '..Said' where nothing that the law and all that it calls make is longer than what came in: it says more and counts as full. Else prove '..UptoSaid'. A law counts once. -/
mutual
def uptoBulk {H : Type} : DataW H → Nat
  | .lit (.string bytes) => bytes.length + 1
  | .lit _ => 1
  | .nil => 1
  | .ptr d => uptoBulk d + 1
  | .slice elems spare => uptoBulkAll elems + uptoBulkAll spare + 1
  | .agg parts => uptoBulkAll parts + 1
  | .iface _ d => uptoBulk d + 1
  | .map entries => uptoBulkEntries entries + 1
  | .held _ => 1
def uptoBulkAll {H : Type} : List (DataW H) → Nat
  | [] => 0
  | d :: r => uptoBulk d + uptoBulkAll r
def uptoBulkEntries {H : Type} : List (Lit × DataW H) → Nat
  | [] => 0
  | x :: r => uptoBulkEntry x + uptoBulkEntries r
def uptoBulkEntry {H : Type} : Lit × DataW H → Nat
  | (.string bytes, d) => bytes.length + uptoBulk d + 1
  | (_, d) => uptoBulk d + 1
 end
def uptoSmall : (H : Type) → List (DataW H) → Bool := fun _ ds => decide (uptoBulkAll ds ≤ 1048576)
def OpenSpec.upto (s : _root_.Go.ChangeSpec) : _root_.Go.OpenSpec := { _root_.Go.OpenSpec.ofChange s with cond := some uptoSmall }

/-- 'laws.FnExactStretchScore', WHERE WHAT IT READS IS OF BULK AT MOST 1048576: true; the input reads as it did. -/
def fnExactStretchScoreUptoRow : OpenClaim := { program := "ytpkllgmeaoodfaa", sum := "891c3f3d663b1ffae891050f71e43d49d17b5adb46ebb30a3812068809a56ba1", func := "loop.example/g01049/laws.FnExactStretchScore", spec := "fnExactStretchScore", apart := false, narrowed := true }
def FnExactStretchScoreUptoSaid : Prop := fnExactStretchScoreUptoRow.holds Try.pinned (OpenSpec.upto fnExactStretchScoreSpec)

/-- 'laws.FnExactLastLit', WHERE WHAT IT READS IS OF BULK AT MOST 1048576: true; the input reads as it did. -/
def fnExactLastLitUptoRow : OpenClaim := { program := "ytpkllgmeaoodfaa", sum := "891c3f3d663b1ffae891050f71e43d49d17b5adb46ebb30a3812068809a56ba1", func := "loop.example/g01049/laws.FnExactLastLit", spec := "fnExactLastLit", apart := false, narrowed := true }
def FnExactLastLitUptoSaid : Prop := fnExactLastLitUptoRow.holds Try.pinned (OpenSpec.upto fnExactLastLitSpec)

/-- 'laws.FnExactLitBetween', WHERE WHAT IT READS IS OF BULK AT MOST 1048576: true; the input reads as it did. -/
def fnExactLitBetweenUptoRow : OpenClaim := { program := "ytpkllgmeaoodfaa", sum := "891c3f3d663b1ffae891050f71e43d49d17b5adb46ebb30a3812068809a56ba1", func := "loop.example/g01049/laws.FnExactLitBetween", spec := "fnExactLitBetween", apart := false, narrowed := true }
def FnExactLitBetweenUptoSaid : Prop := fnExactLitBetweenUptoRow.holds Try.pinned (OpenSpec.upto fnExactLitBetweenSpec)

/-- 'laws.FnStretched', WHERE WHAT IT READS IS OF BULK AT MOST 1048576: true; the input reads as it did. -/
def fnStretchedUptoRow : OpenClaim := { program := "ytpkllgmeaoodfaa", sum := "891c3f3d663b1ffae891050f71e43d49d17b5adb46ebb30a3812068809a56ba1", func := "loop.example/g01049/laws.FnStretched", spec := "fnStretched", apart := false, narrowed := true }
def FnStretchedUptoSaid : Prop := fnStretchedUptoRow.holds Try.pinned (OpenSpec.upto fnStretchedSpec)

/-- 'laws.FnExactDarkGaps', WHERE WHAT IT READS IS OF BULK AT MOST 1048576: true; the input reads as it did. -/
def fnExactDarkGapsUptoRow : OpenClaim := { program := "ytpkllgmeaoodfaa", sum := "891c3f3d663b1ffae891050f71e43d49d17b5adb46ebb30a3812068809a56ba1", func := "loop.example/g01049/laws.FnExactDarkGaps", spec := "fnExactDarkGaps", apart := false, narrowed := true }
def FnExactDarkGapsUptoSaid : Prop := fnExactDarkGapsUptoRow.holds Try.pinned (OpenSpec.upto fnExactDarkGapsSpec)

/-- 'laws.FnExactReadScore', WHERE WHAT IT READS IS OF BULK AT MOST 1048576: true; the input reads as it did. -/
def fnExactReadScoreUptoRow : OpenClaim := { program := "ytpkllgmeaoodfaa", sum := "891c3f3d663b1ffae891050f71e43d49d17b5adb46ebb30a3812068809a56ba1", func := "loop.example/g01049/laws.FnExactReadScore", spec := "fnExactReadScore", recurses := true, apart := false, narrowed := true }
def FnExactReadScoreUptoSaid : Prop := fnExactReadScoreUptoRow.holds Try.pinned (OpenSpec.upto fnExactReadScoreSpec)

end Rows
end Go.Proofs.Ytpkllgmeaoodfaa
