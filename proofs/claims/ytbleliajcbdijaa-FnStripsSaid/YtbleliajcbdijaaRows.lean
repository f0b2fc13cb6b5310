/-
  No cell of these rows narrows 'for every input' (looked for: loops, veiled, ifaces, maps, wideKeys, modest, calm, conditions, laid).
  DERIVED. THE GIVEN ROWS OF THIS SEAT. 3 by the template 'for every input the law returns true; each argument reads behind the call as it read before'; 0 by the template 'total and deterministic' (their statements: YtbleliajcbdijaaTotals.lean).
  GIVEN WITH THE SEED: the statements are not yours to turn. If you find one false, say at which input.
  Laid BY PROGRAM, IN A SANDBOX (cutbox-rows.mjs): the forced cells as the released guide's own fill.sh prints them over the translation 534dadf501ef77a7… (all of the seat's roots in one cut). By AI agents, Wed Nov 11 2026. No macro, syntax, notation, axiom, sorry.
-/
import Derived.Test.YtbleliajcbdijaaChecked
import GoSem.Claim
import GoSem.ClaimJoined
import GoSem.ClaimMapViews
import Derived.JoinedTies
import Derived.KernelRfl
namespace Go.Proofs.Ytbleliajcbdijaa
/- THE CELL 'sum', in the pinned program and in every row, IS THE sha256 OF THE DUMP (.gsa) THAT YtbleliajcbdijaaProg.lean LOADS. Nothing in Lean hashes anything: it is a label: what it is worth is what the hold of that sum in a sandbox is worth. -/
noncomputable def Try.pinned : Pinned := { name := "ytbleliajcbdijaa", sum := "534dadf501ef77a7ee9e65f96337add704e23060230ba0931527b21dcc7e25ed", checked := Try.checked }
namespace Rows
def none {H : Type} : Left H := { results := [], args := [] }

/-- 'laws.FnWindLimits': WHATEVER THE INPUT: true; the input reads as it did. -/
def fnWindLimitsSpec : ChangeSpec := { name := "fnWindLimits", fn := fun _ => fun
  | [d] => { results := [.lit (.bool true)], args := [d] }
  | _ => none }
def fnWindLimitsRow : OpenClaim := { program := "ytbleliajcbdijaa", sum := "534dadf501ef77a7ee9e65f96337add704e23060230ba0931527b21dcc7e25ed", func := "loop.example/g01049/laws.FnWindLimits", spec := "fnWindLimits", apart := false }
def FnWindLimitsSaid : Prop := fnWindLimitsRow.holds Try.pinned (OpenSpec.ofChange fnWindLimitsSpec)

/-- ITS FALSE NEIGHBOUR: 'it returns false'. Refute it at one input. -/
def fnWindLimitsWrong : ChangeSpec := { name := "fnWindLimits", fn := fun _ => fun
  | [d] => { results := [.lit (.bool false)], args := [d] }
  | _ => none }
def FnWindLimitsWrongFalsely : Prop := fnWindLimitsRow.holds Try.pinned (OpenSpec.ofChange fnWindLimitsWrong)

/-- 'laws.FnStrips': WHATEVER THE INPUT: true; the input reads as it did. -/
def fnStripsSpec : ChangeSpec := { name := "fnStrips", fn := fun _ => fun
  | [d] => { results := [.lit (.bool true)], args := [d] }
  | _ => none }
def fnStripsRow : OpenClaim := { program := "ytbleliajcbdijaa", sum := "534dadf501ef77a7ee9e65f96337add704e23060230ba0931527b21dcc7e25ed", func := "loop.example/g01049/laws.FnStrips", spec := "fnStrips", apart := false }
def FnStripsSaid : Prop := fnStripsRow.holds Try.pinned (OpenSpec.ofChange fnStripsSpec)

/-- ITS FALSE NEIGHBOUR: 'it returns false'. Refute it at one input. -/
def fnStripsWrong : ChangeSpec := { name := "fnStrips", fn := fun _ => fun
  | [d] => { results := [.lit (.bool false)], args := [d] }
  | _ => none }
def FnStripsWrongFalsely : Prop := fnStripsRow.holds Try.pinned (OpenSpec.ofChange fnStripsWrong)

/-- 'laws.FnSpared': WHATEVER THE INPUT: true; the input reads as it did. -/
def fnSparedSpec : ChangeSpec := { name := "fnSpared", fn := fun _ => fun
  | [d] => { results := [.lit (.bool true)], args := [d] }
  | _ => none }
def fnSparedRow : OpenClaim := { program := "ytbleliajcbdijaa", sum := "534dadf501ef77a7ee9e65f96337add704e23060230ba0931527b21dcc7e25ed", func := "loop.example/g01049/laws.FnSpared", spec := "fnSpared", apart := false }
def FnSparedSaid : Prop := fnSparedRow.holds Try.pinned (OpenSpec.ofChange fnSparedSpec)

/-- ITS FALSE NEIGHBOUR: 'it returns false'. Refute it at one input. -/
def fnSparedWrong : ChangeSpec := { name := "fnSpared", fn := fun _ => fun
  | [d] => { results := [.lit (.bool false)], args := [d] }
  | _ => none }
def FnSparedWrongFalsely : Prop := fnSparedRow.holds Try.pinned (OpenSpec.ofChange fnSparedWrong)

/- THE SECOND FORM. 'bulk': how many values and letters a reading holds, each counted each time it is reached (what is shared counts as often as it is met; a slice's spare places count too). A statement '..UptoSaid' is the law's where the arguments, and the package variables that the reading takes, are together of bulk at most 1048576: NARROWER than '..Said'. Prove '..Said' where nothing that the law and all that it calls make is longer than what came in: it says more and counts as full. Else prove '..UptoSaid'. A law counts once. -/
mutual
def uptoBulk {H : Type} : DataW H → Nat
  | .lit (.string bytes) => bytes.length + 1
  | .lit _ => 1
  | .nil => 1
  | .ptr d => uptoBulk d + 1
  | .slice elems spare => uptoBulkAll elems + uptoBulkAll spare + 1
  | .agg parts => uptoBulkAll parts + 1
  | .iface _ d => uptoBulk d + 1
  | .map entries => uptoBulkEntries entries + 1
  | .held _ => 1
def uptoBulkAll {H : Type} : List (DataW H) → Nat
  | [] => 0
  | d :: r => uptoBulk d + uptoBulkAll r
def uptoBulkEntries {H : Type} : List (Lit × DataW H) → Nat
  | [] => 0
  | x :: r => uptoBulkEntry x + uptoBulkEntries r
def uptoBulkEntry {H : Type} : Lit × DataW H → Nat
  | (.string bytes, d) => bytes.length + uptoBulk d + 1
  | (_, d) => uptoBulk d + 1
 end
def uptoSmall : (H : Type) → List (DataW H) → Bool := fun _ ds => decide (uptoBulkAll ds ≤ 1048576)
def OpenSpec.upto (s : _root_.Go.ChangeSpec) : _root_.Go.OpenSpec := { _root_.Go.OpenSpec.ofChange s with cond := some uptoSmall }

/-- 'laws.FnWindLimits', WHERE WHAT IT READS IS OF BULK AT MOST 1048576: true; the input reads as it did. -/
def fnWindLimitsUptoRow : OpenClaim := { program := "ytbleliajcbdijaa", sum := "534dadf501ef77a7ee9e65f96337add704e23060230ba0931527b21dcc7e25ed", func := "loop.example/g01049/laws.FnWindLimits", spec := "fnWindLimits", apart := false, narrowed := true }
def FnWindLimitsUptoSaid : Prop := fnWindLimitsUptoRow.holds Try.pinned (OpenSpec.upto fnWindLimitsSpec)

/-- 'laws.FnStrips', WHERE WHAT IT READS IS OF BULK AT MOST 1048576: true; the input reads as it did. -/
def fnStripsUptoRow : OpenClaim := { program := "ytbleliajcbdijaa", sum := "534dadf501ef77a7ee9e65f96337add704e23060230ba0931527b21dcc7e25ed", func := "loop.example/g01049/laws.FnStrips", spec := "fnStrips", apart := false, narrowed := true }
def FnStripsUptoSaid : Prop := fnStripsUptoRow.holds Try.pinned (OpenSpec.upto fnStripsSpec)

/-- 'laws.FnSpared', WHERE WHAT IT READS IS OF BULK AT MOST 1048576: true; the input reads as it did. -/
def fnSparedUptoRow : OpenClaim := { program := "ytbleliajcbdijaa", sum := "534dadf501ef77a7ee9e65f96337add704e23060230ba0931527b21dcc7e25ed", func := "loop.example/g01049/laws.FnSpared", spec := "fnSpared", apart := false, narrowed := true }
def FnSparedUptoSaid : Prop := fnSparedUptoRow.holds Try.pinned (OpenSpec.upto fnSparedSpec)

end Rows
end Go.Proofs.Ytbleliajcbdijaa
