/-
  No cell of these rows narrows 'for every input' (looked for: loops, veiled, ifaces, maps, wideKeys, modest, calm, conditions, laid).
  DERIVED. THE GIVEN ROWS OF THIS SEAT. 5 by the template 'for every input the law returns true; each argument reads behind the call as it read before'; 0 by the template 'total and deterministic' (their statements: YthhijbdekboahaaTotals.lean).
  GIVEN WITH THE SEED: the statements are not yours to turn. If you find one false, say at which input.
  Laid BY PROGRAM, IN A SANDBOX (cutbox-rows.mjs): the forced cells as the released guide's own fill.sh prints them over the translation 7b4422b168144d71… (all of the seat's roots in one cut). By AI agents, Wed Nov 11 2026. No macro, syntax, notation, axiom, sorry.
-/
import Derived.Test.YthhijbdekboahaaChecked
import GoSem.Claim
import GoSem.ClaimJoined
import GoSem.ClaimMapViews
import Derived.JoinedTies
import Derived.KernelRfl
namespace Go.Proofs.Ythhijbdekboahaa
/- THE CELL 'sum', in the pinned program and in every row, IS THE sha256 OF THE DUMP (.gsa) THAT YthhijbdekboahaaProg.lean LOADS. Nothing in Lean hashes anything: it is a label: what it is worth is what the hold of that sum in a sandbox is worth. -/
noncomputable def Try.pinned : Pinned := { name := "ythhijbdekboahaa", sum := "7b4422b168144d71e3a32aa0e80c17d86e83ad950765aff95fdae66d065b2d0e", checked := Try.checked }
namespace Rows
def none {H : Type} : Left H := { results := [], args := [] }

/-- 'laws.FnBusiest': WHATEVER THE INPUT: true; the input reads as it did. -/
def fnBusiestSpec : ChangeSpec := { name := "fnBusiest", fn := fun _ => fun
  | [d] => { results := [.lit (.bool true)], args := [d] }
  | _ => none }
def fnBusiestRow : OpenClaim := { program := "ythhijbdekboahaa", sum := "7b4422b168144d71e3a32aa0e80c17d86e83ad950765aff95fdae66d065b2d0e", func := "loop.example/g01049/laws.FnBusiest", spec := "fnBusiest", apart := false }
def FnBusiestSaid : Prop := fnBusiestRow.holds Try.pinned (OpenSpec.ofChange fnBusiestSpec)

/-- ITS FALSE NEIGHBOUR: 'it returns false'. Refute it at one input. -/
def fnBusiestWrong : ChangeSpec := { name := "fnBusiest", fn := fun _ => fun
  | [d] => { results := [.lit (.bool false)], args := [d] }
  | _ => none }
def FnBusiestWrongFalsely : Prop := fnBusiestRow.holds Try.pinned (OpenSpec.ofChange fnBusiestWrong)

/-- 'laws.FnCueChanges': WHATEVER THE INPUT: true; the input reads as it did. -/
def fnCueChangesSpec : ChangeSpec := { name := "fnCueChanges", fn := fun _ => fun
  | [d] => { results := [.lit (.bool true)], args := [d] }
  | _ => none }
def fnCueChangesRow : OpenClaim := { program := "ythhijbdekboahaa", sum := "7b4422b168144d71e3a32aa0e80c17d86e83ad950765aff95fdae66d065b2d0e", func := "loop.example/g01049/laws.FnCueChanges", spec := "fnCueChanges", apart := false }
def FnCueChangesSaid : Prop := fnCueChangesRow.holds Try.pinned (OpenSpec.ofChange fnCueChangesSpec)

/-- ITS FALSE NEIGHBOUR: 'it returns false'. Refute it at one input. -/
def fnCueChangesWrong : ChangeSpec := { name := "fnCueChanges", fn := fun _ => fun
  | [d] => { results := [.lit (.bool false)], args := [d] }
  | _ => none }
def FnCueChangesWrongFalsely : Prop := fnCueChangesRow.holds Try.pinned (OpenSpec.ofChange fnCueChangesWrong)

/-- 'laws.FnCueOrders': WHATEVER THE INPUT: true; the input reads as it did. -/
def fnCueOrdersSpec : ChangeSpec := { name := "fnCueOrders", fn := fun _ => fun
  | [d] => { results := [.lit (.bool true)], args := [d] }
  | _ => none }
def fnCueOrdersRow : OpenClaim := { program := "ythhijbdekboahaa", sum := "7b4422b168144d71e3a32aa0e80c17d86e83ad950765aff95fdae66d065b2d0e", func := "loop.example/g01049/laws.FnCueOrders", spec := "fnCueOrders", apart := false }
def FnCueOrdersSaid : Prop := fnCueOrdersRow.holds Try.pinned (OpenSpec.ofChange fnCueOrdersSpec)

/-- ITS FALSE NEIGHBOUR: 'it returns false'. Refute it at one input. -/
def fnCueOrdersWrong : ChangeSpec := { name := "fnCueOrders", fn := fun _ => fun
  | [d] => { results := [.lit (.bool false)], args := [d] }
  | _ => none }
def FnCueOrdersWrongFalsely : Prop := fnCueOrdersRow.holds Try.pinned (OpenSpec.ofChange fnCueOrdersWrong)

/-- 'laws.FnBursts': WHATEVER THE INPUT: true; the input reads as it did. -/
def fnBurstsSpec : ChangeSpec := { name := "fnBursts", fn := fun _ => fun
  | [d] => { results := [.lit (.bool true)], args := [d] }
  | _ => none }
def fnBurstsRow : OpenClaim := { program := "ythhijbdekboahaa", sum := "7b4422b168144d71e3a32aa0e80c17d86e83ad950765aff95fdae66d065b2d0e", func := "loop.example/g01049/laws.FnBursts", spec := "fnBursts", apart := false }
def FnBurstsSaid : Prop := fnBurstsRow.holds Try.pinned (OpenSpec.ofChange fnBurstsSpec)

/-- ITS FALSE NEIGHBOUR: 'it returns false'. Refute it at one input. -/
def fnBurstsWrong : ChangeSpec := { name := "fnBursts", fn := fun _ => fun
  | [d] => { results := [.lit (.bool false)], args := [d] }
  | _ => none }
def FnBurstsWrongFalsely : Prop := fnBurstsRow.holds Try.pinned (OpenSpec.ofChange fnBurstsWrong)

/-- 'laws.FnEveryBurst': WHATEVER THE INPUT: true; the input reads as it did. -/
def fnEveryBurstSpec : ChangeSpec := { name := "fnEveryBurst", fn := fun _ => fun
  | [d] => { results := [.lit (.bool true)], args := [d] }
  | _ => none }
def fnEveryBurstRow : OpenClaim := { program := "ythhijbdekboahaa", sum := "7b4422b168144d71e3a32aa0e80c17d86e83ad950765aff95fdae66d065b2d0e", func := "loop.example/g01049/laws.FnEveryBurst", spec := "fnEveryBurst", apart := false }
def FnEveryBurstSaid : Prop := fnEveryBurstRow.holds Try.pinned (OpenSpec.ofChange fnEveryBurstSpec)

/-- ITS FALSE NEIGHBOUR: 'it returns false'. Refute it at one input. -/
def fnEveryBurstWrong : ChangeSpec := { name := "fnEveryBurst", fn := fun _ => fun
  | [d] => { results := [.lit (.bool false)], args := [d] }
  | _ => none }
def FnEveryBurstWrongFalsely : Prop := fnEveryBurstRow.holds Try.pinned (OpenSpec.ofChange fnEveryBurstWrong)

/- THE SECOND FORM. 'bulk': how many values and letters a reading holds, each counted each time it is reached (what is shared counts as often as it is met; a slice's spare places count too). A statement '..UptoSaid' is the law's where the arguments, and the package variables that the reading takes, are together of bulk at most 1048576: NARROWER than '..Said'. Prove '..Said' where nothing that the law and all that it calls make is longer than what came in: it says more and counts as full. Else prove '..UptoSaid'. A law counts once. -/
mutual
def uptoBulk {H : Type} : DataW H → Nat
  | .lit (.string bytes) => bytes.length + 1
  | .lit _ => 1
  | .nil => 1
  | .ptr d => uptoBulk d + 1
  | .slice elems spare => uptoBulkAll elems + uptoBulkAll spare + 1
  | .agg parts => uptoBulkAll parts + 1
  | .iface _ d => uptoBulk d + 1
  | .map entries => uptoBulkEntries entries + 1
  | .held _ => 1
def uptoBulkAll {H : Type} : List (DataW H) → Nat
  | [] => 0
  | d :: r => uptoBulk d + uptoBulkAll r
def uptoBulkEntries {H : Type} : List (Lit × DataW H) → Nat
  | [] => 0
  | x :: r => uptoBulkEntry x + uptoBulkEntries r
def uptoBulkEntry {H : Type} : Lit × DataW H → Nat
  | (.string bytes, d) => bytes.length + uptoBulk d + 1
  | (_, d) => uptoBulk d + 1
 end
def uptoSmall : (H : Type) → List (DataW H) → Bool := fun _ ds => decide (uptoBulkAll ds ≤ 1048576)
def OpenSpec.upto (s : _root_.Go.ChangeSpec) : _root_.Go.OpenSpec := { _root_.Go.OpenSpec.ofChange s with cond := some uptoSmall }

/-- 'laws.FnBusiest', WHERE WHAT IT READS IS OF BULK AT MOST 1048576: true; the input reads as it did. -/
def fnBusiestUptoRow : OpenClaim := { program := "ythhijbdekboahaa", sum := "7b4422b168144d71e3a32aa0e80c17d86e83ad950765aff95fdae66d065b2d0e", func := "loop.example/g01049/laws.FnBusiest", spec := "fnBusiest", apart := false, narrowed := true }
def FnBusiestUptoSaid : Prop := fnBusiestUptoRow.holds Try.pinned (OpenSpec.upto fnBusiestSpec)

/-- 'laws.FnCueChanges', WHERE WHAT IT READS IS OF BULK AT MOST 1048576: true; the input reads as it did. -/
def fnCueChangesUptoRow : OpenClaim := { program := "ythhijbdekboahaa", sum := "7b4422b168144d71e3a32aa0e80c17d86e83ad950765aff95fdae66d065b2d0e", func := "loop.example/g01049/laws.FnCueChanges", spec := "fnCueChanges", apart := false, narrowed := true }
def FnCueChangesUptoSaid : Prop := fnCueChangesUptoRow.holds Try.pinned (OpenSpec.upto fnCueChangesSpec)

/-- 'laws.FnCueOrders', WHERE WHAT IT READS IS OF BULK AT MOST 1048576: true; the input reads as it did. -/
def fnCueOrdersUptoRow : OpenClaim := { program := "ythhijbdekboahaa", sum := "7b4422b168144d71e3a32aa0e80c17d86e83ad950765aff95fdae66d065b2d0e", func := "loop.example/g01049/laws.FnCueOrders", spec := "fnCueOrders", apart := false, narrowed := true }
def FnCueOrdersUptoSaid : Prop := fnCueOrdersUptoRow.holds Try.pinned (OpenSpec.upto fnCueOrdersSpec)

/-- 'laws.FnBursts', WHERE WHAT IT READS IS OF BULK AT MOST 1048576: true; the input reads as it did. -/
def fnBurstsUptoRow : OpenClaim := { program := "ythhijbdekboahaa", sum := "7b4422b168144d71e3a32aa0e80c17d86e83ad950765aff95fdae66d065b2d0e", func := "loop.example/g01049/laws.FnBursts", spec := "fnBursts", apart := false, narrowed := true }
def FnBurstsUptoSaid : Prop := fnBurstsUptoRow.holds Try.pinned (OpenSpec.upto fnBurstsSpec)

/-- 'laws.FnEveryBurst', WHERE WHAT IT READS IS OF BULK AT MOST 1048576: true; the input reads as it did. -/
def fnEveryBurstUptoRow : OpenClaim := { program := "ythhijbdekboahaa", sum := "7b4422b168144d71e3a32aa0e80c17d86e83ad950765aff95fdae66d065b2d0e", func := "loop.example/g01049/laws.FnEveryBurst", spec := "fnEveryBurst", apart := false, narrowed := true }
def FnEveryBurstUptoSaid : Prop := fnEveryBurstUptoRow.holds Try.pinned (OpenSpec.upto fnEveryBurstSpec)

end Rows
end Go.Proofs.Ythhijbdekboahaa
