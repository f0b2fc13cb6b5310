/-
  No cell of these rows narrows 'for every input' (looked for: loops, veiled, ifaces, maps, wideKeys, modest, calm, conditions, laid).
  DERIVED. THE GIVEN ROWS OF THIS SEAT. 4 by the template 'for every input the law returns true; each argument reads behind the call as it read before'; 0 by the template 'total and deterministic' (their statements: YtmnnbmdfepogiaaTotals.lean).
  GIVEN WITH THE SEED: the statements are not yours to turn. If you find one false, say at which input.
  Laid BY PROGRAM, IN A SANDBOX (cutbox-rows.mjs): the forced cells as the released guide's own fill.sh prints them over the translation e5ce17ec19cfb408… (all of the seat's roots in one cut). By AI agents, Wed Nov 11 2026. No macro, syntax, notation, axiom, sorry.
-/
import Derived.Test.YtmnnbmdfepogiaaChecked
import GoSem.Claim
import GoSem.ClaimJoined
import GoSem.ClaimMapViews
import Derived.JoinedTies
import Derived.KernelRfl
namespace Go.Proofs.Ytmnnbmdfepogiaa
/- THE CELL 'sum', in the pinned program and in every row, IS THE sha256 OF THE DUMP (.gsa) THAT YtmnnbmdfepogiaaProg.lean LOADS. Nothing in Lean hashes anything: it is a label: what it is worth is what the hold of that sum in a sandbox is worth. -/
noncomputable def Try.pinned : Pinned := { name := "ytmnnbmdfepogiaa", sum := "e5ce17ec19cfb4081238bfbcab712031e0efe0f1b3b5dd0eb4249d8cad5c3e5f", checked := Try.checked }
namespace Rows
def none {H : Type} : Left H := { results := [], args := [] }

/-- 'laws.FnExactFireOrder': WHATEVER THE INPUT: true; the input reads as it did. -/
def fnExactFireOrderSpec : ChangeSpec := { name := "fnExactFireOrder", fn := fun _ => fun
  | [d] => { results := [.lit (.bool true)], args := [d] }
  | _ => none }
def fnExactFireOrderRow : OpenClaim := { program := "ytmnnbmdfepogiaa", sum := "e5ce17ec19cfb4081238bfbcab712031e0efe0f1b3b5dd0eb4249d8cad5c3e5f", func := "loop.example/g01049/laws.FnExactFireOrder", spec := "fnExactFireOrder", apart := false }
def FnExactFireOrderSaid : Prop := fnExactFireOrderRow.holds Try.pinned (OpenSpec.ofChange fnExactFireOrderSpec)

/-- ITS FALSE NEIGHBOUR: 'it returns false'. Refute it at one input. -/
def fnExactFireOrderWrong : ChangeSpec := { name := "fnExactFireOrder", fn := fun _ => fun
  | [d] => { results := [.lit (.bool false)], args := [d] }
  | _ => none }
def FnExactFireOrderWrongFalsely : Prop := fnExactFireOrderRow.holds Try.pinned (OpenSpec.ofChange fnExactFireOrderWrong)

/-- 'laws.FnExactDarkGaps': WHATEVER THE INPUT: true; the input reads as it did. -/
def fnExactDarkGapsSpec : ChangeSpec := { name := "fnExactDarkGaps", fn := fun _ => fun
  | [d1, d2] => { results := [.lit (.bool true)], args := [d1, d2] }
  | _ => none }
def fnExactDarkGapsRow : OpenClaim := { program := "ytmnnbmdfepogiaa", sum := "e5ce17ec19cfb4081238bfbcab712031e0efe0f1b3b5dd0eb4249d8cad5c3e5f", func := "loop.example/g01049/laws.FnExactDarkGaps", spec := "fnExactDarkGaps", apart := false }
def FnExactDarkGapsSaid : Prop := fnExactDarkGapsRow.holds Try.pinned (OpenSpec.ofChange fnExactDarkGapsSpec)

/-- ITS FALSE NEIGHBOUR: 'it returns false'. Refute it at one input. -/
def fnExactDarkGapsWrong : ChangeSpec := { name := "fnExactDarkGaps", fn := fun _ => fun
  | [d1, d2] => { results := [.lit (.bool false)], args := [d1, d2] }
  | _ => none }
def FnExactDarkGapsWrongFalsely : Prop := fnExactDarkGapsRow.holds Try.pinned (OpenSpec.ofChange fnExactDarkGapsWrong)

/-- 'laws.FnShows': WHATEVER THE INPUT: true; the input reads as it did. -/
def fnShowsSpec : ChangeSpec := { name := "fnShows", fn := fun _ => fun
  | [d] => { results := [.lit (.bool true)], args := [d] }
  | _ => none }
def fnShowsRow : OpenClaim := { program := "ytmnnbmdfepogiaa", sum := "e5ce17ec19cfb4081238bfbcab712031e0efe0f1b3b5dd0eb4249d8cad5c3e5f", func := "loop.example/g01049/laws.FnShows", spec := "fnShows", apart := false }
def FnShowsSaid : Prop := fnShowsRow.holds Try.pinned (OpenSpec.ofChange fnShowsSpec)

/-- ITS FALSE NEIGHBOUR: 'it returns false'. Refute it at one input. -/
def fnShowsWrong : ChangeSpec := { name := "fnShows", fn := fun _ => fun
  | [d] => { results := [.lit (.bool false)], args := [d] }
  | _ => none }
def FnShowsWrongFalsely : Prop := fnShowsRow.holds Try.pinned (OpenSpec.ofChange fnShowsWrong)

/-- 'laws.FnDark': WHATEVER THE INPUT: true; the input reads as it did. -/
def fnDarkSpec : ChangeSpec := { name := "fnDark", fn := fun _ => fun
  | [d] => { results := [.lit (.bool true)], args := [d] }
  | _ => none }
def fnDarkRow : OpenClaim := { program := "ytmnnbmdfepogiaa", sum := "e5ce17ec19cfb4081238bfbcab712031e0efe0f1b3b5dd0eb4249d8cad5c3e5f", func := "loop.example/g01049/laws.FnDark", spec := "fnDark", apart := false }
def FnDarkSaid : Prop := fnDarkRow.holds Try.pinned (OpenSpec.ofChange fnDarkSpec)

/-- ITS FALSE NEIGHBOUR: 'it returns false'. Refute it at one input. -/
def fnDarkWrong : ChangeSpec := { name := "fnDark", fn := fun _ => fun
  | [d] => { results := [.lit (.bool false)], args := [d] }
  | _ => none }
def FnDarkWrongFalsely : Prop := fnDarkRow.holds Try.pinned (OpenSpec.ofChange fnDarkWrong)

/- THE SECOND FORM. 'bulk': how many values and letters a reading holds, each counted each time it is reached (what is shared counts as often as it is met; a slice's spare places count too). A statement '..UptoSaid' is the law's where the arguments, and the package variables that the reading takes, are together of bulk at most 1048576: NARROWER than '..Said'. Prove '..Said' where nothing that the law and all that it calls make is longer than what came in: it says more and counts as full. Else prove '..UptoSaid'. A law counts once. -/
mutual
def uptoBulk {H : Type} : DataW H → Nat
  | .lit (.string bytes) => bytes.length + 1
  | .lit _ => 1
  | .nil => 1
  | .ptr d => uptoBulk d + 1
  | .slice elems spare => uptoBulkAll elems + uptoBulkAll spare + 1
  | .agg parts => uptoBulkAll parts + 1
  | .iface _ d => uptoBulk d + 1
  | .map entries => uptoBulkEntries entries + 1
  | .held _ => 1
def uptoBulkAll {H : Type} : List (DataW H) → Nat
  | [] => 0
  | d :: r => uptoBulk d + uptoBulkAll r
def uptoBulkEntries {H : Type} : List (Lit × DataW H) → Nat
  | [] => 0
  | x :: r => uptoBulkEntry x + uptoBulkEntries r
def uptoBulkEntry {H : Type} : Lit × DataW H → Nat
  | (.string bytes, d) => bytes.length + uptoBulk d + 1
  | (_, d) => uptoBulk d + 1
 end
def uptoSmall : (H : Type) → List (DataW H) → Bool := fun _ ds => decide (uptoBulkAll ds ≤ 1048576)
def OpenSpec.upto (s : _root_.Go.ChangeSpec) : _root_.Go.OpenSpec := { _root_.Go.OpenSpec.ofChange s with cond := some uptoSmall }

/-- 'laws.FnExactFireOrder', WHERE WHAT IT READS IS OF BULK AT MOST 1048576: true; the input reads as it did. -/
def fnExactFireOrderUptoRow : OpenClaim := { program := "ytmnnbmdfepogiaa", sum := "e5ce17ec19cfb4081238bfbcab712031e0efe0f1b3b5dd0eb4249d8cad5c3e5f", func := "loop.example/g01049/laws.FnExactFireOrder", spec := "fnExactFireOrder", apart := false, narrowed := true }
def FnExactFireOrderUptoSaid : Prop := fnExactFireOrderUptoRow.holds Try.pinned (OpenSpec.upto fnExactFireOrderSpec)

/-- 'laws.FnExactDarkGaps', WHERE WHAT IT READS IS OF BULK AT MOST 1048576: true; the input reads as it did. -/
def fnExactDarkGapsUptoRow : OpenClaim := { program := "ytmnnbmdfepogiaa", sum := "e5ce17ec19cfb4081238bfbcab712031e0efe0f1b3b5dd0eb4249d8cad5c3e5f", func := "loop.example/g01049/laws.FnExactDarkGaps", spec := "fnExactDarkGaps", apart := false, narrowed := true }
def FnExactDarkGapsUptoSaid : Prop := fnExactDarkGapsUptoRow.holds Try.pinned (OpenSpec.upto fnExactDarkGapsSpec)

/-- 'laws.FnShows', WHERE WHAT IT READS IS OF BULK AT MOST 1048576: true; the input reads as it did. -/
def fnShowsUptoRow : OpenClaim := { program := "ytmnnbmdfepogiaa", sum := "e5ce17ec19cfb4081238bfbcab712031e0efe0f1b3b5dd0eb4249d8cad5c3e5f", func := "loop.example/g01049/laws.FnShows", spec := "fnShows", apart := false, narrowed := true }
def FnShowsUptoSaid : Prop := fnShowsUptoRow.holds Try.pinned (OpenSpec.upto fnShowsSpec)

/-- 'laws.FnDark', WHERE WHAT IT READS IS OF BULK AT MOST 1048576: true; the input reads as it did. -/
def fnDarkUptoRow : OpenClaim := { program := "ytmnnbmdfepogiaa", sum := "e5ce17ec19cfb4081238bfbcab712031e0efe0f1b3b5dd0eb4249d8cad5c3e5f", func := "loop.example/g01049/laws.FnDark", spec := "fnDark", apart := false, narrowed := true }
def FnDarkUptoSaid : Prop := fnDarkUptoRow.holds Try.pinned (OpenSpec.upto fnDarkSpec)

end Rows
end Go.Proofs.Ytmnnbmdfepogiaa
