/-
  No cell of these rows narrows 'for every input' (looked for: loops, veiled, ifaces, maps, wideKeys, modest, calm, conditions, laid).
  DERIVED. THE GIVEN ROWS OF THIS SEAT. 6 by the template 'for every input the law returns true; each argument reads behind the call as it read before'; 0 by the template 'total and deterministic' (their statements: YtcmnkjohofpimaaTotals.lean).
  GIVEN WITH THE SEED: the statements are not yours to turn. If you find one false, say at which input.
  Laid BY PROGRAM, IN A SANDBOX (cutbox-rows.mjs): the forced cells as the released guide's own fill.sh prints them over the translation 1ffd5042e4882a98… (all of the seat's roots in one cut). By AI agents, Wed Nov 11 2026. No macro, syntax, notation, axiom, sorry.
-/
import Derived.Test.YtcmnkjohofpimaaChecked
import GoSem.Claim
import GoSem.ClaimJoined
import GoSem.ClaimMapViews
import Derived.JoinedTies
import Derived.KernelRfl
namespace Go.Proofs.Ytcmnkjohofpimaa
/- THE CELL 'sum', in the pinned program and in every row, IS THE sha256 OF THE DUMP (.gsa) THAT YtcmnkjohofpimaaProg.lean LOADS. Nothing in Lean hashes anything: it is a label: what it is worth is what the hold of that sum in a sandbox is worth. -/
noncomputable def Try.pinned : Pinned := { name := "ytcmnkjohofpimaa", sum := "1ffd5042e4882a984bcc77e50f2a8437624b3ab8d7af0221671db1266dbf8c65", checked := Try.checked }
namespace Rows
def none {H : Type} : Left H := { results := [], args := [] }

/-- 'laws.FnExactGapBetween': WHATEVER THE INPUT: true; the input reads as it did. -/
def fnExactGapBetweenSpec : ChangeSpec := { name := "fnExactGapBetween", fn := fun _ => fun
  | [d1, d2, d3] => { results := [.lit (.bool true)], args := [d1, d2, d3] }
  | _ => none }
def fnExactGapBetweenRow : OpenClaim := { program := "ytcmnkjohofpimaa", sum := "1ffd5042e4882a984bcc77e50f2a8437624b3ab8d7af0221671db1266dbf8c65", func := "loop.example/g01049/laws.FnExactGapBetween", spec := "fnExactGapBetween", apart := false }
def FnExactGapBetweenSaid : Prop := fnExactGapBetweenRow.holds Try.pinned (OpenSpec.ofChange fnExactGapBetweenSpec)

/-- ITS FALSE NEIGHBOUR: 'it returns false'. Refute it at one input. -/
def fnExactGapBetweenWrong : ChangeSpec := { name := "fnExactGapBetween", fn := fun _ => fun
  | [d1, d2, d3] => { results := [.lit (.bool false)], args := [d1, d2, d3] }
  | _ => none }
def FnExactGapBetweenWrongFalsely : Prop := fnExactGapBetweenRow.holds Try.pinned (OpenSpec.ofChange fnExactGapBetweenWrong)

/-- 'laws.FnExactDropCue': WHATEVER THE INPUT: true; the input reads as it did. -/
def fnExactDropCueSpec : ChangeSpec := { name := "fnExactDropCue", fn := fun _ => fun
  | [d1, d2] => { results := [.lit (.bool true)], args := [d1, d2] }
  | _ => none }
def fnExactDropCueRow : OpenClaim := { program := "ytcmnkjohofpimaa", sum := "1ffd5042e4882a984bcc77e50f2a8437624b3ab8d7af0221671db1266dbf8c65", func := "loop.example/g01049/laws.FnExactDropCue", spec := "fnExactDropCue", apart := false }
def FnExactDropCueSaid : Prop := fnExactDropCueRow.holds Try.pinned (OpenSpec.ofChange fnExactDropCueSpec)

/-- ITS FALSE NEIGHBOUR: 'it returns false'. Refute it at one input. -/
def fnExactDropCueWrong : ChangeSpec := { name := "fnExactDropCue", fn := fun _ => fun
  | [d1, d2] => { results := [.lit (.bool false)], args := [d1, d2] }
  | _ => none }
def FnExactDropCueWrongFalsely : Prop := fnExactDropCueRow.holds Try.pinned (OpenSpec.ofChange fnExactDropCueWrong)

/-- 'laws.FnExactJoinChains': WHATEVER THE INPUT: true; the input reads as it did. -/
def fnExactJoinChainsSpec : ChangeSpec := { name := "fnExactJoinChains", fn := fun _ => fun
  | [d1, d2] => { results := [.lit (.bool true)], args := [d1, d2] }
  | _ => none }
def fnExactJoinChainsRow : OpenClaim := { program := "ytcmnkjohofpimaa", sum := "1ffd5042e4882a984bcc77e50f2a8437624b3ab8d7af0221671db1266dbf8c65", func := "loop.example/g01049/laws.FnExactJoinChains", spec := "fnExactJoinChains", apart := false }
def FnExactJoinChainsSaid : Prop := fnExactJoinChainsRow.holds Try.pinned (OpenSpec.ofChange fnExactJoinChainsSpec)

/-- ITS FALSE NEIGHBOUR: 'it returns false'. Refute it at one input. -/
def fnExactJoinChainsWrong : ChangeSpec := { name := "fnExactJoinChains", fn := fun _ => fun
  | [d1, d2] => { results := [.lit (.bool false)], args := [d1, d2] }
  | _ => none }
def FnExactJoinChainsWrongFalsely : Prop := fnExactJoinChainsRow.holds Try.pinned (OpenSpec.ofChange fnExactJoinChainsWrong)

/-- 'laws.FnExactJoinScores': WHATEVER THE INPUT: true; the input reads as it did. -/
def fnExactJoinScoresSpec : ChangeSpec := { name := "fnExactJoinScores", fn := fun _ => fun
  | [d1, d2] => { results := [.lit (.bool true)], args := [d1, d2] }
  | _ => none }
def fnExactJoinScoresRow : OpenClaim := { program := "ytcmnkjohofpimaa", sum := "1ffd5042e4882a984bcc77e50f2a8437624b3ab8d7af0221671db1266dbf8c65", func := "loop.example/g01049/laws.FnExactJoinScores", spec := "fnExactJoinScores", apart := false }
def FnExactJoinScoresSaid : Prop := fnExactJoinScoresRow.holds Try.pinned (OpenSpec.ofChange fnExactJoinScoresSpec)

/-- ITS FALSE NEIGHBOUR: 'it returns false'. Refute it at one input. -/
def fnExactJoinScoresWrong : ChangeSpec := { name := "fnExactJoinScores", fn := fun _ => fun
  | [d1, d2] => { results := [.lit (.bool false)], args := [d1, d2] }
  | _ => none }
def FnExactJoinScoresWrongFalsely : Prop := fnExactJoinScoresRow.holds Try.pinned (OpenSpec.ofChange fnExactJoinScoresWrong)

/-- 'laws.FnExactBeatTime': WHATEVER THE INPUT: true; the input reads as it did. -/
def fnExactBeatTimeSpec : ChangeSpec := { name := "fnExactBeatTime", fn := fun _ => fun
  | [d1, d2, d3] => { results := [.lit (.bool true)], args := [d1, d2, d3] }
  | _ => none }
def fnExactBeatTimeRow : OpenClaim := { program := "ytcmnkjohofpimaa", sum := "1ffd5042e4882a984bcc77e50f2a8437624b3ab8d7af0221671db1266dbf8c65", func := "loop.example/g01049/laws.FnExactBeatTime", spec := "fnExactBeatTime", apart := false }
def FnExactBeatTimeSaid : Prop := fnExactBeatTimeRow.holds Try.pinned (OpenSpec.ofChange fnExactBeatTimeSpec)

/-- ITS FALSE NEIGHBOUR: 'it returns false'. Refute it at one input. -/
def fnExactBeatTimeWrong : ChangeSpec := { name := "fnExactBeatTime", fn := fun _ => fun
  | [d1, d2, d3] => { results := [.lit (.bool false)], args := [d1, d2, d3] }
  | _ => none }
def FnExactBeatTimeWrongFalsely : Prop := fnExactBeatTimeRow.holds Try.pinned (OpenSpec.ofChange fnExactBeatTimeWrong)

/-- 'laws.FnExactBeatAt': WHATEVER THE INPUT: true; the input reads as it did. -/
def fnExactBeatAtSpec : ChangeSpec := { name := "fnExactBeatAt", fn := fun _ => fun
  | [d1, d2] => { results := [.lit (.bool true)], args := [d1, d2] }
  | _ => none }
def fnExactBeatAtRow : OpenClaim := { program := "ytcmnkjohofpimaa", sum := "1ffd5042e4882a984bcc77e50f2a8437624b3ab8d7af0221671db1266dbf8c65", func := "loop.example/g01049/laws.FnExactBeatAt", spec := "fnExactBeatAt", apart := false }
def FnExactBeatAtSaid : Prop := fnExactBeatAtRow.holds Try.pinned (OpenSpec.ofChange fnExactBeatAtSpec)

/-- ITS FALSE NEIGHBOUR: 'it returns false'. Refute it at one input. -/
def fnExactBeatAtWrong : ChangeSpec := { name := "fnExactBeatAt", fn := fun _ => fun
  | [d1, d2] => { results := [.lit (.bool false)], args := [d1, d2] }
  | _ => none }
def FnExactBeatAtWrongFalsely : Prop := fnExactBeatAtRow.holds Try.pinned (OpenSpec.ofChange fnExactBeatAtWrong)

/- THE SECOND FORM. 'bulk': how many values and letters a reading holds, each counted each time it is reached (what is shared counts as often as it is met; a slice's spare places count too). A statement '..UptoSaid' is the law's where the arguments, and the package variables that the reading takes, are together of bulk at most 1048576: NARROWER than '..Said'. Prove '..Said' where nothing that the law and all that it calls make is longer than what came in: it says more and counts as full. Else prove '..UptoSaid'. A law counts once. -/
mutual
def uptoBulk {H : Type} : DataW H → Nat
  | .lit (.string bytes) => bytes.length + 1
  | .lit _ => 1
  | .nil => 1
  | .ptr d => uptoBulk d + 1
  | .slice elems spare => uptoBulkAll elems + uptoBulkAll spare + 1
  | .agg parts => uptoBulkAll parts + 1
  | .iface _ d => uptoBulk d + 1
  | .map entries => uptoBulkEntries entries + 1
  | .held _ => 1
def uptoBulkAll {H : Type} : List (DataW H) → Nat
  | [] => 0
  | d :: r => uptoBulk d + uptoBulkAll r
def uptoBulkEntries {H : Type} : List (Lit × DataW H) → Nat
  | [] => 0
  | x :: r => uptoBulkEntry x + uptoBulkEntries r
def uptoBulkEntry {H : Type} : Lit × DataW H → Nat
  | (.string bytes, d) => bytes.length + uptoBulk d + 1
  | (_, d) => uptoBulk d + 1
 end
def uptoSmall : (H : Type) → List (DataW H) → Bool := fun _ ds => decide (uptoBulkAll ds ≤ 1048576)
def OpenSpec.upto (s : _root_.Go.ChangeSpec) : _root_.Go.OpenSpec := { _root_.Go.OpenSpec.ofChange s with cond := some uptoSmall }

/-- 'laws.FnExactGapBetween', WHERE WHAT IT READS IS OF BULK AT MOST 1048576: true; the input reads as it did. -/
def fnExactGapBetweenUptoRow : OpenClaim := { program := "ytcmnkjohofpimaa", sum := "1ffd5042e4882a984bcc77e50f2a8437624b3ab8d7af0221671db1266dbf8c65", func := "loop.example/g01049/laws.FnExactGapBetween", spec := "fnExactGapBetween", apart := false, narrowed := true }
def FnExactGapBetweenUptoSaid : Prop := fnExactGapBetweenUptoRow.holds Try.pinned (OpenSpec.upto fnExactGapBetweenSpec)

/-- 'laws.FnExactDropCue', WHERE WHAT IT READS IS OF BULK AT MOST 1048576: true; the input reads as it did. -/
def fnExactDropCueUptoRow : OpenClaim := { program := "ytcmnkjohofpimaa", sum := "1ffd5042e4882a984bcc77e50f2a8437624b3ab8d7af0221671db1266dbf8c65", func := "loop.example/g01049/laws.FnExactDropCue", spec := "fnExactDropCue", apart := false, narrowed := true }
def FnExactDropCueUptoSaid : Prop := fnExactDropCueUptoRow.holds Try.pinned (OpenSpec.upto fnExactDropCueSpec)

/-- 'laws.FnExactJoinChains', WHERE WHAT IT READS IS OF BULK AT MOST 1048576: true; the input reads as it did. -/
def fnExactJoinChainsUptoRow : OpenClaim := { program := "ytcmnkjohofpimaa", sum := "1ffd5042e4882a984bcc77e50f2a8437624b3ab8d7af0221671db1266dbf8c65", func := "loop.example/g01049/laws.FnExactJoinChains", spec := "fnExactJoinChains", apart := false, narrowed := true }
def FnExactJoinChainsUptoSaid : Prop := fnExactJoinChainsUptoRow.holds Try.pinned (OpenSpec.upto fnExactJoinChainsSpec)

/-- 'laws.FnExactJoinScores', WHERE WHAT IT READS IS OF BULK AT MOST 1048576: true; the input reads as it did. -/
def fnExactJoinScoresUptoRow : OpenClaim := { program := "ytcmnkjohofpimaa", sum := "1ffd5042e4882a984bcc77e50f2a8437624b3ab8d7af0221671db1266dbf8c65", func := "loop.example/g01049/laws.FnExactJoinScores", spec := "fnExactJoinScores", apart := false, narrowed := true }
def FnExactJoinScoresUptoSaid : Prop := fnExactJoinScoresUptoRow.holds Try.pinned (OpenSpec.upto fnExactJoinScoresSpec)

/-- 'laws.FnExactBeatTime', WHERE WHAT IT READS IS OF BULK AT MOST 1048576: true; the input reads as it did. -/
def fnExactBeatTimeUptoRow : OpenClaim := { program := "ytcmnkjohofpimaa", sum := "1ffd5042e4882a984bcc77e50f2a8437624b3ab8d7af0221671db1266dbf8c65", func := "loop.example/g01049/laws.FnExactBeatTime", spec := "fnExactBeatTime", apart := false, narrowed := true }
def FnExactBeatTimeUptoSaid : Prop := fnExactBeatTimeUptoRow.holds Try.pinned (OpenSpec.upto fnExactBeatTimeSpec)

/-- 'laws.FnExactBeatAt', WHERE WHAT IT READS IS OF BULK AT MOST 1048576: true; the input reads as it did. -/
def fnExactBeatAtUptoRow : OpenClaim := { program := "ytcmnkjohofpimaa", sum := "1ffd5042e4882a984bcc77e50f2a8437624b3ab8d7af0221671db1266dbf8c65", func := "loop.example/g01049/laws.FnExactBeatAt", spec := "fnExactBeatAt", apart := false, narrowed := true }
def FnExactBeatAtUptoSaid : Prop := fnExactBeatAtUptoRow.holds Try.pinned (OpenSpec.upto fnExactBeatAtSpec)

end Rows
end Go.Proofs.Ytcmnkjohofpimaa
