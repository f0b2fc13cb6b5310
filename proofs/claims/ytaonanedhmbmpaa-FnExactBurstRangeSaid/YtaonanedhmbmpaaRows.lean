/-
  No cell of these rows narrows 'for every input' (looked for: loops, veiled, ifaces, maps, wideKeys, modest, calm, conditions, laid).
  DERIVED. THE GIVEN ROWS OF THIS SEAT. 6 by the template 'for every input the law returns true; each argument reads behind the call as it read before'; 0 by the template 'total and deterministic' (their statements: YtaonanedhmbmpaaTotals.lean).
  GIVEN WITH THE SEED: the statements are not yours to turn. If you find one false, say at which input.
  Laid BY PROGRAM, IN A SANDBOX (cutbox-rows.mjs): the forced cells as the released guide's own fill.sh prints them over the translation bcd25abdafb09c88… (all of the seat's roots in one cut). By AI agents, Wed Nov 11 2026. No macro, syntax, notation, axiom, sorry.
-/
import Derived.Test.YtaonanedhmbmpaaChecked
import GoSem.Claim
import GoSem.ClaimJoined
import GoSem.ClaimMapViews
import Derived.JoinedTies
import Derived.KernelRfl
namespace Go.Proofs.Ytaonanedhmbmpaa
/- THE CELL 'sum', in the pinned program and in every row, IS THE sha256 OF THE DUMP (.gsa) THAT YtaonanedhmbmpaaProg.lean LOADS. Nothing in Lean hashes anything: it is a label: what it is worth is what the hold of that sum in a sandbox is worth. -/
noncomputable def Try.pinned : Pinned := { name := "ytaonanedhmbmpaa", sum := "bcd25abdafb09c8872c975d00261b7c4466e824dc3d335ab354b974b6b7b4779", checked := Try.checked }
namespace Rows
def none {H : Type} : Left H := { results := [], args := [] }

/-- 'laws.FnExactArePieces': WHATEVER THE INPUT: true; the input reads as it did. -/
def fnExactArePiecesSpec : ChangeSpec := { name := "fnExactArePieces", fn := fun _ => fun
  | [d] => { results := [.lit (.bool true)], args := [d] }
  | _ => none }
def fnExactArePiecesRow : OpenClaim := { program := "ytaonanedhmbmpaa", sum := "bcd25abdafb09c8872c975d00261b7c4466e824dc3d335ab354b974b6b7b4779", func := "loop.example/g01049/laws.FnExactArePieces", spec := "fnExactArePieces", apart := false }
def FnExactArePiecesSaid : Prop := fnExactArePiecesRow.holds Try.pinned (OpenSpec.ofChange fnExactArePiecesSpec)

/-- ITS FALSE NEIGHBOUR: 'it returns false'. Refute it at one input. -/
def fnExactArePiecesWrong : ChangeSpec := { name := "fnExactArePieces", fn := fun _ => fun
  | [d] => { results := [.lit (.bool false)], args := [d] }
  | _ => none }
def FnExactArePiecesWrongFalsely : Prop := fnExactArePiecesRow.holds Try.pinned (OpenSpec.ofChange fnExactArePiecesWrong)

/-- 'laws.FnExactIsChain': WHATEVER THE INPUT: true; the input reads as it did. -/
def fnExactIsChainSpec : ChangeSpec := { name := "fnExactIsChain", fn := fun _ => fun
  | [d] => { results := [.lit (.bool true)], args := [d] }
  | _ => none }
def fnExactIsChainRow : OpenClaim := { program := "ytaonanedhmbmpaa", sum := "bcd25abdafb09c8872c975d00261b7c4466e824dc3d335ab354b974b6b7b4779", func := "loop.example/g01049/laws.FnExactIsChain", spec := "fnExactIsChain", apart := false }
def FnExactIsChainSaid : Prop := fnExactIsChainRow.holds Try.pinned (OpenSpec.ofChange fnExactIsChainSpec)

/-- ITS FALSE NEIGHBOUR: 'it returns false'. Refute it at one input. -/
def fnExactIsChainWrong : ChangeSpec := { name := "fnExactIsChain", fn := fun _ => fun
  | [d] => { results := [.lit (.bool false)], args := [d] }
  | _ => none }
def FnExactIsChainWrongFalsely : Prop := fnExactIsChainRow.holds Try.pinned (OpenSpec.ofChange fnExactIsChainWrong)

/-- 'laws.FnExactIsScore': WHATEVER THE INPUT: true; the input reads as it did. -/
def fnExactIsScoreSpec : ChangeSpec := { name := "fnExactIsScore", fn := fun _ => fun
  | [d] => { results := [.lit (.bool true)], args := [d] }
  | _ => none }
def fnExactIsScoreRow : OpenClaim := { program := "ytaonanedhmbmpaa", sum := "bcd25abdafb09c8872c975d00261b7c4466e824dc3d335ab354b974b6b7b4779", func := "loop.example/g01049/laws.FnExactIsScore", spec := "fnExactIsScore", apart := false }
def FnExactIsScoreSaid : Prop := fnExactIsScoreRow.holds Try.pinned (OpenSpec.ofChange fnExactIsScoreSpec)

/-- ITS FALSE NEIGHBOUR: 'it returns false'. Refute it at one input. -/
def fnExactIsScoreWrong : ChangeSpec := { name := "fnExactIsScore", fn := fun _ => fun
  | [d] => { results := [.lit (.bool false)], args := [d] }
  | _ => none }
def FnExactIsScoreWrongFalsely : Prop := fnExactIsScoreRow.holds Try.pinned (OpenSpec.ofChange fnExactIsScoreWrong)

/-- 'laws.FnExactAreFuses': WHATEVER THE INPUT: true; the input reads as it did. -/
def fnExactAreFusesSpec : ChangeSpec := { name := "fnExactAreFuses", fn := fun _ => fun
  | [d1, d2] => { results := [.lit (.bool true)], args := [d1, d2] }
  | _ => none }
def fnExactAreFusesRow : OpenClaim := { program := "ytaonanedhmbmpaa", sum := "bcd25abdafb09c8872c975d00261b7c4466e824dc3d335ab354b974b6b7b4779", func := "loop.example/g01049/laws.FnExactAreFuses", spec := "fnExactAreFuses", apart := false }
def FnExactAreFusesSaid : Prop := fnExactAreFusesRow.holds Try.pinned (OpenSpec.ofChange fnExactAreFusesSpec)

/-- ITS FALSE NEIGHBOUR: 'it returns false'. Refute it at one input. -/
def fnExactAreFusesWrong : ChangeSpec := { name := "fnExactAreFuses", fn := fun _ => fun
  | [d1, d2] => { results := [.lit (.bool false)], args := [d1, d2] }
  | _ => none }
def FnExactAreFusesWrongFalsely : Prop := fnExactAreFusesRow.holds Try.pinned (OpenSpec.ofChange fnExactAreFusesWrong)

/-- 'laws.FnExactScoreEnd': WHATEVER THE INPUT: true; the input reads as it did. -/
def fnExactScoreEndSpec : ChangeSpec := { name := "fnExactScoreEnd", fn := fun _ => fun
  | [d] => { results := [.lit (.bool true)], args := [d] }
  | _ => none }
def fnExactScoreEndRow : OpenClaim := { program := "ytaonanedhmbmpaa", sum := "bcd25abdafb09c8872c975d00261b7c4466e824dc3d335ab354b974b6b7b4779", func := "loop.example/g01049/laws.FnExactScoreEnd", spec := "fnExactScoreEnd", apart := false }
def FnExactScoreEndSaid : Prop := fnExactScoreEndRow.holds Try.pinned (OpenSpec.ofChange fnExactScoreEndSpec)

/-- ITS FALSE NEIGHBOUR: 'it returns false'. Refute it at one input. -/
def fnExactScoreEndWrong : ChangeSpec := { name := "fnExactScoreEnd", fn := fun _ => fun
  | [d] => { results := [.lit (.bool false)], args := [d] }
  | _ => none }
def FnExactScoreEndWrongFalsely : Prop := fnExactScoreEndRow.holds Try.pinned (OpenSpec.ofChange fnExactScoreEndWrong)

/-- 'laws.FnExactBurstRange': WHATEVER THE INPUT: true; the input reads as it did. -/
def fnExactBurstRangeSpec : ChangeSpec := { name := "fnExactBurstRange", fn := fun _ => fun
  | [d1, d2, d3] => { results := [.lit (.bool true)], args := [d1, d2, d3] }
  | _ => none }
def fnExactBurstRangeRow : OpenClaim := { program := "ytaonanedhmbmpaa", sum := "bcd25abdafb09c8872c975d00261b7c4466e824dc3d335ab354b974b6b7b4779", func := "loop.example/g01049/laws.FnExactBurstRange", spec := "fnExactBurstRange", apart := false }
def FnExactBurstRangeSaid : Prop := fnExactBurstRangeRow.holds Try.pinned (OpenSpec.ofChange fnExactBurstRangeSpec)

/-- ITS FALSE NEIGHBOUR: 'it returns false'. Refute it at one input. -/
def fnExactBurstRangeWrong : ChangeSpec := { name := "fnExactBurstRange", fn := fun _ => fun
  | [d1, d2, d3] => { results := [.lit (.bool false)], args := [d1, d2, d3] }
  | _ => none }
def FnExactBurstRangeWrongFalsely : Prop := fnExactBurstRangeRow.holds Try.pinned (OpenSpec.ofChange fnExactBurstRangeWrong)

/- THE SECOND FORM. 'bulk': how many values and letters a reading holds, each counted each time it is reached (what is shared counts as often as it is met; a slice's spare places count too). A statement '..UptoSaid' is the law's where the arguments, and the package variables that the reading takes, are together of bulk at most 1048576: NARROWER than '..Said'. Prove '..Said' where nothing that the law and all that it calls make is longer than what came in: it says more and counts as full. Else prove '..UptoSaid'. A law counts once. -/
mutual
def uptoBulk {H : Type} : DataW H → Nat
  | .lit (.string bytes) => bytes.length + 1
  | .lit _ => 1
  | .nil => 1
  | .ptr d => uptoBulk d + 1
  | .slice elems spare => uptoBulkAll elems + uptoBulkAll spare + 1
  | .agg parts => uptoBulkAll parts + 1
  | .iface _ d => uptoBulk d + 1
  | .map entries => uptoBulkEntries entries + 1
  | .held _ => 1
def uptoBulkAll {H : Type} : List (DataW H) → Nat
  | [] => 0
  | d :: r => uptoBulk d + uptoBulkAll r
def uptoBulkEntries {H : Type} : List (Lit × DataW H) → Nat
  | [] => 0
  | x :: r => uptoBulkEntry x + uptoBulkEntries r
def uptoBulkEntry {H : Type} : Lit × DataW H → Nat
  | (.string bytes, d) => bytes.length + uptoBulk d + 1
  | (_, d) => uptoBulk d + 1
 end
def uptoSmall : (H : Type) → List (DataW H) → Bool := fun _ ds => decide (uptoBulkAll ds ≤ 1048576)
def OpenSpec.upto (s : _root_.Go.ChangeSpec) : _root_.Go.OpenSpec := { _root_.Go.OpenSpec.ofChange s with cond := some uptoSmall }

/-- 'laws.FnExactArePieces', WHERE WHAT IT READS IS OF BULK AT MOST 1048576: true; the input reads as it did. -/
def fnExactArePiecesUptoRow : OpenClaim := { program := "ytaonanedhmbmpaa", sum := "bcd25abdafb09c8872c975d00261b7c4466e824dc3d335ab354b974b6b7b4779", func := "loop.example/g01049/laws.FnExactArePieces", spec := "fnExactArePieces", apart := false, narrowed := true }
def FnExactArePiecesUptoSaid : Prop := fnExactArePiecesUptoRow.holds Try.pinned (OpenSpec.upto fnExactArePiecesSpec)

/-- 'laws.FnExactIsChain', WHERE WHAT IT READS IS OF BULK AT MOST 1048576: true; the input reads as it did. -/
def fnExactIsChainUptoRow : OpenClaim := { program := "ytaonanedhmbmpaa", sum := "bcd25abdafb09c8872c975d00261b7c4466e824dc3d335ab354b974b6b7b4779", func := "loop.example/g01049/laws.FnExactIsChain", spec := "fnExactIsChain", apart := false, narrowed := true }
def FnExactIsChainUptoSaid : Prop := fnExactIsChainUptoRow.holds Try.pinned (OpenSpec.upto fnExactIsChainSpec)

/-- 'laws.FnExactIsScore', WHERE WHAT IT READS IS OF BULK AT MOST 1048576: true; the input reads as it did. -/
def fnExactIsScoreUptoRow : OpenClaim := { program := "ytaonanedhmbmpaa", sum := "bcd25abdafb09c8872c975d00261b7c4466e824dc3d335ab354b974b6b7b4779", func := "loop.example/g01049/laws.FnExactIsScore", spec := "fnExactIsScore", apart := false, narrowed := true }
def FnExactIsScoreUptoSaid : Prop := fnExactIsScoreUptoRow.holds Try.pinned (OpenSpec.upto fnExactIsScoreSpec)

/-- 'laws.FnExactAreFuses', WHERE WHAT IT READS IS OF BULK AT MOST 1048576: true; the input reads as it did. -/
def fnExactAreFusesUptoRow : OpenClaim := { program := "ytaonanedhmbmpaa", sum := "bcd25abdafb09c8872c975d00261b7c4466e824dc3d335ab354b974b6b7b4779", func := "loop.example/g01049/laws.FnExactAreFuses", spec := "fnExactAreFuses", apart := false, narrowed := true }
def FnExactAreFusesUptoSaid : Prop := fnExactAreFusesUptoRow.holds Try.pinned (OpenSpec.upto fnExactAreFusesSpec)

/-- 'laws.FnExactScoreEnd', WHERE WHAT IT READS IS OF BULK AT MOST 1048576: true; the input reads as it did. -/
def fnExactScoreEndUptoRow : OpenClaim := { program := "ytaonanedhmbmpaa", sum := "bcd25abdafb09c8872c975d00261b7c4466e824dc3d335ab354b974b6b7b4779", func := "loop.example/g01049/laws.FnExactScoreEnd", spec := "fnExactScoreEnd", apart := false, narrowed := true }
def FnExactScoreEndUptoSaid : Prop := fnExactScoreEndUptoRow.holds Try.pinned (OpenSpec.upto fnExactScoreEndSpec)

/-- 'laws.FnExactBurstRange', WHERE WHAT IT READS IS OF BULK AT MOST 1048576: true; the input reads as it did. -/
def fnExactBurstRangeUptoRow : OpenClaim := { program := "ytaonanedhmbmpaa", sum := "bcd25abdafb09c8872c975d00261b7c4466e824dc3d335ab354b974b6b7b4779", func := "loop.example/g01049/laws.FnExactBurstRange", spec := "fnExactBurstRange", apart := false, narrowed := true }
def FnExactBurstRangeUptoSaid : Prop := fnExactBurstRangeUptoRow.holds Try.pinned (OpenSpec.upto fnExactBurstRangeSpec)

end Rows
end Go.Proofs.Ytaonanedhmbmpaa
