/-
  No cell of these rows narrows 'for every input' (looked for: loops, veiled, ifaces, maps, wideKeys, modest, calm, conditions, laid).
  DERIVED. THE GIVEN ROWS OF THIS SEAT. 16 by the template 'for every input the law returns true; each argument reads behind the call as it read before'; 0 by the template 'total and deterministic' (their statements: YtnlbaflbhicooaaTotals.lean).
  GIVEN WITH THE SEED: the statements are not yours to turn. If you find one false, say at which input.
  Laid BY PROGRAM, IN A SANDBOX (cutbox-rows.mjs): the forced cells as the released guide's own fill.sh prints them over the translation 4f3ba62c60393f1e… (all of the seat's roots in one cut). By AI agents, Wed Nov 11 2026. No macro, syntax, notation, axiom, sorry.
-/
import Derived.Test.YtnlbaflbhicooaaChecked
import GoSem.Claim
import GoSem.ClaimJoined
import GoSem.ClaimMapViews
import Derived.JoinedTies
import Derived.KernelRfl
namespace Go.Proofs.Ytnlbaflbhicooaa
/- THE CELL 'sum', in the pinned program and in every row, IS THE sha256 OF THE DUMP (.gsa) THAT YtnlbaflbhicooaaProg.lean LOADS. Nothing in Lean hashes anything: it is a label: what it is worth is what the hold of that sum in a sandbox is worth. -/
noncomputable def Try.pinned : Pinned := { name := "ytnlbaflbhicooaa", sum := "4f3ba62c60393f1e6321df2e9ff365a761805f11a2b1e6fe94f8aa1395638245", checked := Try.checked }
namespace Rows
def none {H : Type} : Left H := { results := [], args := [] }

/-- 'laws.FnExactDropCue': WHATEVER THE INPUT: true; the input reads as it did. -/
def fnExactDropCueSpec : ChangeSpec := { name := "fnExactDropCue", fn := fun _ => fun
  | [d1, d2] => { results := [.lit (.bool true)], args := [d1, d2] }
  | _ => none }
def fnExactDropCueRow : OpenClaim := { program := "ytnlbaflbhicooaa", sum := "4f3ba62c60393f1e6321df2e9ff365a761805f11a2b1e6fe94f8aa1395638245", func := "loop.example/g01049/laws.FnExactDropCue", spec := "fnExactDropCue", apart := false }
def FnExactDropCueSaid : Prop := fnExactDropCueRow.holds Try.pinned (OpenSpec.ofChange fnExactDropCueSpec)

/-- ITS FALSE NEIGHBOUR: 'it returns false'. Refute it at one input. -/
def fnExactDropCueWrong : ChangeSpec := { name := "fnExactDropCue", fn := fun _ => fun
  | [d1, d2] => { results := [.lit (.bool false)], args := [d1, d2] }
  | _ => none }
def FnExactDropCueWrongFalsely : Prop := fnExactDropCueRow.holds Try.pinned (OpenSpec.ofChange fnExactDropCueWrong)

/-- 'laws.FnExactAddCue': WHATEVER THE INPUT: true; the input reads as it did. -/
def fnExactAddCueSpec : ChangeSpec := { name := "fnExactAddCue", fn := fun _ => fun
  | [d1, d2] => { results := [.lit (.bool true)], args := [d1, d2] }
  | _ => none }
def fnExactAddCueRow : OpenClaim := { program := "ytnlbaflbhicooaa", sum := "4f3ba62c60393f1e6321df2e9ff365a761805f11a2b1e6fe94f8aa1395638245", func := "loop.example/g01049/laws.FnExactAddCue", spec := "fnExactAddCue", apart := false }
def FnExactAddCueSaid : Prop := fnExactAddCueRow.holds Try.pinned (OpenSpec.ofChange fnExactAddCueSpec)

/-- ITS FALSE NEIGHBOUR: 'it returns false'. Refute it at one input. -/
def fnExactAddCueWrong : ChangeSpec := { name := "fnExactAddCue", fn := fun _ => fun
  | [d1, d2] => { results := [.lit (.bool false)], args := [d1, d2] }
  | _ => none }
def FnExactAddCueWrongFalsely : Prop := fnExactAddCueRow.holds Try.pinned (OpenSpec.ofChange fnExactAddCueWrong)

/-- 'laws.FnExactDarkGaps': WHATEVER THE INPUT: true; the input reads as it did. -/
def fnExactDarkGapsSpec : ChangeSpec := { name := "fnExactDarkGaps", fn := fun _ => fun
  | [d1, d2] => { results := [.lit (.bool true)], args := [d1, d2] }
  | _ => none }
def fnExactDarkGapsRow : OpenClaim := { program := "ytnlbaflbhicooaa", sum := "4f3ba62c60393f1e6321df2e9ff365a761805f11a2b1e6fe94f8aa1395638245", func := "loop.example/g01049/laws.FnExactDarkGaps", spec := "fnExactDarkGaps", apart := false }
def FnExactDarkGapsSaid : Prop := fnExactDarkGapsRow.holds Try.pinned (OpenSpec.ofChange fnExactDarkGapsSpec)

/-- ITS FALSE NEIGHBOUR: 'it returns false'. Refute it at one input. -/
def fnExactDarkGapsWrong : ChangeSpec := { name := "fnExactDarkGaps", fn := fun _ => fun
  | [d1, d2] => { results := [.lit (.bool false)], args := [d1, d2] }
  | _ => none }
def FnExactDarkGapsWrongFalsely : Prop := fnExactDarkGapsRow.holds Try.pinned (OpenSpec.ofChange fnExactDarkGapsWrong)

/-- 'laws.FnExactIsShow': WHATEVER THE INPUT: true; the input reads as it did. -/
def fnExactIsShowSpec : ChangeSpec := { name := "fnExactIsShow", fn := fun _ => fun
  | [d] => { results := [.lit (.bool true)], args := [d] }
  | _ => none }
def fnExactIsShowRow : OpenClaim := { program := "ytnlbaflbhicooaa", sum := "4f3ba62c60393f1e6321df2e9ff365a761805f11a2b1e6fe94f8aa1395638245", func := "loop.example/g01049/laws.FnExactIsShow", spec := "fnExactIsShow", apart := false }
def FnExactIsShowSaid : Prop := fnExactIsShowRow.holds Try.pinned (OpenSpec.ofChange fnExactIsShowSpec)

/-- ITS FALSE NEIGHBOUR: 'it returns false'. Refute it at one input. -/
def fnExactIsShowWrong : ChangeSpec := { name := "fnExactIsShow", fn := fun _ => fun
  | [d] => { results := [.lit (.bool false)], args := [d] }
  | _ => none }
def FnExactIsShowWrongFalsely : Prop := fnExactIsShowRow.holds Try.pinned (OpenSpec.ofChange fnExactIsShowWrong)

/-- 'laws.FnExactShowEnd': WHATEVER THE INPUT: true; the input reads as it did. -/
def fnExactShowEndSpec : ChangeSpec := { name := "fnExactShowEnd", fn := fun _ => fun
  | [d] => { results := [.lit (.bool true)], args := [d] }
  | _ => none }
def fnExactShowEndRow : OpenClaim := { program := "ytnlbaflbhicooaa", sum := "4f3ba62c60393f1e6321df2e9ff365a761805f11a2b1e6fe94f8aa1395638245", func := "loop.example/g01049/laws.FnExactShowEnd", spec := "fnExactShowEnd", apart := false }
def FnExactShowEndSaid : Prop := fnExactShowEndRow.holds Try.pinned (OpenSpec.ofChange fnExactShowEndSpec)

/-- ITS FALSE NEIGHBOUR: 'it returns false'. Refute it at one input. -/
def fnExactShowEndWrong : ChangeSpec := { name := "fnExactShowEnd", fn := fun _ => fun
  | [d] => { results := [.lit (.bool false)], args := [d] }
  | _ => none }
def FnExactShowEndWrongFalsely : Prop := fnExactShowEndRow.holds Try.pinned (OpenSpec.ofChange fnExactShowEndWrong)

/-- 'laws.FnExactSurelyBefore': WHATEVER THE INPUT: true; the input reads as it did. -/
def fnExactSurelyBeforeSpec : ChangeSpec := { name := "fnExactSurelyBefore", fn := fun _ => fun
  | [d1, d2, d3] => { results := [.lit (.bool true)], args := [d1, d2, d3] }
  | _ => none }
def fnExactSurelyBeforeRow : OpenClaim := { program := "ytnlbaflbhicooaa", sum := "4f3ba62c60393f1e6321df2e9ff365a761805f11a2b1e6fe94f8aa1395638245", func := "loop.example/g01049/laws.FnExactSurelyBefore", spec := "fnExactSurelyBefore", apart := false }
def FnExactSurelyBeforeSaid : Prop := fnExactSurelyBeforeRow.holds Try.pinned (OpenSpec.ofChange fnExactSurelyBeforeSpec)

/-- ITS FALSE NEIGHBOUR: 'it returns false'. Refute it at one input. -/
def fnExactSurelyBeforeWrong : ChangeSpec := { name := "fnExactSurelyBefore", fn := fun _ => fun
  | [d1, d2, d3] => { results := [.lit (.bool false)], args := [d1, d2, d3] }
  | _ => none }
def FnExactSurelyBeforeWrongFalsely : Prop := fnExactSurelyBeforeRow.holds Try.pinned (OpenSpec.ofChange fnExactSurelyBeforeWrong)

/-- 'laws.FnExactMayMeet': WHATEVER THE INPUT: true; the input reads as it did. -/
def fnExactMayMeetSpec : ChangeSpec := { name := "fnExactMayMeet", fn := fun _ => fun
  | [d1, d2, d3] => { results := [.lit (.bool true)], args := [d1, d2, d3] }
  | _ => none }
def fnExactMayMeetRow : OpenClaim := { program := "ytnlbaflbhicooaa", sum := "4f3ba62c60393f1e6321df2e9ff365a761805f11a2b1e6fe94f8aa1395638245", func := "loop.example/g01049/laws.FnExactMayMeet", spec := "fnExactMayMeet", apart := false }
def FnExactMayMeetSaid : Prop := fnExactMayMeetRow.holds Try.pinned (OpenSpec.ofChange fnExactMayMeetSpec)

/-- ITS FALSE NEIGHBOUR: 'it returns false'. Refute it at one input. -/
def fnExactMayMeetWrong : ChangeSpec := { name := "fnExactMayMeet", fn := fun _ => fun
  | [d1, d2, d3] => { results := [.lit (.bool false)], args := [d1, d2, d3] }
  | _ => none }
def FnExactMayMeetWrongFalsely : Prop := fnExactMayMeetRow.holds Try.pinned (OpenSpec.ofChange fnExactMayMeetWrong)

/-- 'laws.FnExactBusiestTime': WHATEVER THE INPUT: true; the input reads as it did. -/
def fnExactBusiestTimeSpec : ChangeSpec := { name := "fnExactBusiestTime", fn := fun _ => fun
  | [d1, d2] => { results := [.lit (.bool true)], args := [d1, d2] }
  | _ => none }
def fnExactBusiestTimeRow : OpenClaim := { program := "ytnlbaflbhicooaa", sum := "4f3ba62c60393f1e6321df2e9ff365a761805f11a2b1e6fe94f8aa1395638245", func := "loop.example/g01049/laws.FnExactBusiestTime", spec := "fnExactBusiestTime", apart := false }
def FnExactBusiestTimeSaid : Prop := fnExactBusiestTimeRow.holds Try.pinned (OpenSpec.ofChange fnExactBusiestTimeSpec)

/-- ITS FALSE NEIGHBOUR: 'it returns false'. Refute it at one input. -/
def fnExactBusiestTimeWrong : ChangeSpec := { name := "fnExactBusiestTime", fn := fun _ => fun
  | [d1, d2] => { results := [.lit (.bool false)], args := [d1, d2] }
  | _ => none }
def FnExactBusiestTimeWrongFalsely : Prop := fnExactBusiestTimeRow.holds Try.pinned (OpenSpec.ofChange fnExactBusiestTimeWrong)

/-- 'laws.FnExactMostAtOnce': WHATEVER THE INPUT: true; the input reads as it did. -/
def fnExactMostAtOnceSpec : ChangeSpec := { name := "fnExactMostAtOnce", fn := fun _ => fun
  | [d] => { results := [.lit (.bool true)], args := [d] }
  | _ => none }
def fnExactMostAtOnceRow : OpenClaim := { program := "ytnlbaflbhicooaa", sum := "4f3ba62c60393f1e6321df2e9ff365a761805f11a2b1e6fe94f8aa1395638245", func := "loop.example/g01049/laws.FnExactMostAtOnce", spec := "fnExactMostAtOnce", apart := false }
def FnExactMostAtOnceSaid : Prop := fnExactMostAtOnceRow.holds Try.pinned (OpenSpec.ofChange fnExactMostAtOnceSpec)

/-- ITS FALSE NEIGHBOUR: 'it returns false'. Refute it at one input. -/
def fnExactMostAtOnceWrong : ChangeSpec := { name := "fnExactMostAtOnce", fn := fun _ => fun
  | [d] => { results := [.lit (.bool false)], args := [d] }
  | _ => none }
def FnExactMostAtOnceWrongFalsely : Prop := fnExactMostAtOnceRow.holds Try.pinned (OpenSpec.ofChange fnExactMostAtOnceWrong)

/-- 'laws.FnExactCountUsed': WHATEVER THE INPUT: true; the input reads as it did. -/
def fnExactCountUsedSpec : ChangeSpec := { name := "fnExactCountUsed", fn := fun _ => fun
  | [d] => { results := [.lit (.bool true)], args := [d] }
  | _ => none }
def fnExactCountUsedRow : OpenClaim := { program := "ytnlbaflbhicooaa", sum := "4f3ba62c60393f1e6321df2e9ff365a761805f11a2b1e6fe94f8aa1395638245", func := "loop.example/g01049/laws.FnExactCountUsed", spec := "fnExactCountUsed", apart := false }
def FnExactCountUsedSaid : Prop := fnExactCountUsedRow.holds Try.pinned (OpenSpec.ofChange fnExactCountUsedSpec)

/-- ITS FALSE NEIGHBOUR: 'it returns false'. Refute it at one input. -/
def fnExactCountUsedWrong : ChangeSpec := { name := "fnExactCountUsed", fn := fun _ => fun
  | [d] => { results := [.lit (.bool false)], args := [d] }
  | _ => none }
def FnExactCountUsedWrongFalsely : Prop := fnExactCountUsedRow.holds Try.pinned (OpenSpec.ofChange fnExactCountUsedWrong)

/-- 'laws.FnExactFireTimes': WHATEVER THE INPUT: true; the input reads as it did. -/
def fnExactFireTimesSpec : ChangeSpec := { name := "fnExactFireTimes", fn := fun _ => fun
  | [d] => { results := [.lit (.bool true)], args := [d] }
  | _ => none }
def fnExactFireTimesRow : OpenClaim := { program := "ytnlbaflbhicooaa", sum := "4f3ba62c60393f1e6321df2e9ff365a761805f11a2b1e6fe94f8aa1395638245", func := "loop.example/g01049/laws.FnExactFireTimes", spec := "fnExactFireTimes", apart := false }
def FnExactFireTimesSaid : Prop := fnExactFireTimesRow.holds Try.pinned (OpenSpec.ofChange fnExactFireTimesSpec)

/-- ITS FALSE NEIGHBOUR: 'it returns false'. Refute it at one input. -/
def fnExactFireTimesWrong : ChangeSpec := { name := "fnExactFireTimes", fn := fun _ => fun
  | [d] => { results := [.lit (.bool false)], args := [d] }
  | _ => none }
def FnExactFireTimesWrongFalsely : Prop := fnExactFireTimesRow.holds Try.pinned (OpenSpec.ofChange fnExactFireTimesWrong)

/-- 'laws.FnExactOffBeat': WHATEVER THE INPUT: true; the input reads as it did. -/
def fnExactOffBeatSpec : ChangeSpec := { name := "fnExactOffBeat", fn := fun _ => fun
  | [d1, d2] => { results := [.lit (.bool true)], args := [d1, d2] }
  | _ => none }
def fnExactOffBeatRow : OpenClaim := { program := "ytnlbaflbhicooaa", sum := "4f3ba62c60393f1e6321df2e9ff365a761805f11a2b1e6fe94f8aa1395638245", func := "loop.example/g01049/laws.FnExactOffBeat", spec := "fnExactOffBeat", apart := false }
def FnExactOffBeatSaid : Prop := fnExactOffBeatRow.holds Try.pinned (OpenSpec.ofChange fnExactOffBeatSpec)

/-- ITS FALSE NEIGHBOUR: 'it returns false'. Refute it at one input. -/
def fnExactOffBeatWrong : ChangeSpec := { name := "fnExactOffBeat", fn := fun _ => fun
  | [d1, d2] => { results := [.lit (.bool false)], args := [d1, d2] }
  | _ => none }
def FnExactOffBeatWrongFalsely : Prop := fnExactOffBeatRow.holds Try.pinned (OpenSpec.ofChange fnExactOffBeatWrong)

/-- 'laws.FnExactFireOrder': WHATEVER THE INPUT: true; the input reads as it did. -/
def fnExactFireOrderSpec : ChangeSpec := { name := "fnExactFireOrder", fn := fun _ => fun
  | [d] => { results := [.lit (.bool true)], args := [d] }
  | _ => none }
def fnExactFireOrderRow : OpenClaim := { program := "ytnlbaflbhicooaa", sum := "4f3ba62c60393f1e6321df2e9ff365a761805f11a2b1e6fe94f8aa1395638245", func := "loop.example/g01049/laws.FnExactFireOrder", spec := "fnExactFireOrder", apart := false }
def FnExactFireOrderSaid : Prop := fnExactFireOrderRow.holds Try.pinned (OpenSpec.ofChange fnExactFireOrderSpec)

/-- ITS FALSE NEIGHBOUR: 'it returns false'. Refute it at one input. -/
def fnExactFireOrderWrong : ChangeSpec := { name := "fnExactFireOrder", fn := fun _ => fun
  | [d] => { results := [.lit (.bool false)], args := [d] }
  | _ => none }
def FnExactFireOrderWrongFalsely : Prop := fnExactFireOrderRow.holds Try.pinned (OpenSpec.ofChange fnExactFireOrderWrong)

/-- 'laws.FnExactFiredAt': WHATEVER THE INPUT: true; the input reads as it did. -/
def fnExactFiredAtSpec : ChangeSpec := { name := "fnExactFiredAt", fn := fun _ => fun
  | [d1, d2] => { results := [.lit (.bool true)], args := [d1, d2] }
  | _ => none }
def fnExactFiredAtRow : OpenClaim := { program := "ytnlbaflbhicooaa", sum := "4f3ba62c60393f1e6321df2e9ff365a761805f11a2b1e6fe94f8aa1395638245", func := "loop.example/g01049/laws.FnExactFiredAt", spec := "fnExactFiredAt", apart := false }
def FnExactFiredAtSaid : Prop := fnExactFiredAtRow.holds Try.pinned (OpenSpec.ofChange fnExactFiredAtSpec)

/-- ITS FALSE NEIGHBOUR: 'it returns false'. Refute it at one input. -/
def fnExactFiredAtWrong : ChangeSpec := { name := "fnExactFiredAt", fn := fun _ => fun
  | [d1, d2] => { results := [.lit (.bool false)], args := [d1, d2] }
  | _ => none }
def FnExactFiredAtWrongFalsely : Prop := fnExactFiredAtRow.holds Try.pinned (OpenSpec.ofChange fnExactFiredAtWrong)

/-- 'laws.FnExactWindowsOf': WHATEVER THE INPUT: true; the input reads as it did. -/
def fnExactWindowsOfSpec : ChangeSpec := { name := "fnExactWindowsOf", fn := fun _ => fun
  | [d] => { results := [.lit (.bool true)], args := [d] }
  | _ => none }
def fnExactWindowsOfRow : OpenClaim := { program := "ytnlbaflbhicooaa", sum := "4f3ba62c60393f1e6321df2e9ff365a761805f11a2b1e6fe94f8aa1395638245", func := "loop.example/g01049/laws.FnExactWindowsOf", spec := "fnExactWindowsOf", apart := false }
def FnExactWindowsOfSaid : Prop := fnExactWindowsOfRow.holds Try.pinned (OpenSpec.ofChange fnExactWindowsOfSpec)

/-- ITS FALSE NEIGHBOUR: 'it returns false'. Refute it at one input. -/
def fnExactWindowsOfWrong : ChangeSpec := { name := "fnExactWindowsOf", fn := fun _ => fun
  | [d] => { results := [.lit (.bool false)], args := [d] }
  | _ => none }
def FnExactWindowsOfWrongFalsely : Prop := fnExactWindowsOfRow.holds Try.pinned (OpenSpec.ofChange fnExactWindowsOfWrong)

/-- 'laws.FnExactUnsurePairs': WHATEVER THE INPUT: true; the input reads as it did. -/
def fnExactUnsurePairsSpec : ChangeSpec := { name := "fnExactUnsurePairs", fn := fun _ => fun
  | [d] => { results := [.lit (.bool true)], args := [d] }
  | _ => none }
def fnExactUnsurePairsRow : OpenClaim := { program := "ytnlbaflbhicooaa", sum := "4f3ba62c60393f1e6321df2e9ff365a761805f11a2b1e6fe94f8aa1395638245", func := "loop.example/g01049/laws.FnExactUnsurePairs", spec := "fnExactUnsurePairs", apart := false }
def FnExactUnsurePairsSaid : Prop := fnExactUnsurePairsRow.holds Try.pinned (OpenSpec.ofChange fnExactUnsurePairsSpec)

/-- ITS FALSE NEIGHBOUR: 'it returns false'. Refute it at one input. -/
def fnExactUnsurePairsWrong : ChangeSpec := { name := "fnExactUnsurePairs", fn := fun _ => fun
  | [d] => { results := [.lit (.bool false)], args := [d] }
  | _ => none }
def FnExactUnsurePairsWrongFalsely : Prop := fnExactUnsurePairsRow.holds Try.pinned (OpenSpec.ofChange fnExactUnsurePairsWrong)

/- THE SECOND FORM. 'bulk': how many values and letters a reading holds, each counted each time it is reached (what is shared counts as often as it is met; a slice's spare places count too). A statement '..UptoSaid' is the law's where the arguments, and the package variables that the reading takes, are together of bulk at most 1048576: NARROWER than '..Said'. Prove '..Said' where nothing that the law and all that it calls make is longer than what came in: it says more and counts as full. Else prove '..UptoSaid'. A law counts once. -/
mutual
def uptoBulk {H : Type} : DataW H → Nat
  | .lit (.string bytes) => bytes.length + 1
  | .lit _ => 1
  | .nil => 1
  | .ptr d => uptoBulk d + 1
  | .slice elems spare => uptoBulkAll elems + uptoBulkAll spare + 1
  | .agg parts => uptoBulkAll parts + 1
  | .iface _ d => uptoBulk d + 1
  | .map entries => uptoBulkEntries entries + 1
  | .held _ => 1
def uptoBulkAll {H : Type} : List (DataW H) → Nat
  | [] => 0
  | d :: r => uptoBulk d + uptoBulkAll r
def uptoBulkEntries {H : Type} : List (Lit × DataW H) → Nat
  | [] => 0
  | x :: r => uptoBulkEntry x + uptoBulkEntries r
def uptoBulkEntry {H : Type} : Lit × DataW H → Nat
  | (.string bytes, d) => bytes.length + uptoBulk d + 1
  | (_, d) => uptoBulk d + 1
 end
def uptoSmall : (H : Type) → List (DataW H) → Bool := fun _ ds => decide (uptoBulkAll ds ≤ 1048576)
def OpenSpec.upto (s : _root_.Go.ChangeSpec) : _root_.Go.OpenSpec := { _root_.Go.OpenSpec.ofChange s with cond := some uptoSmall }

/-- 'laws.FnExactDropCue', WHERE WHAT IT READS IS OF BULK AT MOST 1048576: true; the input reads as it did. -/
def fnExactDropCueUptoRow : OpenClaim := { program := "ytnlbaflbhicooaa", sum := "4f3ba62c60393f1e6321df2e9ff365a761805f11a2b1e6fe94f8aa1395638245", func := "loop.example/g01049/laws.FnExactDropCue", spec := "fnExactDropCue", apart := false, narrowed := true }
def FnExactDropCueUptoSaid : Prop := fnExactDropCueUptoRow.holds Try.pinned (OpenSpec.upto fnExactDropCueSpec)

/-- 'laws.FnExactAddCue', WHERE WHAT IT READS IS OF BULK AT MOST 1048576: true; the input reads as it did. -/
def fnExactAddCueUptoRow : OpenClaim := { program := "ytnlbaflbhicooaa", sum := "4f3ba62c60393f1e6321df2e9ff365a761805f11a2b1e6fe94f8aa1395638245", func := "loop.example/g01049/laws.FnExactAddCue", spec := "fnExactAddCue", apart := false, narrowed := true }
def FnExactAddCueUptoSaid : Prop := fnExactAddCueUptoRow.holds Try.pinned (OpenSpec.upto fnExactAddCueSpec)

/-- 'laws.FnExactDarkGaps', WHERE WHAT IT READS IS OF BULK AT MOST 1048576: true; the input reads as it did. -/
def fnExactDarkGapsUptoRow : OpenClaim := { program := "ytnlbaflbhicooaa", sum := "4f3ba62c60393f1e6321df2e9ff365a761805f11a2b1e6fe94f8aa1395638245", func := "loop.example/g01049/laws.FnExactDarkGaps", spec := "fnExactDarkGaps", apart := false, narrowed := true }
def FnExactDarkGapsUptoSaid : Prop := fnExactDarkGapsUptoRow.holds Try.pinned (OpenSpec.upto fnExactDarkGapsSpec)

/-- 'laws.FnExactIsShow', WHERE WHAT IT READS IS OF BULK AT MOST 1048576: true; the input reads as it did. -/
def fnExactIsShowUptoRow : OpenClaim := { program := "ytnlbaflbhicooaa", sum := "4f3ba62c60393f1e6321df2e9ff365a761805f11a2b1e6fe94f8aa1395638245", func := "loop.example/g01049/laws.FnExactIsShow", spec := "fnExactIsShow", apart := false, narrowed := true }
def FnExactIsShowUptoSaid : Prop := fnExactIsShowUptoRow.holds Try.pinned (OpenSpec.upto fnExactIsShowSpec)

/-- 'laws.FnExactShowEnd', WHERE WHAT IT READS IS OF BULK AT MOST 1048576: true; the input reads as it did. -/
def fnExactShowEndUptoRow : OpenClaim := { program := "ytnlbaflbhicooaa", sum := "4f3ba62c60393f1e6321df2e9ff365a761805f11a2b1e6fe94f8aa1395638245", func := "loop.example/g01049/laws.FnExactShowEnd", spec := "fnExactShowEnd", apart := false, narrowed := true }
def FnExactShowEndUptoSaid : Prop := fnExactShowEndUptoRow.holds Try.pinned (OpenSpec.upto fnExactShowEndSpec)

/-- 'laws.FnExactSurelyBefore', WHERE WHAT IT READS IS OF BULK AT MOST 1048576: true; the input reads as it did. -/
def fnExactSurelyBeforeUptoRow : OpenClaim := { program := "ytnlbaflbhicooaa", sum := "4f3ba62c60393f1e6321df2e9ff365a761805f11a2b1e6fe94f8aa1395638245", func := "loop.example/g01049/laws.FnExactSurelyBefore", spec := "fnExactSurelyBefore", apart := false, narrowed := true }
def FnExactSurelyBeforeUptoSaid : Prop := fnExactSurelyBeforeUptoRow.holds Try.pinned (OpenSpec.upto fnExactSurelyBeforeSpec)

/-- 'laws.FnExactMayMeet', WHERE WHAT IT READS IS OF BULK AT MOST 1048576: true; the input reads as it did. -/
def fnExactMayMeetUptoRow : OpenClaim := { program := "ytnlbaflbhicooaa", sum := "4f3ba62c60393f1e6321df2e9ff365a761805f11a2b1e6fe94f8aa1395638245", func := "loop.example/g01049/laws.FnExactMayMeet", spec := "fnExactMayMeet", apart := false, narrowed := true }
def FnExactMayMeetUptoSaid : Prop := fnExactMayMeetUptoRow.holds Try.pinned (OpenSpec.upto fnExactMayMeetSpec)

/-- 'laws.FnExactBusiestTime', WHERE WHAT IT READS IS OF BULK AT MOST 1048576: true; the input reads as it did. -/
def fnExactBusiestTimeUptoRow : OpenClaim := { program := "ytnlbaflbhicooaa", sum := "4f3ba62c60393f1e6321df2e9ff365a761805f11a2b1e6fe94f8aa1395638245", func := "loop.example/g01049/laws.FnExactBusiestTime", spec := "fnExactBusiestTime", apart := false, narrowed := true }
def FnExactBusiestTimeUptoSaid : Prop := fnExactBusiestTimeUptoRow.holds Try.pinned (OpenSpec.upto fnExactBusiestTimeSpec)

/-- 'laws.FnExactMostAtOnce', WHERE WHAT IT READS IS OF BULK AT MOST 1048576: true; the input reads as it did. -/
def fnExactMostAtOnceUptoRow : OpenClaim := { program := "ytnlbaflbhicooaa", sum := "4f3ba62c60393f1e6321df2e9ff365a761805f11a2b1e6fe94f8aa1395638245", func := "loop.example/g01049/laws.FnExactMostAtOnce", spec := "fnExactMostAtOnce", apart := false, narrowed := true }
def FnExactMostAtOnceUptoSaid : Prop := fnExactMostAtOnceUptoRow.holds Try.pinned (OpenSpec.upto fnExactMostAtOnceSpec)

/-- 'laws.FnExactCountUsed', WHERE WHAT IT READS IS OF BULK AT MOST 1048576: true; the input reads as it did. -/
def fnExactCountUsedUptoRow : OpenClaim := { program := "ytnlbaflbhicooaa", sum := "4f3ba62c60393f1e6321df2e9ff365a761805f11a2b1e6fe94f8aa1395638245", func := "loop.example/g01049/laws.FnExactCountUsed", spec := "fnExactCountUsed", apart := false, narrowed := true }
def FnExactCountUsedUptoSaid : Prop := fnExactCountUsedUptoRow.holds Try.pinned (OpenSpec.upto fnExactCountUsedSpec)

/-- 'laws.FnExactFireTimes', WHERE WHAT IT READS IS OF BULK AT MOST 1048576: true; the input reads as it did. -/
def fnExactFireTimesUptoRow : OpenClaim := { program := "ytnlbaflbhicooaa", sum := "4f3ba62c60393f1e6321df2e9ff365a761805f11a2b1e6fe94f8aa1395638245", func := "loop.example/g01049/laws.FnExactFireTimes", spec := "fnExactFireTimes", apart := false, narrowed := true }
def FnExactFireTimesUptoSaid : Prop := fnExactFireTimesUptoRow.holds Try.pinned (OpenSpec.upto fnExactFireTimesSpec)

/-- 'laws.FnExactOffBeat', WHERE WHAT IT READS IS OF BULK AT MOST 1048576: true; the input reads as it did. -/
def fnExactOffBeatUptoRow : OpenClaim := { program := "ytnlbaflbhicooaa", sum := "4f3ba62c60393f1e6321df2e9ff365a761805f11a2b1e6fe94f8aa1395638245", func := "loop.example/g01049/laws.FnExactOffBeat", spec := "fnExactOffBeat", apart := false, narrowed := true }
def FnExactOffBeatUptoSaid : Prop := fnExactOffBeatUptoRow.holds Try.pinned (OpenSpec.upto fnExactOffBeatSpec)

/-- 'laws.FnExactFireOrder', WHERE WHAT IT READS IS OF BULK AT MOST 1048576: true; the input reads as it did. -/
def fnExactFireOrderUptoRow : OpenClaim := { program := "ytnlbaflbhicooaa", sum := "4f3ba62c60393f1e6321df2e9ff365a761805f11a2b1e6fe94f8aa1395638245", func := "loop.example/g01049/laws.FnExactFireOrder", spec := "fnExactFireOrder", apart := false, narrowed := true }
def FnExactFireOrderUptoSaid : Prop := fnExactFireOrderUptoRow.holds Try.pinned (OpenSpec.upto fnExactFireOrderSpec)

/-- 'laws.FnExactFiredAt', WHERE WHAT IT READS IS OF BULK AT MOST 1048576: true; the input reads as it did. -/
def fnExactFiredAtUptoRow : OpenClaim := { program := "ytnlbaflbhicooaa", sum := "4f3ba62c60393f1e6321df2e9ff365a761805f11a2b1e6fe94f8aa1395638245", func := "loop.example/g01049/laws.FnExactFiredAt", spec := "fnExactFiredAt", apart := false, narrowed := true }
def FnExactFiredAtUptoSaid : Prop := fnExactFiredAtUptoRow.holds Try.pinned (OpenSpec.upto fnExactFiredAtSpec)

/-- 'laws.FnExactWindowsOf', WHERE WHAT IT READS IS OF BULK AT MOST 1048576: true; the input reads as it did. -/
def fnExactWindowsOfUptoRow : OpenClaim := { program := "ytnlbaflbhicooaa", sum := "4f3ba62c60393f1e6321df2e9ff365a761805f11a2b1e6fe94f8aa1395638245", func := "loop.example/g01049/laws.FnExactWindowsOf", spec := "fnExactWindowsOf", apart := false, narrowed := true }
def FnExactWindowsOfUptoSaid : Prop := fnExactWindowsOfUptoRow.holds Try.pinned (OpenSpec.upto fnExactWindowsOfSpec)

/-- 'laws.FnExactUnsurePairs', WHERE WHAT IT READS IS OF BULK AT MOST 1048576: true; the input reads as it did. -/
def fnExactUnsurePairsUptoRow : OpenClaim := { program := "ytnlbaflbhicooaa", sum := "4f3ba62c60393f1e6321df2e9ff365a761805f11a2b1e6fe94f8aa1395638245", func := "loop.example/g01049/laws.FnExactUnsurePairs", spec := "fnExactUnsurePairs", apart := false, narrowed := true }
def FnExactUnsurePairsUptoSaid : Prop := fnExactUnsurePairsUptoRow.holds Try.pinned (OpenSpec.upto fnExactUnsurePairsSpec)

end Rows
end Go.Proofs.Ytnlbaflbhicooaa
