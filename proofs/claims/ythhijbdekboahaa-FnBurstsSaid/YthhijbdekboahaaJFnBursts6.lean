import Derived.Test.YthhijbdekboahaaJFnBursts5
import Derived.Below
import Derived.Deep.Draws
import Derived.Deep.AppendLies
import Derived.Maps.AppendAt
import Derived.OwnWalk
import Derived.Laws.BytesArg
import Derived.Laws.MakeOwn
import Derived.Laws.OwnMore
import Derived.Tactics
import Derived.Lib.ConvBytes
import Derived.Laws.Slices
import Derived.WalkKit
import Derived.KernelRfl
import Derived.RowKit3
import Derived.Deep.LoopGhost
import Derived.Deep.QuietTactic
import Derived.BigQuiet
import Derived.WideLaws
import Derived.Deep.DeepCutAuto
import Derived.Deep.CutBlock
import Derived.Deep.RegionHeld3
import Derived.Lib.AppendStr
import Derived.ArgAppend
import Derived.Laws.IdiomCopy
import Derived.RowKit
import Derived.OrdersHeld
import Derived.Laws.BitsLemmas
import Derived.Laws.StructEq
import Derived.Test.YthhijbdekboahaaProg
import Derived.Laws.Cover1
namespace Go.Proofs.Ythhijbdekboahaa.F
open Go.RowKit Go.Proofs.YthhijbdekboahaaW.PrintWords Go.Proofs.YthhijbdekboahaaW.PrintLast Go.Proofs.YthhijbdekboahaaW.PrintMore
attribute [local go_sem] max2_int min2_int max_two min_two max_three min_three max_four min_four
set_option linter.unusedVariables false
set_option linter.unusedSimpArgs false
mutual
def laws_FnBursts.j0 : Nat → List Int → Int → Int → Int → List (List Int) → List (List Int) → Int → List Int → Int → Bool → List (S104) → List (S62) → List (S39) → Option (Bool)
 | 0, _, _, _, _, _, _, _, _, _, _, _, _, _ => none
 | k + 1, x0, x4, x5, x6, x10, x12, x15, x16, x17, x111, x1368000, x1368001, x1368002 => if x111 = true then (some false) else (laws_FnBursts.l0 k x0 x4 x5 x6 x10 x12 x15 x16 x17 0 x1368000 x1368001 x1368002)
def laws_FnBursts.l0 : Nat → List Int → Int → Int → Int → List (List Int) → List (List Int) → Int → List Int → Int → Int → List (S104) → List (S62) → List (S39) → Option (Bool)
 | 0, _, _, _, _, _, _, _, _, _, _, _, _, _ => none
 | k + 1, x0, x4, x5, x6, x10, x12, x15, x16, x17, x20, x1368000, x1368001, x1368002 => if x17 = 0 then (laws_FnBursts.j2 k x0 x4 x5 x6 x10 x12 x15 x16 x17 x20 (decide (x20 < (x1368002.length : Int))) x1368000 x1368001 x1368002) else (laws_FnBursts.j2 k x0 x4 x5 x6 x10 x12 x15 x16 x17 x20 false x1368000 x1368001 x1368002)
def laws_FnBursts.j2 : Nat → List Int → Int → Int → Int → List (List Int) → List (List Int) → Int → List Int → Int → Int → Bool → List (S104) → List (S62) → List (S39) → Option (Bool)
 | 0, _, _, _, _, _, _, _, _, _, _, _, _, _, _ => none
 | k + 1, x0, x4, x5, x6, x10, x12, x15, x16, x17, x20, x120, x1368000, x1368001, x1368002 => if x120 = true then (if 0 ≤ x20 then (if x20 < (x1368002.length : Int) then ((impl_FindArticle.f k x1368001 ((rd_T39 x1368002 x20).f2)).bind fun bt1379 => ((spec_FindArticle.f k x1368001 ((rd_T39 x1368002 x20).f2)).bind fun bt1382 => (if bt1379.1 = bt1382.1 then (laws_FnBursts.j3 k x0 x4 x5 x6 x10 x12 x15 x16 x17 x20 bt1379.1 bt1379.2 (bt1379.2 != bt1382.2) x1368000 x1368001 x1368002) else (laws_FnBursts.j3 k x0 x4 x5 x6 x10 x12 x15 x16 x17 x20 bt1379.1 bt1379.2 true x1368000 x1368001 x1368002)))) else (none)) else (none)) else (if x6 = 0 then (laws_FnBursts.j4 k x0 x4 x5 x6 x10 x12 ((x10.length : Int) == 0)) else (laws_FnBursts.j4 k x0 x4 x5 x6 x10 x12 true))
def laws_FnBursts.j3 : Nat → List Int → Int → Int → Int → List (List Int) → List (List Int) → Int → List Int → Int → Int → Int → Int → Bool → List (S104) → List (S62) → List (S39) → Option (Bool)
 | 0, _, _, _, _, _, _, _, _, _, _, _, _, _, _, _, _ => none
 | k + 1, x0, x4, x5, x6, x10, x12, x15, x16, x17, x20, x21, x22, x154, x1368000, x1368001, x1368002 => if x154 = true then (some false) else (if x22 = 0 then ((laws_hasInt.f k x16 x20).bind fun t1384 => (if 0 ≤ x21 then (if x21 < (x1368001.length : Int) then (if (t1384 != (decide (((rd_T62 x1368001 x21).f4) > x15))) = true then (some false) else (laws_FnBursts.l0 k x0 x4 x5 x6 x10 x12 x15 x16 x17 (wrap64 (x20 + 1)) x1368000 x1368001 x1368002)) else (none)) else (none))) else (some false))
def laws_FnBursts.j4 : Nat → List Int → Int → Int → Int → List (List Int) → List (List Int) → Bool → Option (Bool)
 | 0, _, _, _, _, _, _, _ => none
 | k + 1, x0, x4, x5, x6, x10, x12, x177 => if x177 = true then (if x6 = 0 then (if x5 = 0 then (some (x4 == 0)) else (some false)) else (some true)) else ((laws_roll.f k x0 901).bind fun bt1386 => ((laws_dice_below.f bt1386.1 bt1386.2.1 bt1386.2.2 (x12.length : Int)).bind fun bt1390 => (if 0 ≤ bt1390.1 then (if bt1390.1 < (x12.length : Int) then (if 1 < ((rd_L6 x12 bt1390.1).length : Int) then (laws_FnBursts.l1 k x4 x5 x10 x12 0 0 (rd (rd_L6 x12 bt1390.1) 1) 0) else (none)) else (none)) else (none))))
def laws_FnBursts.l1 : Nat → Int → Int → List (List Int) → List (List Int) → Int → Int → Int → Int → Option (Bool)
 | 0, _, _, _, _, _, _, _, _ => none
 | k + 1, x4, x5, x10, x12, x25, x26, x27, x28 => if x28 < (x12.length : Int) then (if 0 ≤ x28 then (if x28 < (x10.length : Int) then (if 0 < ((rd_L6 x10 x28).length : Int) then (if (rd (rd_L6 x10 x28) 0) ≤ x4 then (if 1 < ((rd_L6 x10 x28).length : Int) then (laws_FnBursts.j6 k x4 x5 x10 x12 x25 x26 x27 x28 (decide (x4 ≤ (rd (rd_L6 x10 x28) 1)))) else (none)) else (laws_FnBursts.j6 k x4 x5 x10 x12 x25 x26 x27 x28 false)) else (none)) else (none)) else (none)) else (if x25 = x5 then (if x26 ≤ x5 then (if x26 < x5 then (some true) else (some (decide (x4 ≤ x27)))) else (some false)) else (some false))
def laws_FnBursts.j6 : Nat → Int → Int → List (List Int) → List (List Int) → Int → Int → Int → Int → Bool → Option (Bool)
 | 0, _, _, _, _, _, _, _, _, _ => none
 | k + 1, x4, x5, x10, x12, x25, x26, x27, x28, x221 => if x221 = true then (if 0 ≤ x28 then (if x28 < (x10.length : Int) then (if 0 < ((rd_L6 x10 x28).length : Int) then (if (rd (rd_L6 x10 x28) 0) ≤ x27 then (if 1 < ((rd_L6 x10 x28).length : Int) then (if x27 ≤ (rd (rd_L6 x10 x28) 1) then (laws_FnBursts.l1 k x4 x5 x10 x12 (wrap64 (x25 + 1)) (wrap64 (x26 + 1)) x27 (wrap64 (x28 + 1))) else (laws_FnBursts.l1 k x4 x5 x10 x12 (wrap64 (x25 + 1)) x26 x27 (wrap64 (x28 + 1)))) else (none)) else (laws_FnBursts.l1 k x4 x5 x10 x12 (wrap64 (x25 + 1)) x26 x27 (wrap64 (x28 + 1)))) else (none)) else (none)) else (none)) else (if 0 ≤ x28 then (if x28 < (x10.length : Int) then (if 0 < ((rd_L6 x10 x28).length : Int) then (if (rd (rd_L6 x10 x28) 0) ≤ x27 then (if 1 < ((rd_L6 x10 x28).length : Int) then (if x27 ≤ (rd (rd_L6 x10 x28) 1) then (laws_FnBursts.l1 k x4 x5 x10 x12 x25 (wrap64 (x26 + 1)) x27 (wrap64 (x28 + 1))) else (laws_FnBursts.l1 k x4 x5 x10 x12 x25 x26 x27 (wrap64 (x28 + 1)))) else (none)) else (laws_FnBursts.l1 k x4 x5 x10 x12 x25 x26 x27 (wrap64 (x28 + 1)))) else (none)) else (none)) else (none))
end
def laws_FnBursts.f (k : Nat) (l0 : List Int) : Option (Bool) := (laws_big.f l0).bind fun t1332 => (if t1332 = true then (some true) else ((spec_DrawMostAtOnce.f k l0).bind fun bt1333 => ((impl_MostAtOnce.f k bt1333.1 bt1333.2.1 bt1333.2.2).bind fun bt1343 => ((spec_MostAtOnce.f k bt1333.1 bt1333.2.1 bt1333.2.2).bind fun bt1346 => ((impl_WindowsOf.f k bt1333.1 bt1333.2.1 bt1333.2.2).bind fun bt1349 => ((spec_WindowsOf.f k bt1333.1 bt1333.2.1 bt1333.2.2).bind fun bt1353 => ((spec_DrawOffBeat.f k l0).bind fun bt1357 => ((impl_OffBeat.f k bt1357.1 bt1357.2.1 bt1357.2.2.1 bt1357.2.2.2).bind fun bt1368 => ((spec_OffBeat.f k bt1357.1 bt1357.2.1 bt1357.2.2.1 bt1357.2.2.2).bind fun bt1372 => (if bt1343.2.2 = bt1346.2.2 then (if bt1343.1 = bt1346.1 then (if bt1343.2.1 = bt1346.2.1 then (if bt1349.2 = bt1353.2 then ((laws_likeRows.f k bt1349.1 bt1353.1).bind fun t1376 => (if t1376 = true then (if bt1368.2 = bt1372.2 then ((laws_likeInts.f k bt1368.1 bt1372.1).bind fun t1377 => (if t1377 = true then (laws_FnBursts.j0 k l0 bt1343.1 bt1343.2.1 bt1343.2.2 bt1349.1 bt1353.1 bt1357.2.2.2 bt1368.1 bt1368.2 (bt1349.2 != bt1343.2.2) bt1357.1 bt1357.2.1 bt1357.2.2.1) else (laws_FnBursts.j0 k l0 bt1343.1 bt1343.2.1 bt1343.2.2 bt1349.1 bt1353.1 bt1357.2.2.2 bt1368.1 bt1368.2 true bt1357.1 bt1357.2.1 bt1357.2.2.1))) else (laws_FnBursts.j0 k l0 bt1343.1 bt1343.2.1 bt1343.2.2 bt1349.1 bt1353.1 bt1357.2.2.2 bt1368.1 bt1368.2 true bt1357.1 bt1357.2.1 bt1357.2.2.1)) else (laws_FnBursts.j0 k l0 bt1343.1 bt1343.2.1 bt1343.2.2 bt1349.1 bt1353.1 bt1357.2.2.2 bt1368.1 bt1368.2 true bt1357.1 bt1357.2.1 bt1357.2.2.1))) else (laws_FnBursts.j0 k l0 bt1343.1 bt1343.2.1 bt1343.2.2 bt1349.1 bt1353.1 bt1357.2.2.2 bt1368.1 bt1368.2 true bt1357.1 bt1357.2.1 bt1357.2.2.1)) else (laws_FnBursts.j0 k l0 bt1343.1 bt1343.2.1 bt1343.2.2 bt1349.1 bt1353.1 bt1357.2.2.2 bt1368.1 bt1368.2 true bt1357.1 bt1357.2.1 bt1357.2.2.1)) else (laws_FnBursts.j0 k l0 bt1343.1 bt1343.2.1 bt1343.2.2 bt1349.1 bt1353.1 bt1357.2.2.2 bt1368.1 bt1368.2 true bt1357.1 bt1357.2.1 bt1357.2.2.1)) else (laws_FnBursts.j0 k l0 bt1343.1 bt1343.2.1 bt1343.2.2 bt1349.1 bt1353.1 bt1357.2.2.2 bt1368.1 bt1368.2 true bt1357.1 bt1357.2.1 bt1357.2.2.1)))))))))))
def laws_FnBursts.T16 : Bool × List (List Nat × List Nat) := (true, [([], []), ([0], [0]), ([], []), ([2], [2]), ([], []), ([3, 4], [3, 4]), ([5], [5]), ([6], [6]), ([1, 7], [1, 7]), ([8], [8]), ([9], [9]), ([9], [9]), ([10, 8, 0, 1, 2, 3, 4, 5, 6, 7, 8, 9, 10], [10]), ([11, 12, 0, 1, 2, 3, 4, 5, 6, 7, 8, 9, 10, 11, 12], [11])])
def laws_FnBursts.B16 : List Nat := [0, 1, 0, 4, 0, 28, 60, 124, 255, 511, 1023, 1023, 2047, 8191]
theorem laws_FnBursts.tab16 : rtab .any (opsOf Try.f6 16) = laws_FnBursts.T16 := by kernel_rfl
theorem laws_FnBursts.bits16 : waitsOk laws_FnBursts.T16.2 laws_FnBursts.B16 = true := by kernel_rfl
def laws_FnBursts.T17 : Bool × List (List Nat × List Nat) := (true, [([], []), ([0], [0]), ([], []), ([2], [2]), ([], []), ([3, 4], [3, 4]), ([5], [5]), ([6], [6]), ([1, 7], [1, 7]), ([8], [8]), ([9], [9]), ([9], [9]), ([10, 8, 0, 1, 2, 3, 4, 5, 6, 7, 8, 9, 10], [10]), ([11, 12, 0, 1, 2, 3, 4, 5, 6, 7, 8, 9, 10, 11, 12], [11])])
def laws_FnBursts.B17 : List Nat := [0, 1, 0, 4, 0, 28, 60, 124, 255, 511, 1023, 1023, 2047, 8191]
theorem laws_FnBursts.tab17 : rtab .any (opsOf Try.f6 17) = laws_FnBursts.T17 := by kernel_rfl
theorem laws_FnBursts.bits17 : waitsOk laws_FnBursts.T17.2 laws_FnBursts.B17 = true := by kernel_rfl
def laws_FnBursts.T20 : Bool × List (List Nat × List Nat) := (true, [([], []), ([0], [0]), ([1], [1]), ([2], [2]), ([2], [2]), ([3, 4, 2, 2], [2, 3, 4]), ([2], [2]), ([6, 2], [2, 6]), ([2], [2]), ([7, 8, 2], [2, 7, 8]), ([9, 2], [2, 9]), ([10, 2], [2, 10]), ([2], [2]), ([11, 12, 2], [2, 11, 12]), ([5, 13, 2], [2, 5, 13]), ([2, 14], [2, 14])])
def laws_FnBursts.B20 : List Nat := [0, 1, 3, 7, 7, 31, 7, 71, 7, 455, 967, 1991, 7, 8135, 16383, 32767]
theorem laws_FnBursts.tab20 : rtab .any (opsOf Try.f6 20) = laws_FnBursts.T20 := by kernel_rfl
theorem laws_FnBursts.bits20 : waitsOk laws_FnBursts.T20.2 laws_FnBursts.B20 = true := by kernel_rfl
theorem laws_FnBursts.j0_true (k : Nat) (x0 : List Int) (x4 : Int) (x5 : Int) (x6 : Int) (x10 : List (List Int)) (x12 : List (List Int)) (x15 : Int) (x16 : List Int) (x17 : Int) (x1368000 : List (S104)) (x1368001 : List (S62)) (x1368002 : List (S39)) : ¬ laws_FnBursts.j0 k x0 x4 x5 x6 x10 x12 x15 x16 x17 true x1368000 x1368001 x1368002 = some true := by
 cases k with
 | zero => simp [laws_FnBursts.j0]
 | succ k => simp [laws_FnBursts.j0]
theorem laws_FnBursts.j3_true (k : Nat) (x0 : List Int) (x4 : Int) (x5 : Int) (x6 : Int) (x10 : List (List Int)) (x12 : List (List Int)) (x15 : Int) (x16 : List Int) (x17 : Int) (x20 : Int) (x21 : Int) (x22 : Int) (x1368000 : List (S104)) (x1368001 : List (S62)) (x1368002 : List (S39)) : ¬ laws_FnBursts.j3 k x0 x4 x5 x6 x10 x12 x15 x16 x17 x20 x21 x22 true x1368000 x1368001 x1368002 = some true := by
 cases k with
 | zero => simp [laws_FnBursts.j3]
 | succ k => simp [laws_FnBursts.j3]
set_option maxHeartbeats 8000000 in
set_option maxRecDepth 100000 in
theorem laws_FnBursts.calls (k : Nat) (A0 : Option Addr) (c0 : Nat) (l0 : List Int) (r : Bool) (w : World) (hr0 : Kd.C (Kd.int .u8) w A0 l0.length l0) (hc0 : l0.length ≤ c0) (h : laws_FnBursts.f k l0 = some r) (hr_ : r = true) :
  Calls Try.prog 6 #[.slice A0 l0.length c0] w fun e w' => e = .returned (.bool r) ∧ Below w.heap.size w w' := by
 have HR_ := am_ hr_; clear hr_; have hu28 := Try.underlying28; have HR0 := am_ hr0; have HC0 := am_ hc0; clear hr0 hc0; have HB := am_ (Below.refl w.heap.size w); have H : ((laws_big.f l0).bind fun t1332 => (if t1332 = true then (some true) else ((spec_DrawMostAtOnce.f k l0).bind fun bt1333 => ((impl_MostAtOnce.f k bt1333.1 bt1333.2.1 bt1333.2.2).bind fun bt1343 => ((spec_MostAtOnce.f k bt1333.1 bt1333.2.1 bt1333.2.2).bind fun bt1346 => ((impl_WindowsOf.f k bt1333.1 bt1333.2.1 bt1333.2.2).bind fun bt1349 => ((spec_WindowsOf.f k bt1333.1 bt1333.2.1 bt1333.2.2).bind fun bt1353 => ((spec_DrawOffBeat.f k l0).bind fun bt1357 => ((impl_OffBeat.f k bt1357.1 bt1357.2.1 bt1357.2.2.1 bt1357.2.2.2).bind fun bt1368 => ((spec_OffBeat.f k bt1357.1 bt1357.2.1 bt1357.2.2.1 bt1357.2.2.2).bind fun bt1372 => (if bt1343.2.2 = bt1346.2.2 then (if bt1343.1 = bt1346.1 then (if bt1343.2.1 = bt1346.2.1 then (if bt1349.2 = bt1353.2 then ((laws_likeRows.f k bt1349.1 bt1353.1).bind fun t1376 => (if t1376 = true then (if bt1368.2 = bt1372.2 then ((laws_likeInts.f k bt1368.1 bt1372.1).bind fun t1377 => (if t1377 = true then (laws_FnBursts.j0 k l0 bt1343.1 bt1343.2.1 bt1343.2.2 bt1349.1 bt1353.1 bt1357.2.2.2 bt1368.1 bt1368.2 (bt1349.2 != bt1343.2.2) bt1357.1 bt1357.2.1 bt1357.2.2.1) else (laws_FnBursts.j0 k l0 bt1343.1 bt1343.2.1 bt1343.2.2 bt1349.1 bt1353.1 bt1357.2.2.2 bt1368.1 bt1368.2 true bt1357.1 bt1357.2.1 bt1357.2.2.1))) else (laws_FnBursts.j0 k l0 bt1343.1 bt1343.2.1 bt1343.2.2 bt1349.1 bt1353.1 bt1357.2.2.2 bt1368.1 bt1368.2 true bt1357.1 bt1357.2.1 bt1357.2.2.1)) else (laws_FnBursts.j0 k l0 bt1343.1 bt1343.2.1 bt1343.2.2 bt1349.1 bt1353.1 bt1357.2.2.2 bt1368.1 bt1368.2 true bt1357.1 bt1357.2.1 bt1357.2.2.1))) else (laws_FnBursts.j0 k l0 bt1343.1 bt1343.2.1 bt1343.2.2 bt1349.1 bt1353.1 bt1357.2.2.2 bt1368.1 bt1368.2 true bt1357.1 bt1357.2.1 bt1357.2.2.1)) else (laws_FnBursts.j0 k l0 bt1343.1 bt1343.2.1 bt1343.2.2 bt1349.1 bt1353.1 bt1357.2.2.2 bt1368.1 bt1368.2 true bt1357.1 bt1357.2.1 bt1357.2.2.1)) else (laws_FnBursts.j0 k l0 bt1343.1 bt1343.2.1 bt1343.2.2 bt1349.1 bt1353.1 bt1357.2.2.2 bt1368.1 bt1368.2 true bt1357.1 bt1357.2.1 bt1357.2.2.1)) else (laws_FnBursts.j0 k l0 bt1343.1 bt1343.2.1 bt1343.2.2 bt1349.1 bt1353.1 bt1357.2.2.2 bt1368.1 bt1368.2 true bt1357.1 bt1357.2.1 bt1357.2.2.1)))))))))))) = some r := h; clear h; replace H := Option.bind_eq_some_iff.mp H; obtain ⟨t1332, A20, H⟩ := H; have A2 := am_ A20; clear A20
 by_cases c3 : t1332 = true
 ·subst c3
  rw [if_pos rfl] at H; obtain rfl := Option.some.inj H
  go_enter Try.func6, Try.ntmps6
  go_wp2_with (first | ((with_reducible refine gate_callee (f := 8) rfl ?_); refine gZ 30 Try.func8 #[.slice A0 l0.length c0] ?_; (with_reducible refine (laws_big.calls _ _ l0 true _ ?_ ?_ A2.out).mono ?_); exact (Ze HR0); exact HC0.out; rintro e w' ⟨rfl, ⟨nd, rfl⟩⟩; refine ⟨_, rfl, ?_⟩))
  go_ret
  exact ⟨Zl, Zf⟩
 ·replace c3 := Bool.eq_false_iff.mpr c3
  subst c3; rw [if_neg (show ¬ (false = true) by decide)] at H; replace H := Option.bind_eq_some_iff.mp H; obtain ⟨⟨t1333, t1336, t1339⟩, A40, H⟩ := H
  dsimp only at H
  have A4 := am_ A40; clear A40; replace H := Option.bind_eq_some_iff.mp H; obtain ⟨⟨t1343, t1344, t1345⟩, A50, H⟩ := H
  dsimp only at H
  have A5 := am_ A50; clear A50; replace H := Option.bind_eq_some_iff.mp H; obtain ⟨⟨t1346, t1347, t1348⟩, A60, H⟩ := H
  dsimp only at H
  have A6 := am_ A60; clear A60; replace H := Option.bind_eq_some_iff.mp H; obtain ⟨⟨t1349, t1352⟩, A70, H⟩ := H
  dsimp only at H
  have A7 := am_ A70; clear A70; replace H := Option.bind_eq_some_iff.mp H; obtain ⟨⟨t1353, t1356⟩, A80, H⟩ := H
  dsimp only at H
  have A8 := am_ A80; clear A80; replace H := Option.bind_eq_some_iff.mp H; obtain ⟨⟨t1357, t1360, t1363, t1366⟩, A90, H⟩ := H
  dsimp only at H
  have A9 := am_ A90; clear A90; replace H := Option.bind_eq_some_iff.mp H; obtain ⟨⟨t1368, t1371⟩, A100, H⟩ := H
  dsimp only at H
  have A10 := am_ A100; clear A100; replace H := Option.bind_eq_some_iff.mp H; obtain ⟨⟨t1372, t1375⟩, A110, H⟩ := H
  dsimp only at H
  have A11 := am_ A110; clear A110; have HC12 := am_ H; clear H
  go_enter Try.func6, Try.ntmps6
  go_upto_region 11 with (first | ((with_reducible refine gate_callee (f := 8) rfl ?_); refine gZ 30 Try.func8 #[.slice A0 l0.length c0] ?_; (with_reducible refine (laws_big.calls _ _ l0 false _ ?_ ?_ A2.out).mono ?_); exact (Ze HR0); exact HC0.out; rintro e w' ⟨rfl, ⟨nd, rfl⟩⟩; refine ⟨_, rfl, ?_⟩) | ((with_reducible refine gate_callee (f := 36) rfl ?_); refine gZ 32 Try.func36 #[.slice A0 l0.length c0] ?_; (with_reducible refine (spec_DrawMostAtOnce.calls k _ _ l0 t1333 t1336 t1339 _ ?_ ?_ A4.out).mono ?_); exact (Ze HR0); exact HC0.out; rintro e w13 ⟨v1334, v1337, v1340, rfl, ho0, ho1, ho2, hb⟩; refine ⟨_, rfl, ?_⟩; replace HO1335 := am_ (Kd.R_lower ho0 (below_size Zf)); replace HO1338 := am_ (Kd.R_lower ho1 (below_size Zf)); replace HO1341 := am_ (Kd.R_lower ho2 (below_size Zf)); replace HB := (bsZ Zf hb); clear hb ho0 ho1 ho2) | ((with_reducible refine gate_dst (N := 3) rfl ?_); (try (refine gate_guard (by rfl) ?_; dsimp only)); refine boxZ 3 #[.slice none 0 0, .slice none 0 0, .slice none 0 0] 28 ?_; intro gb1342 hg w14 hbox hb; replace HO1335 := (hbZ HO1335 hb); replace HO1338 := (hbZ HO1338 hb); replace HO1341 := (hbZ HO1341 hb); replace BK1342 := am_ (hbox); replace GW1342 := am_ ((Zr : w.heap.size ≤ gb1342)); replace GE1342 := GW1342; replace HB := (bsZ Zf hb); clear hb hbox hg; obtain ⟨Ao15, co15, eo15⟩ := Kd.R_slice HO1335.out; subst eo15; refine ci3 BK1342 ?_; intros; obtain ⟨Ao17, co17, eo17⟩ := Kd.R_slice HO1338.out; subst eo17; obtain ⟨Ao18, co18, eo18⟩ := Kd.R_slice HO1341.out; subst eo18) | ((with_reducible refine gate_callee (f := 37) rfl ?_); refine gZ 35 Try.func37 #[.agg #[.slice Ao15 t1333.length co15, .slice Ao17 t1336.length co17, .slice Ao18 t1339.length co18]] ?_; (with_reducible refine (impl_MostAtOnce.calls k _ _ t1333 _ _ t1336 _ _ t1339 t1343 t1344 t1345 _ ?_ ?_ ?_ ?_ ?_ ?_ A5.out).mono ?_); refine (Kd.R_reads' (e := 104) (base := w.heap.size) (ok := fun k_ => True) (n := t1333.length) (c := co15) ?_).2.2; exact (Zat HO1335 BK1342); exact (Kd.R_reads' HO1335.out).2.1; refine (Kd.R_reads' (e := 62) (base := w.heap.size) (ok := fun k_ => True) (n := t1336.length) (c := co17) ?_).2.2; exact (Zat HO1338 BK1342); exact (Kd.R_reads' HO1338.out).2.1; refine (Kd.R_reads' (e := 39) (base := w.heap.size) (ok := fun k_ => True) (n := t1339.length) (c := co18) ?_).2.2; exact (Zat HO1341 BK1342); exact (Kd.R_reads' HO1341.out).2.1; rintro e w19 ⟨rfl, hb⟩; refine ⟨_, rfl, ?_⟩; replace HO1335 := am_ (Kd.R_below (Zat HO1335 BK1342) hb); replace HO1338 := am_ (Kd.R_below (Zat HO1338 BK1342) hb); replace HO1341 := am_ (Kd.R_below (Zat HO1341 BK1342) hb); replace BK1342 := am_ (blk_below (g := gb1342) (o := .cells #[.slice Ao15 t1333.length co15, .slice Ao17 t1336.length co17, .slice Ao18 t1339.length co18] 28 (0, 0)) (bpZ BK1342) hb); replace HB := (bsZ (Zi GE1342) hb); clear hb; refine ci3 BK1342 ?_; intros) | ((with_reducible refine gate_callee (f := 38) rfl ?_); refine gZ 41 Try.func38 #[.agg #[.slice Ao15 t1333.length co15, .slice Ao17 t1336.length co17, .slice Ao18 t1339.length co18]] ?_; (with_reducible refine (spec_MostAtOnce.calls k _ _ t1333 _ _ t1336 _ _ t1339 t1346 t1347 t1348 _ ?_ ?_ ?_ ?_ ?_ ?_ A6.out).mono ?_); exact (Zar HO1335); exact (Kd.R_reads' HO1335.out).2.1; exact (Zar HO1338); exact (Kd.R_reads' HO1338.out).2.1; exact (Zar HO1341); exact (Kd.R_reads' HO1341.out).2.1; rintro e w21 ⟨rfl, hb⟩; refine ⟨_, rfl, ?_⟩; replace HO1335 := (hbZ HO1335 hb); replace HO1338 := (hbZ HO1338 hb); replace HO1341 := (hbZ HO1341 hb); replace BK1342 := (bkZ BK1342 hb); replace HB := (bsZ (Zi GE1342) hb); clear hb; refine ci3 BK1342 ?_; intros) | ((with_reducible refine gate_callee (f := 39) rfl ?_); refine gZ 47 Try.func39 #[.agg #[.slice Ao15 t1333.length co15, .slice Ao17 t1336.length co17, .slice Ao18 t1339.length co18]] ?_; (with_reducible refine (impl_WindowsOf.calls k _ _ t1333 _ _ t1336 _ _ t1339 t1349 t1352 _ ?_ ?_ ?_ ?_ ?_ ?_ A7.out).mono ?_); exact (Zar HO1335); exact (Kd.R_reads' HO1335.out).2.1; exact (Zar HO1338); exact (Kd.R_reads' HO1338.out).2.1; exact (Zar HO1341); exact (Kd.R_reads' HO1341.out).2.1; rintro e w23 ⟨v1350, rfl, ho0, hb⟩; refine ⟨_, rfl, ?_⟩; replace HO1351 := am_ (Kd.N_lower (Kd.N_mono (ok' := fun k_ => some k_ ≠ (.slice Ao15 t1333.length co15 : Value).ownBlock ∧ some k_ ≠ (.slice Ao17 t1336.length co17 : Value).ownBlock ∧ some k_ ≠ (.slice Ao18 t1339.length co18 : Value).ownBlock ∧ k_ ≠ gb1342) (Kd.S_N (Kd.S_bound ho0)) (fun k_ hk_ => ⟨(Kd.fresh' (Kd.R_lt (Zaa HO1335)) k_ hk_.2.1), (Kd.fresh' (Kd.R_lt (Zaa HO1338)) k_ hk_.2.1), (Kd.fresh' (Kd.R_lt (Zaa HO1341)) k_ hk_.2.1), (Kd.freshB (g := gb1342) (b0Z BK1342) k_ hk_.2.1)⟩)) (below_size (Zi GE1342))); replace HO1335 := (hbZ HO1335 hb); replace HO1338 := (hbZ HO1338 hb); replace HO1341 := (hbZ HO1341 hb); replace BK1342 := (bkZ BK1342 hb); replace HB := (bsZ (Zi GE1342) hb); clear hb ho0; refine ci3 BK1342 ?_; intros) | ((with_reducible refine gate_callee (f := 40) rfl ?_); refine gZ 52 Try.func40 #[.agg #[.slice Ao15 t1333.length co15, .slice Ao17 t1336.length co17, .slice Ao18 t1339.length co18]] ?_; (with_reducible refine (spec_WindowsOf.calls k _ _ t1333 _ _ t1336 _ _ t1339 t1353 t1356 _ ?_ ?_ ?_ ?_ ?_ ?_ A8.out).mono ?_); exact (Zar HO1335); exact (Kd.R_reads' HO1335.out).2.1; exact (Zar HO1338); exact (Kd.R_reads' HO1338.out).2.1; exact (Zar HO1341); exact (Kd.R_reads' HO1341.out).2.1; rintro e w25 ⟨v1354, rfl, ho0, hb⟩; refine ⟨_, rfl, ?_⟩; replace HO1355 := am_ (Kd.N_lower (Kd.N_mono (ok' := fun k_ => some k_ ≠ (.slice Ao15 t1333.length co15 : Value).ownBlock ∧ some k_ ≠ (.slice Ao17 t1336.length co17 : Value).ownBlock ∧ some k_ ≠ (.slice Ao18 t1339.length co18 : Value).ownBlock ∧ some k_ ≠ (v1350 : Value).ownBlock ∧ k_ ≠ gb1342) ho0 (fun k_ hk_ => ⟨(Kd.fresh' (Kd.R_lt (Zaa HO1335)) k_ hk_), (Kd.fresh' (Kd.R_lt (Zaa HO1338)) k_ hk_), (Kd.fresh' (Kd.R_lt (Zaa HO1341)) k_ hk_), (Kd.fresh' (Kd.N_lt (Zcu HO1351)) k_ hk_), (Kd.freshB (g := gb1342) (b0Z BK1342) k_ hk_)⟩)) (below_size (Zi GE1342))); replace HO1335 := (hbZ HO1335 hb); replace HO1338 := (hbZ HO1338 hb); replace HO1341 := (hbZ HO1341 hb); replace HO1351 := am_ (Kd.N_elder' (Zcu HO1351) (Kd.N_base ho0) hb); replace BK1342 := (bkZ BK1342 hb); replace HB := (bsZ (Zi GE1342) hb); clear hb ho0) | ((with_reducible refine gate_callee (f := 41) rfl ?_); refine gZ 57 Try.func41 #[.slice A0 l0.length c0] ?_; (with_reducible refine (spec_DrawOffBeat.calls k _ _ l0 t1357 t1360 t1363 t1366 _ ?_ ?_ A9.out).mono ?_); exact (Zu HR0); exact HC0.out; rintro e w26 ⟨v1358, v1361, v1364, rfl, ho0, ho1, ho2, hb⟩; refine ⟨_, rfl, ?_⟩; replace HO1351 := am_ (Kd.N_mono (Kd.N_told (Kd.N_told (Kd.N_told (Kd.N_old (Zcu HO1351) hb) (Kd.R_base ho0)) (Kd.R_base ho1)) (Kd.R_base ho2)) (fun _ h_ => h_.1)); replace HO1355 := am_ (Kd.N_mono (Kd.N_told (Kd.N_told (Kd.N_told (Kd.N_old (Zcu HO1355) hb) (Kd.R_base ho0)) (Kd.R_base ho1)) (Kd.R_base ho2)) (fun _ h_ => h_.1)); replace HO1359 := am_ (Kd.R_lower (Kd.R_new' ho0 (Kd.R_lt (Zaa HO1335))) (below_size (Zi GE1342))); replace HO1335 := am_ (Kd.R_elder' (Zaa HO1335) (Kd.R_base ho0) hb); replace HO1362 := am_ (Kd.R_lower (Kd.R_new' ho1 (Kd.R_lt (Zaa HO1338))) (below_size (Zi GE1342))); replace HO1338 := am_ (Kd.R_elder' (Zaa HO1338) (Kd.R_base ho1) hb); replace HO1365 := am_ (Kd.R_lower (Kd.R_new' ho2 (Kd.R_lt (Zaa HO1341))) (below_size (Zi GE1342))); replace HO1341 := am_ (Kd.R_elder' (Zaa HO1341) (Kd.R_base ho2) hb); replace BK1342 := (bkZ BK1342 hb); replace HB := (bsZ (Zi GE1342) hb); clear hb ho0 ho1 ho2) | ((with_reducible refine gate_dst (N := 14) rfl ?_); (try (refine gate_guard (by rfl) ?_; dsimp only)); refine boxZ 14 #[.slice none 0 0, .slice none 0 0, .slice none 0 0] 28 ?_; intro gb1367 hg w27 hbox hb; replace HO1335 := (hbZ HO1335 hb); replace HO1338 := (hbZ HO1338 hb); replace HO1341 := (hbZ HO1341 hb); replace HO1351 := am_ (Kd.N_below (Kd.N_elderB (Zcu HO1351) gb1367 (Nat.le_of_eq hg.symm)) hb); replace HO1355 := am_ (Kd.N_below (Kd.N_elderB (Zcu HO1355) gb1367 (Nat.le_of_eq hg.symm)) hb); replace HO1359 := (hbZ HO1359 hb); replace HO1362 := (hbZ HO1362 hb); replace HO1365 := (hbZ HO1365 hb); replace BK1367 := am_ (hbox); replace GW1367 := am_ (((Zt GE1342) : w.heap.size ≤ gb1367)); replace GE1367 := GW1367; replace HB := (bsZ (Zi GE1342) hb); replace NB1342_1367 := am_ ((by rw [hg]; exact Nat.ne_of_lt (blk_lt (g := gb1342) (b0Z BK1342)) : gb1342 ≠ gb1367)); replace NB1367_1342 := am_ ((by rw [hg]; exact Nat.ne_of_gt (blk_lt (g := gb1342) (b0Z BK1342)) : gb1367 ≠ gb1342)); replace BK1342 := (bkZ BK1342 hb); clear hb hbox hg; obtain ⟨Ao28, co28, eo28⟩ := Kd.R_slice HO1359.out; subst eo28; have hnb29 := NB1367_1342.out; have hnc29 := NB1342_1367.out; refine ci3 BK1367 ?_; intros; obtain ⟨Ao31, co31, eo31⟩ := Kd.R_slice HO1362.out; subst eo31; obtain ⟨Ao32, co32, eo32⟩ := Kd.R_slice HO1365.out; subst eo32) | ((with_reducible refine gate_callee (f := 42) rfl ?_); refine gZ 63 Try.func42 #[.agg #[.slice Ao28 t1357.length co28, .slice Ao31 t1360.length co31, .slice Ao32 t1363.length co32], .int .i64 t1366] ?_; (with_reducible refine (impl_OffBeat.calls k _ _ t1357 _ _ t1360 _ _ t1363 t1366 t1368 t1371 _ ?_ ?_ ?_ ?_ ?_ ?_ A10.out).mono ?_); refine (Kd.R_reads' (e := 104) (base := w.heap.size) (ok := fun k_ => (True ∧ some k_ ≠ (.slice Ao15 t1333.length co15 : Value).ownBlock)) (n := t1357.length) (c := co28) ?_).2.2; exact (Zat HO1359 BK1367); exact (Kd.R_reads' HO1359.out).2.1; refine (Kd.R_reads' (e := 62) (base := w.heap.size) (ok := fun k_ => (True ∧ some k_ ≠ (.slice Ao17 t1336.length co17 : Value).ownBlock)) (n := t1360.length) (c := co31) ?_).2.2; exact (Zat HO1362 BK1367); exact (Kd.R_reads' HO1362.out).2.1; refine (Kd.R_reads' (e := 39) (base := w.heap.size) (ok := fun k_ => (True ∧ some k_ ≠ (.slice Ao18 t1339.length co18 : Value).ownBlock)) (n := t1363.length) (c := co32) ?_).2.2; exact (Zat HO1365 BK1367); exact (Kd.R_reads' HO1365.out).2.1; rintro e w33 ⟨v1369, rfl, ho0, hb⟩; refine ⟨_, rfl, ?_⟩; replace HO1335 := am_ (Kd.R_below (Zat HO1335 BK1367) hb); replace HO1338 := am_ (Kd.R_below (Zat HO1338 BK1367) hb); replace HO1341 := am_ (Kd.R_below (Zat HO1341 BK1367) hb); replace HO1351 := am_ (Kd.N_elder' (Zdb HO1351) (Kd.R_base ho0) hb); replace HO1355 := am_ (Kd.N_elder' (Zdb HO1355) (Kd.R_base ho0) hb); replace HO1359 := am_ (Kd.R_below (Zat HO1359 BK1367) hb); replace HO1362 := am_ (Kd.R_below (Zat HO1362 BK1367) hb); replace HO1365 := am_ (Kd.R_below (Zat HO1365 BK1367) hb); replace HO1370 := am_ (Kd.R_lower ho0 (below_size (Zw GE1342 GE1367))); replace BK1342 := am_ (blk_below (g := gb1342) (bfZ BK1342 NB1342_1367) hb); replace BK1367 := am_ (blk_below (g := gb1367) (o := .cells #[.slice Ao28 t1357.length co28, .slice Ao31 t1360.length co31, .slice Ao32 t1363.length co32] 28 (0, 0)) (bpZ BK1367) hb); replace HB := (bsZ (Zw GE1342 GE1367) hb); clear hb ho0; refine ci3 BK1367 ?_; intros) | ((with_reducible refine gate_callee (f := 43) rfl ?_); refine gZ 69 Try.func43 #[.agg #[.slice Ao28 t1357.length co28, .slice Ao31 t1360.length co31, .slice Ao32 t1363.length co32], .int .i64 t1366] ?_; (with_reducible refine (spec_OffBeat.calls k _ _ t1357 _ _ t1360 _ _ t1363 t1366 t1372 t1375 _ ?_ ?_ ?_ ?_ ?_ ?_ A11.out).mono ?_); exact (Zar HO1359); exact (Kd.R_reads' HO1359.out).2.1; exact (Zar HO1362); exact (Kd.R_reads' HO1362.out).2.1; exact (Zar HO1365); exact (Kd.R_reads' HO1365.out).2.1; rintro e w35 ⟨v1373, rfl, ho0, hb⟩; refine ⟨_, rfl, ?_⟩; replace HO1335 := (hbZ HO1335 hb); replace HO1338 := (hbZ HO1338 hb); replace HO1341 := (hbZ HO1341 hb); replace HO1351 := am_ (Kd.N_elder' (Zcu HO1351) (Kd.R_base ho0) hb); replace HO1355 := am_ (Kd.N_elder' (Zcu HO1355) (Kd.R_base ho0) hb); replace HO1359 := (hbZ HO1359 hb); replace HO1362 := (hbZ HO1362 hb); replace HO1365 := (hbZ HO1365 hb); replace HO1374 := am_ (Kd.R_lower (Kd.R_new' ho0 (Kd.R_lt (Zaa HO1370))) (below_size (Zw GE1342 GE1367))); replace HO1370 := am_ (Kd.R_elder' (Zaa HO1370) (Kd.R_base ho0) hb); replace BK1342 := (bkZ BK1342 hb); replace BK1367 := (bkZ BK1367 hb); replace HB := (bsZ (Zw GE1342 GE1367) hb); clear hb ho0))
  (try simp only [Act.put, List.setIfInBounds_toArray, List.set_cons_zero, List.set_cons_succ])
  go_cut [111] (fun v111 wc => ∃ (kq : Nat) (x111_11 : Bool), v111 = .bool x111_11 ∧ Aside0 (laws_FnBursts.j0 kq l0 t1343 t1344 t1345 t1349 t1353 t1366 t1368 t1371 x111_11 t1357 t1360 t1363 = some r) ∧ Aside0 (kq ≤ k) ∧ Aside0 (Kd.N (Kd.slice 2 (Kd.int .i64)) 33 wc w.heap.size (fun k_ => some k_ ≠ (v1354 : Value).ownBlock ∧ some k_ ≠ (v1369 : Value).ownBlock ∧ some k_ ≠ ((.slice Ao15 t1333.length co15) : Value).ownBlock ∧ some k_ ≠ ((.slice Ao17 t1336.length co17) : Value).ownBlock ∧ some k_ ≠ ((.slice Ao18 t1339.length co18) : Value).ownBlock ∧ some k_ ≠ ((.slice Ao28 t1357.length co28) : Value).ownBlock ∧ some k_ ≠ ((.slice Ao31 t1360.length co31) : Value).ownBlock ∧ some k_ ≠ ((.slice Ao32 t1363.length co32) : Value).ownBlock ∧ k_ ≠ gb1342 ∧ k_ ≠ gb1367) v1350 t1349) ∧ Aside0 (Kd.N (Kd.slice 2 (Kd.int .i64)) 33 wc w.heap.size (fun k_ => some k_ ≠ (v1350 : Value).ownBlock ∧ some k_ ≠ (v1369 : Value).ownBlock ∧ some k_ ≠ ((.slice Ao15 t1333.length co15) : Value).ownBlock ∧ some k_ ≠ ((.slice Ao17 t1336.length co17) : Value).ownBlock ∧ some k_ ≠ ((.slice Ao18 t1339.length co18) : Value).ownBlock ∧ some k_ ≠ ((.slice Ao28 t1357.length co28) : Value).ownBlock ∧ some k_ ≠ ((.slice Ao31 t1360.length co31) : Value).ownBlock ∧ some k_ ≠ ((.slice Ao32 t1363.length co32) : Value).ownBlock ∧ k_ ≠ gb1342 ∧ k_ ≠ gb1367) v1354 t1353) ∧ Aside0 (Kd.R (Kd.int .i64) 2 wc w.heap.size (fun _ => True) v1369 t1368) ∧ Aside0 (Kd.R k104 104 wc w.heap.size (fun k_ => some k_ ≠ ((.slice Ao28 t1357.length co28) : Value).ownBlock) (.slice Ao15 t1333.length co15) t1333) ∧ Aside0 (Kd.R k62 62 wc w.heap.size (fun k_ => some k_ ≠ ((.slice Ao31 t1360.length co31) : Value).ownBlock) (.slice Ao17 t1336.length co17) t1336) ∧ Aside0 (Kd.R k39 39 wc w.heap.size (fun k_ => some k_ ≠ ((.slice Ao32 t1363.length co32) : Value).ownBlock) (.slice Ao18 t1339.length co18) t1339) ∧ Aside0 (Kd.R k104 104 wc w.heap.size (fun k_ => some k_ ≠ ((.slice Ao15 t1333.length co15) : Value).ownBlock) (.slice Ao28 t1357.length co28) t1357) ∧ Aside0 (Kd.R k62 62 wc w.heap.size (fun k_ => some k_ ≠ ((.slice Ao17 t1336.length co17) : Value).ownBlock) (.slice Ao31 t1360.length co31) t1360) ∧ Aside0 (Kd.R k39 39 wc w.heap.size (fun k_ => some k_ ≠ ((.slice Ao18 t1339.length co18) : Value).ownBlock) (.slice Ao32 t1363.length co32) t1363) ∧ Aside0 (wc.heap[gb1342]? = some (.cells #[(.slice Ao15 t1333.length co15), (.slice Ao17 t1336.length co17), (.slice Ao18 t1339.length co18)] 28 (0, 0))) ∧ Aside0 (wc.heap[gb1367]? = some (.cells #[(.slice Ao28 t1357.length co28), (.slice Ao31 t1360.length co31), (.slice Ao32 t1363.length co32)] 28 (0, 0))) ∧ Aside0 (Below w.heap.size w wc))
  case first => as_aux_lemma =>
   have H := HC12.out; clear HC12
   by_cases c36 : t1345 = t1348
   ·rw [if_pos c36] at H
    have c36b0 := beq_iff_eq.mpr c36; have c36b1 := bne_eq_false_iff_eq.mpr c36; clear c36
    (first | rw [c36b0] | (simp only [i64_w, i32_w]; rw [c36b0]) | skip)
    by_cases c37 : t1343 = t1346
    ·rw [if_pos c37] at H
     have c37b0 := beq_iff_eq.mpr c37; have c37b1 := bne_eq_false_iff_eq.mpr c37; clear c37
     by_cases c38 : t1344 = t1347
     ·rw [if_pos c38] at H
      have c38b0 := beq_iff_eq.mpr c38; have c38b1 := bne_eq_false_iff_eq.mpr c38; clear c38
      by_cases c39 : t1352 = t1356
      ·rw [if_pos c39] at H
       have c39b0 := beq_iff_eq.mpr c39; have c39b1 := bne_eq_false_iff_eq.mpr c39; clear c39; replace H := Option.bind_eq_some_iff.mp H; obtain ⟨t1376, A400, H⟩ := H; have A40 := am_ A400; clear A400
       by_cases c41 : t1376 = true
       ·subst c41
        rw [if_pos rfl] at H
        by_cases c42 : t1371 = t1375
        ·rw [if_pos c42] at H
         have c42b0 := beq_iff_eq.mpr c42; have c42b1 := bne_eq_false_iff_eq.mpr c42; clear c42; replace H := Option.bind_eq_some_iff.mp H; obtain ⟨t1377, A430, H⟩ := H; have A43 := am_ A430; clear A430
         by_cases c44 : t1377 = true
         ·subst c44
          rw [if_pos rfl] at H; have H' := am_ H; clear H; obtain ⟨Ao45, co45, eo45⟩ := Kd.N_slice HO1351.out; subst eo45; obtain ⟨Ao46, co46, eo46⟩ := Kd.N_slice HO1355.out; subst eo46
          go_wp2_with (first | (go_at_call 34; (with_reducible refine (laws_likeRows.calls k _ _ t1349 _ _ t1353 true _ ?_ ?_ ?_ ?_ A40.out).mono ?_); exact (Zcw HO1351); exact (Kd.N_reads' HO1351.out).2.1; exact (Zcw HO1355); exact (Kd.N_reads' HO1355.out).2.1; rintro e w' ⟨rfl, ⟨nd, rfl⟩⟩; obtain ⟨Ao47, co47, eo47⟩ := Kd.R_slice HO1370.out; subst eo47; obtain ⟨Ao48, co48, eo48⟩ := Kd.R_slice HO1374.out; subst eo48) | (go_at_call 14; (with_reducible refine (laws_likeInts.calls k _ _ t1368 _ _ t1372 true _ ?_ ?_ ?_ ?_ A43.out).mono ?_); exact (Zar HO1370); exact (Kd.R_reads' HO1370.out).2.1; exact (Zar HO1374); exact (Kd.R_reads' HO1374.out).2.1; rintro e w' ⟨rfl, ⟨nd, rfl⟩⟩))
          go_meet
          case rel => exact ⟨_, ((t1352 != t1345)), Za, H', ⟨Zx⟩, ⟨by (with_reducible repeat (first | apply Kd.N_alloc | apply Kd.N_drewN | apply Kd.N_drew)); exact Kd.N_mono HO1351.out (fun _ hk => ⟨hk.1.1.1.1.1.1.2, ⟨hk.1.2, ⟨hk.1.1.1.1.1.1.1.1, ⟨hk.1.1.1.1.1.1.1.2.1, ⟨hk.1.1.1.1.1.1.1.2.2.1, ⟨hk.1.1.1.1.1.2, ⟨hk.1.1.1.1.2, ⟨hk.1.1.1.2, ⟨hk.1.1.1.1.1.1.1.2.2.2, hk.1.1.2⟩⟩⟩⟩⟩⟩⟩⟩⟩)⟩, ⟨by (with_reducible repeat (first | apply Kd.N_alloc | apply Kd.N_drewN | apply Kd.N_drew)); exact Kd.N_mono HO1355.out (fun _ hk => ⟨hk.1.1.1.1.1.1.2.2.2.1, ⟨hk.1.2, ⟨hk.1.1.1.1.1.1.1, ⟨hk.1.1.1.1.1.1.2.1, ⟨hk.1.1.1.1.1.1.2.2.1, ⟨hk.1.1.1.1.1.2, ⟨hk.1.1.1.1.2, ⟨hk.1.1.1.2, ⟨hk.1.1.1.1.1.1.2.2.2.2, hk.1.1.2⟩⟩⟩⟩⟩⟩⟩⟩⟩)⟩, ⟨by (with_reducible repeat (first | apply Kd.R_alloc | apply Kd.R_drewN | apply Kd.R_drew)); exact Kd.R_mono HO1370.out (fun _ hk => trivial)⟩, ⟨(Zak HO1335)⟩, ⟨(Zak HO1338)⟩, ⟨(Zak HO1341)⟩, ⟨(Zak HO1359)⟩, ⟨(Zak HO1362)⟩, ⟨(Zak HO1365)⟩, ⟨(Zh BK1342)⟩, ⟨(Zh BK1367)⟩, ⟨(Zw GE1342 GE1367)⟩⟩
         ·replace c44 := Bool.eq_false_iff.mpr c44
          subst c44; rw [if_neg (show ¬ (false = true) by decide)] at H; exact absurd (H.trans (congrArg some HR_.out)) (laws_FnBursts.j0_true _ _ _ _ _ _ _ _ _ _ _ _ _)
        ·rw [if_neg c42] at H
         have c42b0 := beq_eq_false_iff_ne.mpr c42; have c42b1 := bne_iff_ne.mpr c42; exact absurd (H.trans (congrArg some HR_.out)) (laws_FnBursts.j0_true _ _ _ _ _ _ _ _ _ _ _ _ _)
       ·replace c41 := Bool.eq_false_iff.mpr c41
        subst c41; rw [if_neg (show ¬ (false = true) by decide)] at H; exact absurd (H.trans (congrArg some HR_.out)) (laws_FnBursts.j0_true _ _ _ _ _ _ _ _ _ _ _ _ _)
      ·rw [if_neg c39] at H
       have c39b0 := beq_eq_false_iff_ne.mpr c39; have c39b1 := bne_iff_ne.mpr c39; exact absurd (H.trans (congrArg some HR_.out)) (laws_FnBursts.j0_true _ _ _ _ _ _ _ _ _ _ _ _ _)
     ·rw [if_neg c38] at H
      have c38b0 := beq_eq_false_iff_ne.mpr c38; have c38b1 := bne_iff_ne.mpr c38; exact absurd (H.trans (congrArg some HR_.out)) (laws_FnBursts.j0_true _ _ _ _ _ _ _ _ _ _ _ _ _)
    ·rw [if_neg c37] at H
     have c37b0 := beq_eq_false_iff_ne.mpr c37; have c37b1 := bne_iff_ne.mpr c37; exact absurd (H.trans (congrArg some HR_.out)) (laws_FnBursts.j0_true _ _ _ _ _ _ _ _ _ _ _ _ _)
   ·rw [if_neg c36] at H
    have c36b0 := beq_eq_false_iff_ne.mpr c36; have c36b1 := bne_iff_ne.mpr c36
    (first | rw [c36b0] | (simp only [i64_w, i32_w]; rw [c36b0]) | skip)
    exact absurd (H.trans (congrArg some HR_.out)) (laws_FnBursts.j0_true _ _ _ _ _ _ _ _ _ _ _ _ _)
  case rest => as_aux_lemma =>
   clear HC12
   try clear c2
   try clear p2
   try clear c3
   try clear c4
   try clear c6
   try clear c8
   try clear c29
   try clear c36
   try clear c36b0
   try clear c36b1
   try clear c37
   try clear c37b0
   try clear c37b1
   try clear c38
   try clear c38b0
   try clear c38b1
   try clear c39
   try clear c39b0
   try clear c39b1
   try clear c40
   try clear c41
   try clear c42
   try clear c42b0
   try clear c42b1
   try clear c43
   try clear c44
   obtain ⟨kq, x111_11, rfl, HA, HJ11, HO_10, HO_12, HO_16, HO_1343000, HO_1343001, HO_1343002, HO_1368000, HO_1368001, HO_1368002, BK1342, BK1367, HB⟩ := hcut
   cases kq with
   | zero => exact absurd HA.out (by simp [laws_FnBursts.j0])
   | succ kj11 =>
    have H := HA.out; clear HA; simp only [laws_FnBursts.j0] at H
    by_cases c57 : x111_11 = true
    ·subst c57
     rw [if_pos rfl] at H; exact absurd ((Option.some.inj H).trans HR_.out) (by decide)
    ·replace c57 := Bool.eq_false_iff.mpr c57
     subst c57; rw [if_neg (show ¬ (false = true) by decide)] at H; have H' := am_ H; clear H
     go_wp2
     go_loopg [20] kj11 (fun kq v20 w' => ∃ (x20_2 : Int), v20 = .int .i64 x20_2 ∧ Aside0 (laws_FnBursts.l0 kq l0 t1343 t1344 t1345 t1349 t1353 t1366 t1368 t1371 x20_2 t1357 t1360 t1363 = some r) ∧ Aside0 (kq ≤ kj11) ∧ Aside0 (Kd.N (Kd.slice 2 (Kd.int .i64)) 33 w' w.heap.size (fun k_ => some k_ ≠ (v1354 : Value).ownBlock ∧ some k_ ≠ (v1369 : Value).ownBlock ∧ some k_ ≠ ((.slice Ao15 t1333.length co15) : Value).ownBlock ∧ some k_ ≠ ((.slice Ao17 t1336.length co17) : Value).ownBlock ∧ some k_ ≠ ((.slice Ao18 t1339.length co18) : Value).ownBlock ∧ some k_ ≠ ((.slice Ao28 t1357.length co28) : Value).ownBlock ∧ some k_ ≠ ((.slice Ao31 t1360.length co31) : Value).ownBlock ∧ some k_ ≠ ((.slice Ao32 t1363.length co32) : Value).ownBlock ∧ k_ ≠ gb1342 ∧ k_ ≠ gb1367) v1350 t1349) ∧ Aside0 (Kd.N (Kd.slice 2 (Kd.int .i64)) 33 w' w.heap.size (fun k_ => some k_ ≠ (v1350 : Value).ownBlock ∧ some k_ ≠ (v1369 : Value).ownBlock ∧ some k_ ≠ ((.slice Ao15 t1333.length co15) : Value).ownBlock ∧ some k_ ≠ ((.slice Ao17 t1336.length co17) : Value).ownBlock ∧ some k_ ≠ ((.slice Ao18 t1339.length co18) : Value).ownBlock ∧ some k_ ≠ ((.slice Ao28 t1357.length co28) : Value).ownBlock ∧ some k_ ≠ ((.slice Ao31 t1360.length co31) : Value).ownBlock ∧ some k_ ≠ ((.slice Ao32 t1363.length co32) : Value).ownBlock ∧ k_ ≠ gb1342 ∧ k_ ≠ gb1367) v1354 t1353) ∧ Aside0 (Kd.R (Kd.int .i64) 2 w' w.heap.size (fun _ => True) v1369 t1368) ∧ Aside0 (Kd.R k104 104 w' w.heap.size (fun k_ => some k_ ≠ ((.slice Ao28 t1357.length co28) : Value).ownBlock) (.slice Ao15 t1333.length co15) t1333) ∧ Aside0 (Kd.R k62 62 w' w.heap.size (fun k_ => some k_ ≠ ((.slice Ao31 t1360.length co31) : Value).ownBlock) (.slice Ao17 t1336.length co17) t1336) ∧ Aside0 (Kd.R k39 39 w' w.heap.size (fun k_ => some k_ ≠ ((.slice Ao32 t1363.length co32) : Value).ownBlock) (.slice Ao18 t1339.length co18) t1339) ∧ Aside0 (Kd.R k104 104 w' w.heap.size (fun k_ => some k_ ≠ ((.slice Ao15 t1333.length co15) : Value).ownBlock) (.slice Ao28 t1357.length co28) t1357) ∧ Aside0 (Kd.R k62 62 w' w.heap.size (fun k_ => some k_ ≠ ((.slice Ao17 t1336.length co17) : Value).ownBlock) (.slice Ao31 t1360.length co31) t1360) ∧ Aside0 (Kd.R k39 39 w' w.heap.size (fun k_ => some k_ ≠ ((.slice Ao18 t1339.length co18) : Value).ownBlock) (.slice Ao32 t1363.length co32) t1363) ∧ Aside0 (w'.heap[gb1342]? = some (.cells #[(.slice Ao15 t1333.length co15), (.slice Ao17 t1336.length co17), (.slice Ao18 t1339.length co18)] 28 (0, 0))) ∧ Aside0 (w'.heap[gb1367]? = some (.cells #[(.slice Ao28 t1357.length co28), (.slice Ao31 t1360.length co31), (.slice Ao32 t1363.length co32)] 28 (0, 0))) ∧ Aside0 (Below w.heap.size w w'))
     case atStart => exact ⟨(0), Za, H', ⟨Nat.le_refl _⟩, ⟨(Zcu HO_10)⟩, ⟨(Zcu HO_12)⟩, ⟨(Zaa HO_16)⟩, ⟨(Zaa HO_1343000)⟩, ⟨(Zaa HO_1343001)⟩, ⟨(Zaa HO_1343002)⟩, ⟨(Zaa HO_1368000)⟩, ⟨(Zaa HO_1368001)⟩, ⟨(Zaa HO_1368002)⟩, ⟨(Zh BK1342)⟩, ⟨(Zh BK1367)⟩, ⟨(Zw GE1342 GE1367)⟩⟩
     case round => as_aux_lemma =>
      clear H'
      try clear c2
      try clear p2
      try clear c3
      try clear c4
      try clear c5
      try clear c6
      try clear c8
      try clear c29
      try clear c36
      try clear c36b0
      try clear c36b1
      try clear c37
      try clear c37b0
      try clear c37b1
      try clear c38
      try clear c38b0
      try clear c38b1
      try clear c39
      try clear c39b0
      try clear c39b1
      try clear c40
      try clear c41
      try clear c42
      try clear c42b0
      try clear c42b1
      try clear c43
      try clear c44
      try clear c57
      try clear p2
      obtain ⟨x20_2, rfl, HA, HK2, HO_10, HO_12, HO_16, HO_1343000, HO_1343001, HO_1343002, HO_1368000, HO_1368001, HO_1368002, BK1342, BK1367, HB⟩ := hrel
      cases gk with
      | zero => exact absurd HA.out (by simp [laws_FnBursts.l0])
      | succ k2 =>
       have H := HA.out; clear HA; simp only [laws_FnBursts.l0] at H; have HC58 := am_ H; clear H
       go_upto_region 14 with (fail)
       go_cut [120] (fun v120 wc => ∃ (kq : Nat) (x120_57 : Bool), v120 = .bool x120_57 ∧ Aside0 (laws_FnBursts.j2 kq l0 t1343 t1344 t1345 t1349 t1353 t1366 t1368 t1371 x20_2 x120_57 t1357 t1360 t1363 = some r) ∧ Aside0 (kq ≤ k2) ∧ Aside0 (Kd.N (Kd.slice 2 (Kd.int .i64)) 33 wc w.heap.size (fun k_ => some k_ ≠ (v1354 : Value).ownBlock ∧ some k_ ≠ (v1369 : Value).ownBlock ∧ some k_ ≠ ((.slice Ao15 t1333.length co15) : Value).ownBlock ∧ some k_ ≠ ((.slice Ao17 t1336.length co17) : Value).ownBlock ∧ some k_ ≠ ((.slice Ao18 t1339.length co18) : Value).ownBlock ∧ some k_ ≠ ((.slice Ao28 t1357.length co28) : Value).ownBlock ∧ some k_ ≠ ((.slice Ao31 t1360.length co31) : Value).ownBlock ∧ some k_ ≠ ((.slice Ao32 t1363.length co32) : Value).ownBlock ∧ k_ ≠ gb1342 ∧ k_ ≠ gb1367) v1350 t1349) ∧ Aside0 (Kd.N (Kd.slice 2 (Kd.int .i64)) 33 wc w.heap.size (fun k_ => some k_ ≠ (v1350 : Value).ownBlock ∧ some k_ ≠ (v1369 : Value).ownBlock ∧ some k_ ≠ ((.slice Ao15 t1333.length co15) : Value).ownBlock ∧ some k_ ≠ ((.slice Ao17 t1336.length co17) : Value).ownBlock ∧ some k_ ≠ ((.slice Ao18 t1339.length co18) : Value).ownBlock ∧ some k_ ≠ ((.slice Ao28 t1357.length co28) : Value).ownBlock ∧ some k_ ≠ ((.slice Ao31 t1360.length co31) : Value).ownBlock ∧ some k_ ≠ ((.slice Ao32 t1363.length co32) : Value).ownBlock ∧ k_ ≠ gb1342 ∧ k_ ≠ gb1367) v1354 t1353) ∧ Aside0 (Kd.R (Kd.int .i64) 2 wc w.heap.size (fun _ => True) v1369 t1368) ∧ Aside0 (Kd.R k104 104 wc w.heap.size (fun k_ => some k_ ≠ ((.slice Ao28 t1357.length co28) : Value).ownBlock) (.slice Ao15 t1333.length co15) t1333) ∧ Aside0 (Kd.R k62 62 wc w.heap.size (fun k_ => some k_ ≠ ((.slice Ao31 t1360.length co31) : Value).ownBlock) (.slice Ao17 t1336.length co17) t1336) ∧ Aside0 (Kd.R k39 39 wc w.heap.size (fun k_ => some k_ ≠ ((.slice Ao32 t1363.length co32) : Value).ownBlock) (.slice Ao18 t1339.length co18) t1339) ∧ Aside0 (Kd.R k104 104 wc w.heap.size (fun k_ => some k_ ≠ ((.slice Ao15 t1333.length co15) : Value).ownBlock) (.slice Ao28 t1357.length co28) t1357) ∧ Aside0 (Kd.R k62 62 wc w.heap.size (fun k_ => some k_ ≠ ((.slice Ao17 t1336.length co17) : Value).ownBlock) (.slice Ao31 t1360.length co31) t1360) ∧ Aside0 (Kd.R k39 39 wc w.heap.size (fun k_ => some k_ ≠ ((.slice Ao18 t1339.length co18) : Value).ownBlock) (.slice Ao32 t1363.length co32) t1363) ∧ Aside0 (wc.heap[gb1342]? = some (.cells #[(.slice Ao15 t1333.length co15), (.slice Ao17 t1336.length co17), (.slice Ao18 t1339.length co18)] 28 (0, 0))) ∧ Aside0 (wc.heap[gb1367]? = some (.cells #[(.slice Ao28 t1357.length co28), (.slice Ao31 t1360.length co31), (.slice Ao32 t1363.length co32)] 28 (0, 0))) ∧ Aside0 (Below w.heap.size w wc))
       case first => as_aux_lemma =>
        have H := HC58.out; clear HC58
        by_cases c59 : t1371 = 0
        ·rw [if_pos c59] at H
         have c59b0 := beq_iff_eq.mpr c59; have c59b1 := bne_eq_false_iff_eq.mpr c59; clear c59
         (first | rw [c59b0] | (simp only [i64_w, i32_w]; rw [c59b0]) | skip)
         have H' := am_ H; clear H; have hnb60 := NB1367_1342.out; have hnc60 := NB1342_1367.out; refine ci3 BK1367 ?_; intros
         go_wp2
         go_meet
         case rel => exact ⟨_, (decide (x20_2 < (t1363.length : Int))), Za, H', ⟨by have := HJ11.out; have := HK2.out; first | omega | exact Nat.le_refl _⟩, ⟨(Zcu HO_10)⟩, ⟨(Zcu HO_12)⟩, ⟨(Zaa HO_16)⟩, ⟨(Zaa HO_1343000)⟩, ⟨(Zaa HO_1343001)⟩, ⟨(Zaa HO_1343002)⟩, ⟨(Zaa HO_1368000)⟩, ⟨(Zaa HO_1368001)⟩, ⟨(Zaa HO_1368002)⟩, ⟨(Zh BK1342)⟩, ⟨(Zh BK1367)⟩, ⟨(Zw GE1342 GE1367)⟩⟩
        ·rw [if_neg c59] at H
         have c59b0 := beq_eq_false_iff_ne.mpr c59; have c59b1 := bne_iff_ne.mpr c59
         (first | rw [c59b0] | (simp only [i64_w, i32_w]; rw [c59b0]) | skip)
         have H' := am_ H; clear H
         go_wp2
         go_meet
         case rel => exact ⟨_, (false), Za, H', ⟨by have := HJ11.out; have := HK2.out; first | omega | exact Nat.le_refl _⟩, ⟨(Zcu HO_10)⟩, ⟨(Zcu HO_12)⟩, ⟨(Zaa HO_16)⟩, ⟨(Zaa HO_1343000)⟩, ⟨(Zaa HO_1343001)⟩, ⟨(Zaa HO_1343002)⟩, ⟨(Zaa HO_1368000)⟩, ⟨(Zaa HO_1368001)⟩, ⟨(Zaa HO_1368002)⟩, ⟨(Zh BK1342)⟩, ⟨(Zh BK1367)⟩, ⟨(Zw GE1342 GE1367)⟩⟩
       case rest => as_aux_lemma =>
        clear HC58
        try clear c2
        try clear p2
        try clear c3
        try clear c4
        try clear c5
        try clear c6
        try clear c8
        try clear c29
        try clear c36
        try clear c36b0
        try clear c36b1
        try clear c37
        try clear c37b0
        try clear c37b1
        try clear c38
        try clear c38b0
        try clear c38b1
        try clear c39
        try clear c39b0
        try clear c39b1
        try clear c40
        try clear c41
        try clear c42
        try clear c42b0
        try clear c42b1
        try clear c43
        try clear c44
        try clear c57
        try clear c59
        try clear c59b0
        try clear c59b1
        try clear c60
        try clear p2
        obtain ⟨kq, x120_57, rfl, HA, HJ57, HO_10, HO_12, HO_16, HO_1343000, HO_1343001, HO_1343002, HO_1368000, HO_1368001, HO_1368002, BK1342, BK1367, HB⟩ := hcut
        cases kq with
        | zero => exact absurd HA.out (by simp [laws_FnBursts.j2])
        | succ kj57 =>
         have H := HA.out; clear HA; simp only [laws_FnBursts.j2] at H
         by_cases c62 : x120_57 = true
         ·subst c62
          rw [if_pos rfl] at H
          by_cases c63 : 0 ≤ x20_2
          ·rw [if_pos c63] at H
           have c63b0 := decide_eq_true c63; clear c63
           by_cases c64 : x20_2 < (t1363.length : Int)
           ·rw [if_pos c64] at H
            have c64b0 := decide_eq_true c64; clear c64; replace H := Option.bind_eq_some_iff.mp H; obtain ⟨⟨t1379, t1380⟩, A650, H⟩ := H
            dsimp only at H
            have A65 := am_ A650; clear A650; replace H := Option.bind_eq_some_iff.mp H; obtain ⟨⟨t1382, t1383⟩, A660, H⟩ := H
            dsimp only at H
            have A66 := am_ A660; clear A660; have HC67 := am_ H; clear H
            try go_wp2
            replace HO_10 := am_ (Kd.N_drew HO_10.out); replace HO_12 := am_ (Kd.N_drew HO_12.out); replace HO_16 := am_ (Kd.R_drew HO_16.out); replace HO_1343000 := am_ (Kd.R_drew HO_1343000.out); replace HO_1343001 := am_ (Kd.R_drew HO_1343001.out); replace HO_1343002 := am_ (Kd.R_drew HO_1343002.out); replace HO_1368000 := am_ (Kd.R_drew HO_1368000.out); replace HO_1368001 := am_ (Kd.R_drew HO_1368001.out); replace HO_1368002 := am_ (Kd.R_drew HO_1368002.out); replace BK1342 := am_ (blk_drew BK1342.out); replace BK1367 := am_ (blk_drew BK1367.out); replace HB := am_ (below_drew1 HB.out); have p1378 : 0 ≤ (x20_2 : Int) := of_decide_eq_true Zc; have q1378 : x20_2 < (t1363.length : Int) := of_decide_eq_true Zc; obtain ⟨ad1378, e1378, hx1378_0, hx1378_1, hx1378_2, hx1378_3⟩ := at_T39 (Kd.R_reads' HO_1368002.out).2.2 x20_2 p1378 q1378
            cases e1378
            replace p1378 := eq_true p1378; replace q1378 := eq_true q1378; refine start_ (n := 14) (S := fun w' => w'.cell? ⟨gb1367, 0, none⟩ = some (.slice Ao28 t1357.length co28) ∧ w'.cell? ⟨gb1367, 1, none⟩ = some (.slice Ao31 t1360.length co31) ∧ w'.cell? ⟨gb1367, 2, none⟩ = some (.slice (some ad1378) t1363.length co32) ∧ w'.cell? (ad1378.add ((x20_2).toNat * 4)) = some (.int .i64 ((rd_T39 t1363 x20_2).f0)) ∧ w'.cell? ⟨(ad1378.add ((x20_2).toNat * 4)).block, (ad1378.add ((x20_2).toNat * 4)).off + 1, none⟩ = some (.int .i64 ((rd_T39 t1363 x20_2).f1)) ∧ w'.cell? ⟨(ad1378.add ((x20_2).toNat * 4)).block, (ad1378.add ((x20_2).toNat * 4)).off + 2, none⟩ = some (.string ((rd_T39 t1363 x20_2).f2)) ∧ w'.cell? ⟨(ad1378.add ((x20_2).toNat * 4)).block, (ad1378.add ((x20_2).toNat * 4)).off + 3, none⟩ = some (.int .i64 ((rd_T39 t1363 x20_2).f3))) (ds := []) (bT 14 0) Zk rfl rfl ⟨(blk_cell BK1367.out 0).trans rfl, (blk_cell BK1367.out 1).trans rfl, (blk_cell BK1367.out 2).trans rfl, hx1378_0, hx1378_1, hx1378_2, hx1378_3⟩ (fun hHeld => ?_); refine with_tabW laws_FnBursts.tab16 laws_FnBursts.bits16 (fun HT_ HW_ => ?_); generalize wc.drew = w68 at HO_10 HO_12 HO_16 HO_1343000 HO_1343001 HO_1343002 HO_1368000 HO_1368001 HO_1368002 BK1342 BK1367 HB hx1378_0 hx1378_1 hx1378_2 hx1378_3 hHeld ⊢; refine pureZ HT_ 0 (some 124) (bT 14 1) ?_; refine pureZ HT_ 2 (some 126) (bB 14 5) ?_; refine pureZ HT_ 4 (some 128) (bB 14 21) ?_; refine takeZ7 HT_ HW_ 1 (some 125) (bB 14 23) hHeld ?_; refine takeZ7 HT_ HW_ 3 (some 127) (bT 14 5) hHeld ?_; refine pureZ HT_ 5 (some 129) (bT 14 6) ?_; refine pureZ HT_ 6 (some 130) (bT 14 7) ?_; refine takeZ7 HT_ HW_ 7 (some 131) (bT 14 8) hHeld ?_; refine one_ (i := 8) (N := some 132) (bT 14 9) rfl rfl (one_of HT_.out Zk) (by decide) (fun K hK => ?_); refine goes_ Try.func44 Zk rfl #[.slice Ao31 t1360.length co31, .string ((rd_T39 t1363 x20_2).f2)] (by rfl) rfl rfl Zs ?_
            with_reducible refine (impl_FindArticle.calls kj57 _ _ t1360 ((rd_T39 t1363 x20_2).f2) t1379 t1380 _ ?side1 ?side2 A65.out).mono ?_
            (case side1 => exact (Zar HO_1368001))
            (case side2 => exact (Kd.R_reads' HO_1368001.out).2.1)
            rintro e w69 ⟨rfl, hb⟩; have HS3_ := (hb.cell (World.block_lt_of_cell? _ _ (hHeld.2.2.2.1))).trans (hHeld.2.2.2.1); have HS4_ := (hb.cell (World.block_lt_of_cell? _ _ (hHeld.2.2.2.2.1))).trans (hHeld.2.2.2.2.1); have HS5_ := (hb.cell (World.block_lt_of_cell? _ _ (hHeld.2.2.2.2.2.1))).trans (hHeld.2.2.2.2.2.1); have HS6_ := (hb.cell (World.block_lt_of_cell? _ _ (hHeld.2.2.2.2.2.2))).trans (hHeld.2.2.2.2.2.2); refine ⟨_, rfl, ?_⟩; replace HO_10 := am_ (Kd.N_below (Zcu HO_10) hb); replace HO_12 := am_ (Kd.N_below (Zcu HO_12) hb); replace HO_16 := (hbZ HO_16 hb); replace HO_1343000 := (hbZ HO_1343000 hb); replace HO_1343001 := (hbZ HO_1343001 hb); replace HO_1343002 := (hbZ HO_1343002 hb); replace HO_1368000 := (hbZ HO_1368000 hb); replace HO_1368001 := (hbZ HO_1368001 hb); replace HO_1368002 := (hbZ HO_1368002 hb); replace BK1342 := (bkZ BK1342 hb); replace BK1367 := (bkZ BK1367 hb); replace HB := (bsZ (Zw GE1342 GE1367) hb)
            (try clear hb)
            (try clear hb2)
            (try clear hk)
            (try clear hi)
            refine hK.out _ _ (by exact ⟨(blk_cell BK1367.out 0).trans rfl, (blk_cell BK1367.out 1).trans rfl, (blk_cell BK1367.out 2).trans rfl, HS3_, HS4_, HS5_, HS6_⟩) (fun hHeld => ?_); clear hK K; refine normZ 132 ?_; refine pureZ HT_ 9 (some 123) (bT 14 10) ?_; refine pureZ HT_ 10 (some 133) (bT 14 11) ?_; refine pureZ HT_ 11 (some 134) (bT 14 12) ?_; refine pureZ HT_ 12 (some 21) (bT 14 13) ?_; refine pureZ HT_ 13 (some 22) (bT 14 14) ?_; refine done_ (done_of HT_.out Zk) ?_
            try go_wp2
            replace HO_10 := am_ (Kd.N_drew HO_10.out); replace HO_12 := am_ (Kd.N_drew HO_12.out); replace HO_16 := am_ (Kd.R_drew HO_16.out); replace HO_1343000 := am_ (Kd.R_drew HO_1343000.out); replace HO_1343001 := am_ (Kd.R_drew HO_1343001.out); replace HO_1343002 := am_ (Kd.R_drew HO_1343002.out); replace HO_1368000 := am_ (Kd.R_drew HO_1368000.out); replace HO_1368001 := am_ (Kd.R_drew HO_1368001.out); replace HO_1368002 := am_ (Kd.R_drew HO_1368002.out); replace BK1342 := am_ (blk_drew BK1342.out); replace BK1367 := am_ (blk_drew BK1367.out); replace HB := am_ (below_drew1 HB.out); have p1381 : 0 ≤ (x20_2 : Int) := of_decide_eq_true Zc; have q1381 : x20_2 < (t1363.length : Int) := of_decide_eq_true Zc; obtain ⟨ad1381, e1381, hx1381_0, hx1381_1, hx1381_2, hx1381_3⟩ := at_T39 (Kd.R_reads' HO_1368002.out).2.2 x20_2 p1381 q1381; obtain rfl : ad1378 = ad1381 := (by injection e1381); replace p1381 := eq_true p1381; replace q1381 := eq_true q1381; refine start_ (n := 14) (S := fun w' => w'.cell? ⟨gb1367, 0, none⟩ = some (.slice Ao28 t1357.length co28) ∧ w'.cell? ⟨gb1367, 1, none⟩ = some (.slice Ao31 t1360.length co31) ∧ w'.cell? ⟨gb1367, 2, none⟩ = some (.slice (some ad1378) t1363.length co32) ∧ w'.cell? (ad1378.add ((x20_2).toNat * 4)) = some (.int .i64 ((rd_T39 t1363 x20_2).f0)) ∧ w'.cell? ⟨(ad1378.add ((x20_2).toNat * 4)).block, (ad1378.add ((x20_2).toNat * 4)).off + 1, none⟩ = some (.int .i64 ((rd_T39 t1363 x20_2).f1)) ∧ w'.cell? ⟨(ad1378.add ((x20_2).toNat * 4)).block, (ad1378.add ((x20_2).toNat * 4)).off + 2, none⟩ = some (.string ((rd_T39 t1363 x20_2).f2)) ∧ w'.cell? ⟨(ad1378.add ((x20_2).toNat * 4)).block, (ad1378.add ((x20_2).toNat * 4)).off + 3, none⟩ = some (.int .i64 ((rd_T39 t1363 x20_2).f3))) (ds := []) (bT 14 0) Zk rfl rfl ⟨(blk_cell BK1367.out 0).trans rfl, (blk_cell BK1367.out 1).trans rfl, (blk_cell BK1367.out 2).trans rfl, hx1381_0, hx1381_1, hx1381_2, hx1381_3⟩ (fun hHeld => ?_); refine with_tabW laws_FnBursts.tab17 laws_FnBursts.bits17 (fun HT_ HW_ => ?_); generalize w69.drew = w70 at HO_10 HO_12 HO_16 HO_1343000 HO_1343001 HO_1343002 HO_1368000 HO_1368001 HO_1368002 BK1342 BK1367 HB hx1381_0 hx1381_1 hx1381_2 hx1381_3 hHeld ⊢; refine pureZ HT_ 0 (some 136) (bT 14 1) ?_; refine pureZ HT_ 2 (some 138) (bB 14 5) ?_; refine pureZ HT_ 4 (some 140) (bB 14 21) ?_; refine takeZ7 HT_ HW_ 1 (some 137) (bB 14 23) hHeld ?_; refine takeZ7 HT_ HW_ 3 (some 139) (bT 14 5) hHeld ?_; refine pureZ HT_ 5 (some 141) (bT 14 6) ?_; refine pureZ HT_ 6 (some 142) (bT 14 7) ?_; refine takeZ7 HT_ HW_ 7 (some 143) (bT 14 8) hHeld ?_; refine one_ (i := 8) (N := some 144) (bT 14 9) rfl rfl (one_of HT_.out Zk) (by decide) (fun K hK => ?_); refine goes_ Try.func45 Zk rfl #[.slice Ao31 t1360.length co31, .string ((rd_T39 t1363 x20_2).f2)] (by rfl) rfl rfl Zs ?_
            with_reducible refine (spec_FindArticle.calls kj57 _ _ t1360 ((rd_T39 t1363 x20_2).f2) t1382 t1383 _ ?side1 ?side2 A66.out).mono ?_
            (case side1 => exact (Zar HO_1368001))
            (case side2 => exact (Kd.R_reads' HO_1368001.out).2.1)
            rintro e w71 ⟨rfl, hb⟩; have HS3_ := (hb.cell (World.block_lt_of_cell? _ _ (hHeld.2.2.2.1))).trans (hHeld.2.2.2.1); have HS4_ := (hb.cell (World.block_lt_of_cell? _ _ (hHeld.2.2.2.2.1))).trans (hHeld.2.2.2.2.1); have HS5_ := (hb.cell (World.block_lt_of_cell? _ _ (hHeld.2.2.2.2.2.1))).trans (hHeld.2.2.2.2.2.1); have HS6_ := (hb.cell (World.block_lt_of_cell? _ _ (hHeld.2.2.2.2.2.2))).trans (hHeld.2.2.2.2.2.2); refine ⟨_, rfl, ?_⟩; replace HO_10 := am_ (Kd.N_below (Zcu HO_10) hb); replace HO_12 := am_ (Kd.N_below (Zcu HO_12) hb); replace HO_16 := (hbZ HO_16 hb); replace HO_1343000 := (hbZ HO_1343000 hb); replace HO_1343001 := (hbZ HO_1343001 hb); replace HO_1343002 := (hbZ HO_1343002 hb); replace HO_1368000 := (hbZ HO_1368000 hb); replace HO_1368001 := (hbZ HO_1368001 hb); replace HO_1368002 := (hbZ HO_1368002 hb); replace BK1342 := (bkZ BK1342 hb); replace BK1367 := (bkZ BK1367 hb); replace HB := (bsZ (Zw GE1342 GE1367) hb)
            (try clear hb)
            (try clear hb2)
            (try clear hk)
            (try clear hi)
            refine hK.out _ _ (by exact ⟨(blk_cell BK1367.out 0).trans rfl, (blk_cell BK1367.out 1).trans rfl, (blk_cell BK1367.out 2).trans rfl, HS3_, HS4_, HS5_, HS6_⟩) (fun hHeld => ?_); clear hK K; refine normZ 144 ?_; refine pureZ HT_ 9 (some 135) (bT 14 10) ?_; refine pureZ HT_ 10 (some 145) (bT 14 11) ?_; refine pureZ HT_ 11 (some 146) (bT 14 12) ?_; refine pureZ HT_ 12 (some 23) (bT 14 13) ?_; refine pureZ HT_ 13 (some 24) (bT 14 14) ?_; refine done_ (done_of HT_.out Zk) ?_
            go_upto_region 18 with (fail)
            go_cut [154] (fun v154 wc => ∃ (kq : Nat) (x154_66 : Bool), v154 = .bool x154_66 ∧ Aside0 (laws_FnBursts.j3 kq l0 t1343 t1344 t1345 t1349 t1353 t1366 t1368 t1371 x20_2 t1379 t1380 x154_66 t1357 t1360 t1363 = some r) ∧ Aside0 (kq ≤ kj57) ∧ Aside0 (Kd.N (Kd.slice 2 (Kd.int .i64)) 33 wc w.heap.size (fun k_ => some k_ ≠ (v1354 : Value).ownBlock ∧ some k_ ≠ (v1369 : Value).ownBlock ∧ some k_ ≠ ((.slice Ao15 t1333.length co15) : Value).ownBlock ∧ some k_ ≠ ((.slice Ao17 t1336.length co17) : Value).ownBlock ∧ some k_ ≠ ((.slice Ao18 t1339.length co18) : Value).ownBlock ∧ some k_ ≠ ((.slice Ao28 t1357.length co28) : Value).ownBlock ∧ some k_ ≠ ((.slice Ao31 t1360.length co31) : Value).ownBlock ∧ some k_ ≠ ((.slice (some ad1378) t1363.length co32) : Value).ownBlock ∧ k_ ≠ gb1342 ∧ k_ ≠ gb1367) v1350 t1349) ∧ Aside0 (Kd.N (Kd.slice 2 (Kd.int .i64)) 33 wc w.heap.size (fun k_ => some k_ ≠ (v1350 : Value).ownBlock ∧ some k_ ≠ (v1369 : Value).ownBlock ∧ some k_ ≠ ((.slice Ao15 t1333.length co15) : Value).ownBlock ∧ some k_ ≠ ((.slice Ao17 t1336.length co17) : Value).ownBlock ∧ some k_ ≠ ((.slice Ao18 t1339.length co18) : Value).ownBlock ∧ some k_ ≠ ((.slice Ao28 t1357.length co28) : Value).ownBlock ∧ some k_ ≠ ((.slice Ao31 t1360.length co31) : Value).ownBlock ∧ some k_ ≠ ((.slice (some ad1378) t1363.length co32) : Value).ownBlock ∧ k_ ≠ gb1342 ∧ k_ ≠ gb1367) v1354 t1353) ∧ Aside0 (Kd.R (Kd.int .i64) 2 wc w.heap.size (fun _ => True) v1369 t1368) ∧ Aside0 (Kd.R k104 104 wc w.heap.size (fun k_ => some k_ ≠ ((.slice Ao28 t1357.length co28) : Value).ownBlock) (.slice Ao15 t1333.length co15) t1333) ∧ Aside0 (Kd.R k62 62 wc w.heap.size (fun k_ => some k_ ≠ ((.slice Ao31 t1360.length co31) : Value).ownBlock) (.slice Ao17 t1336.length co17) t1336) ∧ Aside0 (Kd.R k39 39 wc w.heap.size (fun k_ => some k_ ≠ ((.slice (some ad1378) t1363.length co32) : Value).ownBlock) (.slice Ao18 t1339.length co18) t1339) ∧ Aside0 (Kd.R k104 104 wc w.heap.size (fun k_ => some k_ ≠ ((.slice Ao15 t1333.length co15) : Value).ownBlock) (.slice Ao28 t1357.length co28) t1357) ∧ Aside0 (Kd.R k62 62 wc w.heap.size (fun k_ => some k_ ≠ ((.slice Ao17 t1336.length co17) : Value).ownBlock) (.slice Ao31 t1360.length co31) t1360) ∧ Aside0 (Kd.R k39 39 wc w.heap.size (fun k_ => some k_ ≠ ((.slice Ao18 t1339.length co18) : Value).ownBlock) (.slice (some ad1378) t1363.length co32) t1363) ∧ Aside0 (wc.heap[gb1342]? = some (.cells #[(.slice Ao15 t1333.length co15), (.slice Ao17 t1336.length co17), (.slice Ao18 t1339.length co18)] 28 (0, 0))) ∧ Aside0 (wc.heap[gb1367]? = some (.cells #[(.slice Ao28 t1357.length co28), (.slice Ao31 t1360.length co31), (.slice (some ad1378) t1363.length co32)] 28 (0, 0))) ∧ Aside0 (Below w.heap.size w wc))
            case first => as_aux_lemma =>
             have H := HC67.out; clear HC67
             by_cases c72 : t1379 = t1382
             ·rw [if_pos c72] at H
              have c72b0 := beq_iff_eq.mpr c72; have c72b1 := bne_eq_false_iff_eq.mpr c72; clear c72
              (first | rw [c72b0] | (simp only [i64_w, i32_w]; rw [c72b0]) | skip)
              have H' := am_ H; clear H
              go_wp2
              go_meet
              case rel => exact ⟨_, ((t1380 != t1383)), Za, H', ⟨by have := HJ11.out; have := HK2.out; have := HJ57.out; first | omega | exact Nat.le_refl _⟩, ⟨(Zcu HO_10)⟩, ⟨(Zcu HO_12)⟩, ⟨(Zaa HO_16)⟩, ⟨(Zaa HO_1343000)⟩, ⟨(Zaa HO_1343001)⟩, ⟨(Zaa HO_1343002)⟩, ⟨(Zaa HO_1368000)⟩, ⟨(Zaa HO_1368001)⟩, ⟨(Zaa HO_1368002)⟩, ⟨(Zh BK1342)⟩, ⟨(Zh BK1367)⟩, ⟨(Zw GE1342 GE1367)⟩⟩
             ·rw [if_neg c72] at H
              have c72b0 := beq_eq_false_iff_ne.mpr c72; have c72b1 := bne_iff_ne.mpr c72
              (first | rw [c72b0] | (simp only [i64_w, i32_w]; rw [c72b0]) | skip)
              exact absurd (H.trans (congrArg some HR_.out)) (laws_FnBursts.j3_true _ _ _ _ _ _ _ _ _ _ _ _ _ _ _ _)
            case rest => as_aux_lemma =>
             clear HC67
             try clear p1
             try clear q1
             try clear hx1
             try clear c2
             try clear p2
             try clear c3
             try clear c4
             try clear c5
             try clear c6
             try clear c7
             try clear c8
             try clear p13
             try clear q13
             try clear hx13
             try clear c29
             try clear c36
             try clear c36b0
             try clear c36b1
             try clear c37
             try clear c37b0
             try clear c37b1
             try clear c38
             try clear c38b0
             try clear c38b1
             try clear c39
             try clear c39b0
             try clear c39b1
             try clear c40
             try clear c41
             try clear c42
             try clear c42b0
             try clear c42b1
             try clear c43
             try clear c44
             try clear c45
             try clear c57
             try clear c59
             try clear c59b0
             try clear c59b1
             try clear c60
             try clear c62
             try clear c63
             try clear c63b0
             try clear c64
             try clear c64b0
             try clear c72
             try clear c72b0
             try clear c72b1
             try clear hx1378_0
             try clear hx1378_1
             try clear hx1378_2
             try clear hx1378_3
             try clear hx1381_0
             try clear hx1381_1
             try clear hx1381_2
             try clear hx1381_3
             try clear p1378
             try clear p1381
             try clear p2
             try clear q1378
             try clear q1381
             obtain ⟨kq, x154_66, rfl, HA, HJ66, HO_10, HO_12, HO_16, HO_1343000, HO_1343001, HO_1343002, HO_1368000, HO_1368001, HO_1368002, BK1342, BK1367, HB⟩ := hcut
             cases kq with
             | zero => exact absurd HA.out (by simp [laws_FnBursts.j3])
             | succ kj66 =>
              have H := HA.out; clear HA; simp only [laws_FnBursts.j3] at H
              by_cases c73 : x154_66 = true
              ·subst c73
               rw [if_pos rfl] at H; exact absurd ((Option.some.inj H).trans HR_.out) (by decide)
              ·replace c73 := Bool.eq_false_iff.mpr c73
               subst c73; rw [if_neg (show ¬ (false = true) by decide)] at H
               by_cases c74 : t1380 = 0
               ·rw [if_pos c74] at H
                have c74b0 := beq_iff_eq.mpr c74; have c74b1 := bne_eq_false_iff_eq.mpr c74; clear c74; replace H := Option.bind_eq_some_iff.mp H; obtain ⟨t1384, A750, H⟩ := H; have A75 := am_ A750; clear A750
                by_cases c76 : 0 ≤ t1379
                ·rw [if_pos c76] at H
                 have c76b0 := decide_eq_true c76; clear c76
                 by_cases c77 : t1379 < (t1360.length : Int)
                 ·rw [if_pos c77] at H
                  have c77b0 := decide_eq_true c77; clear c77
                  by_cases c78 : (t1384 != (decide (((rd_T62 t1360 t1379).f4) > t1366))) = true
                  ·rw [if_pos c78] at H
                   have c78b0 : (t1384 != (decide (((rd_T62 t1360 t1379).f4) > t1366))) = true := c78
                   (try (have c78b1 : decide (t1384 = (decide (((rd_T62 t1360 t1379).f4) > t1366))) = false := by simpa using c78))
                   (try (have c78b2 : (t1384 == (decide (((rd_T62 t1360 t1379).f4) > t1366))) = false := by simpa using c78))
                   (try (have c78b3 : ¬ (t1384 = (decide (((rd_T62 t1360 t1379).f4) > t1366))) := by simpa using c78))
                   clear c78; exact absurd ((Option.some.inj H).trans HR_.out) (by decide)
                  ·rw [if_neg c78] at H
                   have c78b0 : (t1384 != (decide (((rd_T62 t1360 t1379).f4) > t1366))) = false := by simpa using c78
                   (try (have c78b1 : decide (t1384 = (decide (((rd_T62 t1360 t1379).f4) > t1366))) = true := by simpa using c78))
                   (try (have c78b2 : (t1384 == (decide (((rd_T62 t1360 t1379).f4) > t1366))) = true := by simpa using c78))
                   clear c78; have H' := am_ H; clear H
                   try go_wp2
                   replace HO_10 := am_ (Kd.N_drew HO_10.out); replace HO_12 := am_ (Kd.N_drew HO_12.out); replace HO_16 := am_ (Kd.R_drew HO_16.out); replace HO_1343000 := am_ (Kd.R_drew HO_1343000.out); replace HO_1343001 := am_ (Kd.R_drew HO_1343001.out); replace HO_1343002 := am_ (Kd.R_drew HO_1343002.out); replace HO_1368000 := am_ (Kd.R_drew HO_1368000.out); replace HO_1368001 := am_ (Kd.R_drew HO_1368001.out); replace HO_1368002 := am_ (Kd.R_drew HO_1368002.out); replace BK1342 := am_ (blk_drew BK1342.out); replace BK1367 := am_ (blk_drew BK1367.out); replace HB := am_ (below_drew1 HB.out); have p1385 : 0 ≤ (t1379 : Int) := of_decide_eq_true Zc; have q1385 : t1379 < (t1360.length : Int) := of_decide_eq_true Zc; obtain ⟨ad1385, e1385, hx1385_0, hx1385_1, hx1385_2, hx1385_3, hx1385_4, hx1385_5, hx1385_6, hx1385_7, hx1385_8⟩ := at_T62 (Kd.R_reads' HO_1368001.out).2.2 t1379 p1385 q1385
                   cases e1385
                   replace p1385 := eq_true p1385; replace q1385 := eq_true q1385; obtain ⟨Ao82, co82, eo82⟩ := Kd.R_slice HO_16.out
                   (first | subst eo82 | (injection eo82 with f1_ f2_ f3_; have f4_ := f1_.symm; have f5_ := f3_.symm; clear f1_ f2_ f3_; subst f4_; subst f5_))
                   refine start_ (n := 16) (S := fun w' => w'.cell? ⟨gb1367, 0, none⟩ = some (.slice Ao28 t1357.length co28) ∧ w'.cell? ⟨gb1367, 1, none⟩ = some (.slice (some ad1385) t1360.length co31) ∧ w'.cell? ⟨gb1367, 2, none⟩ = some (.slice (some ad1378) t1363.length co32) ∧ w'.cell? (ad1385.add ((t1379).toNat * 9)) = some (.string ((rd_T62 t1360 t1379).f0)) ∧ w'.cell? ⟨(ad1385.add ((t1379).toNat * 9)).block, (ad1385.add ((t1379).toNat * 9)).off + 1, none⟩ = some (.int .i64 ((rd_T62 t1360 t1379).f1)) ∧ w'.cell? ⟨(ad1385.add ((t1379).toNat * 9)).block, (ad1385.add ((t1379).toNat * 9)).off + 2, none⟩ = some (.int .i64 ((rd_T62 t1360 t1379).f2)) ∧ w'.cell? ⟨(ad1385.add ((t1379).toNat * 9)).block, (ad1385.add ((t1379).toNat * 9)).off + 3, none⟩ = some (.int .i64 ((rd_T62 t1360 t1379).f3)) ∧ w'.cell? ⟨(ad1385.add ((t1379).toNat * 9)).block, (ad1385.add ((t1379).toNat * 9)).off + 4, none⟩ = some (.int .i64 ((rd_T62 t1360 t1379).f4)) ∧ w'.cell? ⟨(ad1385.add ((t1379).toNat * 9)).block, (ad1385.add ((t1379).toNat * 9)).off + 5, none⟩ = some (.int .i64 ((rd_T62 t1360 t1379).f5)) ∧ w'.cell? ⟨(ad1385.add ((t1379).toNat * 9)).block, (ad1385.add ((t1379).toNat * 9)).off + 6, none⟩ = some (.int .i64 ((rd_T62 t1360 t1379).f6)) ∧ w'.cell? ⟨(ad1385.add ((t1379).toNat * 9)).block, (ad1385.add ((t1379).toNat * 9)).off + 7, none⟩ = some (.int .i64 ((rd_T62 t1360 t1379).f7)) ∧ w'.cell? ⟨(ad1385.add ((t1379).toNat * 9)).block, (ad1385.add ((t1379).toNat * 9)).off + 8, none⟩ = some (.int .i64 ((rd_T62 t1360 t1379).f8))) (ds := []) (bT 16 0) Zk rfl rfl ⟨(blk_cell BK1367.out 0).trans rfl, (blk_cell BK1367.out 1).trans rfl, (blk_cell BK1367.out 2).trans rfl, hx1385_0, hx1385_1, hx1385_2, hx1385_3, hx1385_4, hx1385_5, hx1385_6, hx1385_7, hx1385_8⟩ (fun hHeld => ?_); refine with_tabW laws_FnBursts.tab20 laws_FnBursts.bits20 (fun HT_ HW_ => ?_); generalize wc.drew = w81 at HO_10 HO_12 HO_16 HO_1343000 HO_1343001 HO_1343002 HO_1368000 HO_1368001 HO_1368002 BK1342 BK1367 HB hx1385_0 hx1385_1 hx1385_2 hx1385_3 hx1385_4 hx1385_5 hx1385_6 hx1385_7 hx1385_8 hHeld ⊢; refine pureZ HT_ 0 (some 155) (bT 16 1) ?_; refine pureZ HT_ 1 (some 156) (bT 16 2) ?_; refine pureZ HT_ 2 (some 157) (bT 16 3) ?_; refine pureZ HT_ 3 (some 158) (bT 16 4) ?_; refine pureZ HT_ 4 (some 159) (bT 16 5) ?_; refine pureZ HT_ 6 (some 161) (bB 16 95) ?_; refine pureZ HT_ 8 (some 163) (bB 16 351) ?_; refine pureZ HT_ 12 (some 167) (bB 16 4447) ?_; refine takeZ12 HT_ HW_ 7 (some 162) (bB 16 4575) hHeld ?_; refine pureZ HT_ 9 (some 164) (bB 16 5087) ?_; refine pureZ HT_ 10 (some 165) (bB 16 6111) ?_; refine takeZ12 HT_ HW_ 11 (some 166) (bB 16 8159) hHeld ?_; refine pureZ HT_ 13 (some 168) (bB 16 16351) ?_; refine one_ (i := 5) (N := some 160) (bT 16 14) rfl rfl (one_of HT_.out Zk) (by decide) (fun K hK => ?_); refine goes_ Try.func15 Zk rfl #[.slice Ao82 t1368.length co82, .int .i64 x20_2] (by rfl) rfl rfl Zs ?_
                   with_reducible refine (laws_hasInt.calls kj66 _ _ t1368 x20_2 t1384 _ ?side1 ?side2 A75.out).mono ?_
                   (case side1 => exact (Zar HO_16))
                   (case side2 => exact (Kd.R_reads' HO_16.out).2.1)
                   rintro e w' ⟨rfl, ⟨nd, rfl⟩⟩; refine ⟨_, rfl, ?_⟩; refine hK.out _ _ (by exact ⟨(blk_cell BK1367.out 0).trans rfl, (blk_cell BK1367.out 1).trans rfl, (blk_cell BK1367.out 2).trans rfl, hHeld.2.2.2.1, hHeld.2.2.2.2.1, hHeld.2.2.2.2.2.1, hHeld.2.2.2.2.2.2.1, hHeld.2.2.2.2.2.2.2.1, hHeld.2.2.2.2.2.2.2.2.1, hHeld.2.2.2.2.2.2.2.2.2.1, hHeld.2.2.2.2.2.2.2.2.2.2.1, hHeld.2.2.2.2.2.2.2.2.2.2.2⟩) (fun hHeld => ?_); clear hK K; refine normZ 160 ?_; refine pureZ HT_ 14 (some 169) (bT 16 15) ?_; refine pureZ HT_ 15 (some 170) (bT 16 16) ?_; refine done_ (done_of HT_.out Zk) ?_
                   try go_wp2
                   go_roundg kj66
                   case measure => have := HJ11.out; have := HK2.out; have := HJ57.out; have := HJ66.out; omega
                   case rel => exact ⟨(wrap64 (x20_2 + 1)), Za, H', ⟨by have := HJ11.out; have := HK2.out; have := HJ57.out; have := HJ66.out; omega⟩, ⟨(Zcu HO_10)⟩, ⟨(Zcu HO_12)⟩, ⟨(Zaa HO_16)⟩, ⟨(Zaa HO_1343000)⟩, ⟨(Zaa HO_1343001)⟩, ⟨(Zaa HO_1343002)⟩, ⟨(Zaa HO_1368000)⟩, ⟨(Zaa HO_1368001)⟩, ⟨(Zaa HO_1368002)⟩, ⟨(Zh BK1342)⟩, ⟨(Zh BK1367)⟩, ⟨(Zw GE1342 GE1367)⟩⟩
                 ·rw [if_neg c77] at H
                  exact absurd H (by simp)
                ·rw [if_neg c76] at H
                 exact absurd H (by simp)
               ·rw [if_neg c74] at H
                have c74b0 := beq_eq_false_iff_ne.mpr c74; have c74b1 := bne_iff_ne.mpr c74; exact absurd ((Option.some.inj H).trans HR_.out) (by decide)
           ·rw [if_neg c64] at H
            exact absurd H (by simp)
          ·rw [if_neg c63] at H
           exact absurd H (by simp)
         ·replace c62 := Bool.eq_false_iff.mpr c62
          subst c62; rw [if_neg (show ¬ (false = true) by decide)] at H; have HC84 := am_ H; clear H
          go_upto_region 22 with (fail)
          go_cut [177] (fun v177 wc => ∃ (kq : Nat) (x177_83 : Bool), v177 = .bool x177_83 ∧ Aside0 (laws_FnBursts.j4 kq l0 t1343 t1344 t1345 t1349 t1353 x177_83 = some r) ∧ Aside0 (kq ≤ kj57) ∧ Aside0 (Kd.N (Kd.slice 2 (Kd.int .i64)) 33 wc w.heap.size (fun k_ => some k_ ≠ (v1354 : Value).ownBlock ∧ some k_ ≠ ((.slice Ao15 t1333.length co15) : Value).ownBlock ∧ some k_ ≠ ((.slice Ao17 t1336.length co17) : Value).ownBlock ∧ some k_ ≠ ((.slice Ao18 t1339.length co18) : Value).ownBlock ∧ some k_ ≠ ((.slice Ao28 t1357.length co28) : Value).ownBlock ∧ some k_ ≠ ((.slice Ao31 t1360.length co31) : Value).ownBlock ∧ some k_ ≠ ((.slice Ao32 t1363.length co32) : Value).ownBlock ∧ k_ ≠ gb1342 ∧ k_ ≠ gb1367) v1350 t1349) ∧ Aside0 (Kd.N (Kd.slice 2 (Kd.int .i64)) 33 wc w.heap.size (fun k_ => some k_ ≠ (v1350 : Value).ownBlock ∧ some k_ ≠ ((.slice Ao15 t1333.length co15) : Value).ownBlock ∧ some k_ ≠ ((.slice Ao17 t1336.length co17) : Value).ownBlock ∧ some k_ ≠ ((.slice Ao18 t1339.length co18) : Value).ownBlock ∧ some k_ ≠ ((.slice Ao28 t1357.length co28) : Value).ownBlock ∧ some k_ ≠ ((.slice Ao31 t1360.length co31) : Value).ownBlock ∧ some k_ ≠ ((.slice Ao32 t1363.length co32) : Value).ownBlock ∧ k_ ≠ gb1342 ∧ k_ ≠ gb1367) v1354 t1353) ∧ Aside0 (Kd.R k104 104 wc w.heap.size (fun k_ => some k_ ≠ ((.slice Ao28 t1357.length co28) : Value).ownBlock) (.slice Ao15 t1333.length co15) t1333) ∧ Aside0 (Kd.R k62 62 wc w.heap.size (fun k_ => some k_ ≠ ((.slice Ao31 t1360.length co31) : Value).ownBlock) (.slice Ao17 t1336.length co17) t1336) ∧ Aside0 (Kd.R k39 39 wc w.heap.size (fun k_ => some k_ ≠ ((.slice Ao32 t1363.length co32) : Value).ownBlock) (.slice Ao18 t1339.length co18) t1339) ∧ Aside0 (Kd.R k104 104 wc w.heap.size (fun k_ => some k_ ≠ ((.slice Ao15 t1333.length co15) : Value).ownBlock) (.slice Ao28 t1357.length co28) t1357) ∧ Aside0 (Kd.R k62 62 wc w.heap.size (fun k_ => some k_ ≠ ((.slice Ao17 t1336.length co17) : Value).ownBlock) (.slice Ao31 t1360.length co31) t1360) ∧ Aside0 (Kd.R k39 39 wc w.heap.size (fun k_ => some k_ ≠ ((.slice Ao18 t1339.length co18) : Value).ownBlock) (.slice Ao32 t1363.length co32) t1363) ∧ Aside0 (wc.heap[gb1342]? = some (.cells #[(.slice Ao15 t1333.length co15), (.slice Ao17 t1336.length co17), (.slice Ao18 t1339.length co18)] 28 (0, 0))) ∧ Aside0 (wc.heap[gb1367]? = some (.cells #[(.slice Ao28 t1357.length co28), (.slice Ao31 t1360.length co31), (.slice Ao32 t1363.length co32)] 28 (0, 0))) ∧ Aside0 (Below w.heap.size w wc))
          case first => as_aux_lemma =>
           have H := HC84.out; clear HC84
           by_cases c85 : t1345 = 0
           ·rw [if_pos c85] at H
            have c85b0 := beq_iff_eq.mpr c85; have c85b1 := bne_eq_false_iff_eq.mpr c85; clear c85
            (first | rw [c85b0] | (simp only [i64_w, i32_w]; rw [c85b0]) | skip)
            have H' := am_ H; clear H; obtain ⟨Ao86, co86, eo86⟩ := Kd.N_slice HO_10.out; subst eo86
            go_wp2
            go_meet
            case rel => exact ⟨_, (((t1349.length : Int) == 0)), Za, H', ⟨by have := HJ11.out; have := HK2.out; have := HJ57.out; first | omega | exact Nat.le_refl _⟩, ⟨(Zdc HO_10)⟩, ⟨(Zdc HO_12)⟩, ⟨(Zaa HO_1343000)⟩, ⟨(Zaa HO_1343001)⟩, ⟨(Zaa HO_1343002)⟩, ⟨(Zaa HO_1368000)⟩, ⟨(Zaa HO_1368001)⟩, ⟨(Zaa HO_1368002)⟩, ⟨(Zh BK1342)⟩, ⟨(Zh BK1367)⟩, ⟨(Zw GE1342 GE1367)⟩⟩
           ·rw [if_neg c85] at H
            have c85b0 := beq_eq_false_iff_ne.mpr c85; have c85b1 := bne_iff_ne.mpr c85
            (first | rw [c85b0] | (simp only [i64_w, i32_w]; rw [c85b0]) | skip)
            have H' := am_ H; clear H
            go_wp2
            go_meet
            case rel => exact ⟨_, (true), Za, H', ⟨by have := HJ11.out; have := HK2.out; have := HJ57.out; first | omega | exact Nat.le_refl _⟩, ⟨(Zdc HO_10)⟩, ⟨(Zdc HO_12)⟩, ⟨(Zaa HO_1343000)⟩, ⟨(Zaa HO_1343001)⟩, ⟨(Zaa HO_1343002)⟩, ⟨(Zaa HO_1368000)⟩, ⟨(Zaa HO_1368001)⟩, ⟨(Zaa HO_1368002)⟩, ⟨(Zh BK1342)⟩, ⟨(Zh BK1367)⟩, ⟨(Zw GE1342 GE1367)⟩⟩
          case rest => as_aux_lemma =>
           clear HC84
           try clear c1
           try clear p1
           try clear q1
           try clear hx1
           try clear p2
           try clear c6
           try clear p6
           try clear c7
           try clear c8
           try clear p13
           try clear q13
           try clear hx13
           try clear c15
           try clear c62
           try clear c63
           try clear c64
           try clear p64
           try clear c73
           try clear c74
           try clear c74b0
           try clear c74b1
           try clear c76
           try clear c76b0
           try clear c77
           try clear c77b0
           try clear c78
           try clear c78b0
           try clear c78b1
           try clear c78b2
           try clear c85
           try clear c85b0
           try clear c85b1
           try clear hx1385_0
           try clear hx1385_1
           try clear hx1385_2
           try clear hx1385_3
           try clear hx1385_4
           try clear hx1385_5
           try clear hx1385_6
           try clear hx1385_7
           try clear hx1385_8
           try clear p1385
           try clear q1385
           obtain ⟨kq, x177_83, rfl, HA, HJ83, HO_10, HO_12, HO_1343000, HO_1343001, HO_1343002, HO_1368000, HO_1368001, HO_1368002, BK1342, BK1367, HB⟩ := hcut
           cases kq with
           | zero => exact absurd HA.out (by simp [laws_FnBursts.j4])
           | succ kj83 =>
            have H := HA.out; clear HA; simp only [laws_FnBursts.j4] at H
            by_cases c87 : x177_83 = true
            ·subst c87
             rw [if_pos rfl] at H
             by_cases c88 : t1345 = 0
             ·rw [if_pos c88] at H
              have c88b0 := beq_iff_eq.mpr c88; have c88b1 := bne_eq_false_iff_eq.mpr c88; clear c88
              by_cases c89 : t1344 = 0
              ·rw [if_pos c89] at H
               have c89b0 := beq_iff_eq.mpr c89; have c89b1 := bne_eq_false_iff_eq.mpr c89; clear c89; obtain rfl := Option.some.inj H
               go_wp2
               go_ret
               exact ⟨Zl, (Zw GE1342 GE1367)⟩
              ·rw [if_neg c89] at H
               have c89b0 := beq_eq_false_iff_ne.mpr c89; have c89b1 := bne_iff_ne.mpr c89; exact absurd ((Option.some.inj H).trans HR_.out) (by decide)
             ·rw [if_neg c88] at H
              have c88b0 := beq_eq_false_iff_ne.mpr c88; have c88b1 := bne_iff_ne.mpr c88; obtain rfl := Option.some.inj H
              go_wp2
              go_ret
              exact ⟨Zl, (Zw GE1342 GE1367)⟩
            ·replace c87 := Bool.eq_false_iff.mpr c87
             subst c87; rw [if_neg (show ¬ (false = true) by decide)] at H; replace H := Option.bind_eq_some_iff.mp H; obtain ⟨⟨t1386, t1387, t1388⟩, A900, H⟩ := H
             dsimp only at H
             have A90 := am_ A900; clear A900; replace H := Option.bind_eq_some_iff.mp H; obtain ⟨⟨t1390, t1391, t1392⟩, A910, H⟩ := H
             dsimp only at H
             have A91 := am_ A910; clear A910
             by_cases c92 : 0 ≤ t1390
             ·rw [if_pos c92] at H
              have c92b0 := decide_eq_true c92; clear c92
              by_cases c93 : t1390 < (t1353.length : Int)
              ·rw [if_pos c93] at H
               have c93b0 := decide_eq_true c93; clear c93
               by_cases c94 : 1 < ((rd_L6 t1353 t1390).length : Int)
               ·rw [if_pos c94] at H
                have c94b0 := decide_eq_true c94; have c94b1 : decide (1 < (rd_L6 t1353 t1390).length) = true := decide_eq_true (by omega); clear c94; have H' := am_ H; clear H
                go_wp2_with (first | ((with_reducible refine gate_callee (f := 46) rfl ?_); refine gZ 190 Try.func46 #[.slice A0 l0.length c0, .int .u64 901] ?_; (with_reducible refine (laws_roll.calls kj83 _ _ l0 901 t1386 t1387 t1388 w _ ?_ ?_ ?_ A90.out).mono ?_); exact (Zw GE1342 GE1367); exact HR0.out; exact HC0.out; rintro e w95 ⟨g1389, rfl, hi, hb, hb2, hgw_⟩; refine ⟨_, rfl, ?_⟩; replace HO_10 := am_ (Kd.N_below (Kd.N_elderB (Zcu HO_10) g1389 hgw_) hb2); replace HO_12 := am_ (Kd.N_below (Kd.N_elderB (Zcu HO_12) g1389 hgw_) hb2); replace HO_1343000 := am_ (Kd.R_below (Zaa HO_1343000) hb2); replace HO_1343001 := am_ (Kd.R_below (Zaa HO_1343001) hb2); replace HO_1343002 := am_ (Kd.R_below (Zaa HO_1343002) hb2); replace HO_1368000 := am_ (Kd.R_below (Zaa HO_1368000) hb2); replace HO_1368001 := am_ (Kd.R_below (Zaa HO_1368001) hb2); replace HO_1368002 := am_ (Kd.R_below (Zaa HO_1368002) hb2); replace HB := am_ (hb); replace HI1389 := am_ (hi); replace NB1389_1342 := am_ (IsS95.ne_blk hi (blk_below (g := gb1342) (b0Z BK1342) hb2) (by decide)); replace NB1342_1389 := am_ (Ne.symm (IsS95.ne_blk hi (blk_below (g := gb1342) (b0Z BK1342) hb2) (by decide))); replace BK1342 := am_ (blk_below (g := gb1342) (b0Z BK1342) hb2); replace NB1389_1367 := am_ (IsS95.ne_blk hi (blk_below (g := gb1367) (b0Z BK1367) hb2) (by decide)); replace NB1367_1389 := am_ (Ne.symm (IsS95.ne_blk hi (blk_below (g := gb1367) (b0Z BK1367) hb2) (by decide))); replace BK1367 := am_ (blk_below (g := gb1367) (b0Z BK1367) hb2); clear hb hb2 hi; obtain ⟨Ao96, co96, eo96⟩ := Kd.N_slice HO_12.out; subst eo96) | ((with_reducible refine gate_callee (f := 47) rfl ?_); refine gZ 193 Try.func47 #[.pointer (some ⟨g1389, 0, none⟩), .int .i64 (t1353.length : Int)] ?_; (with_reducible refine (laws_dice_below.calls g1389 t1386 t1387 t1388 (t1353.length : Int) t1390 t1391 t1392 w _ ?_ ?_ A91.out).mono ?_); exact (Zdd NB1389_1342 NB1389_1367); exact (by repeat (first | (with_reducible first | exact HB.out | apply below_alloc | apply pw_below_drewN | apply below_drew1 | refine below_set ?_ (IsS95.ge HI1389.out) | refine below_set ?_ GE1342.out | refine below_set ?_ GE1367.out) | exact HB.out)); rintro e w97 ⟨rfl, hi, hb, hk⟩; refine ⟨_, rfl, ?_⟩; replace HO_10 := am_ (Kd.N_mono (Kd.N_keep (Kd.N_mono (ok := fun k_ => ((some k_ ≠ (.slice Ao96 t1353.length co96 : Value).ownBlock ∧ (some k_ ≠ (.slice Ao15 t1333.length co15 : Value).ownBlock ∧ (some k_ ≠ (.slice Ao17 t1336.length co17 : Value).ownBlock ∧ (some k_ ≠ (.slice Ao18 t1339.length co18 : Value).ownBlock ∧ (some k_ ≠ (.slice Ao28 t1357.length co28 : Value).ownBlock ∧ (some k_ ≠ (.slice Ao31 t1360.length co31 : Value).ownBlock ∧ (some k_ ≠ (.slice Ao32 t1363.length co32 : Value).ownBlock ∧ (k_ ≠ gb1342 ∧ k_ ≠ gb1367)))))))) ∧ k_ ≠ g1389)) (Zcu HO_10) (fun k_ hk_ => (⟨hk_, hk_.2⟩ : _ ∧ k_ ≠ g1389))) hk (fun _ h => h.2)) (fun _ h => h.1)); replace HO_12 := am_ (Kd.N_mono (Kd.N_keep (Kd.N_mono (ok := fun k_ => ((some k_ ≠ (v1350 : Value).ownBlock ∧ (some k_ ≠ (.slice Ao15 t1333.length co15 : Value).ownBlock ∧ (some k_ ≠ (.slice Ao17 t1336.length co17 : Value).ownBlock ∧ (some k_ ≠ (.slice Ao18 t1339.length co18 : Value).ownBlock ∧ (some k_ ≠ (.slice Ao28 t1357.length co28 : Value).ownBlock ∧ (some k_ ≠ (.slice Ao31 t1360.length co31 : Value).ownBlock ∧ (some k_ ≠ (.slice Ao32 t1363.length co32 : Value).ownBlock ∧ (k_ ≠ gb1342 ∧ k_ ≠ gb1367)))))))) ∧ k_ ≠ g1389)) (Zcu HO_12) (fun k_ hk_ => (⟨hk_, hk_.2⟩ : _ ∧ k_ ≠ g1389))) hk (fun _ h => h.2)) (fun _ h => h.1)); replace HO_1343000 := (hoZ (IsS95.apart (show IsS95 w _ g1389 t1386 t1387 t1388 from (Zdd NB1389_1342 NB1389_1367)) (Zaa HO_1343000) (by decide)) hk); replace HO_1343001 := (hoZ (IsS95.apart (show IsS95 w _ g1389 t1386 t1387 t1388 from (Zdd NB1389_1342 NB1389_1367)) (Zaa HO_1343001) (by decide)) hk); replace HO_1343002 := (hoZ (IsS95.apart (show IsS95 w _ g1389 t1386 t1387 t1388 from (Zdd NB1389_1342 NB1389_1367)) (Zaa HO_1343002) (by decide)) hk); replace HO_1368000 := (hoZ (IsS95.apart (show IsS95 w _ g1389 t1386 t1387 t1388 from (Zdd NB1389_1342 NB1389_1367)) (Zaa HO_1368000) (by decide)) hk); replace HO_1368001 := (hoZ (IsS95.apart (show IsS95 w _ g1389 t1386 t1387 t1388 from (Zdd NB1389_1342 NB1389_1367)) (Zaa HO_1368001) (by decide)) hk); replace HO_1368002 := (hoZ (IsS95.apart (show IsS95 w _ g1389 t1386 t1387 t1388 from (Zdd NB1389_1342 NB1389_1367)) (Zaa HO_1368002) (by decide)) hk); replace BK1342 := (kbZ BK1342 hk NB1342_1389); replace BK1367 := (kbZ BK1367 hk NB1367_1389); replace HB := am_ (hb); replace HI1389 := am_ (hi); clear hb hk hi; have p1393 : 0 ≤ (t1390 : Int) := of_decide_eq_true Zc; have q1393 : t1390 < (t1353.length : Int) := of_decide_eq_true Zc; obtain ⟨ad1393, A1393_0, c1393_0, e1393, hx1393_0, hl1393_0, hi1393_0⟩ := at_L6 (Kd.N_reads' HO_12.out).2.2 t1390 p1393 q1393; cases e1393; obtain ⟨ce1393, hce1393, hMe1393, hcc1393⟩ := Kd.N_get HO_12.out [] t1390 p1393 (by first | exact q1393 | exact of_decide_eq_true Zc | (have e_ := (Kd.N_reads' HO_12.out).1; omega)); obtain ⟨ua1393_0, uc1393_0, rfl, ul1393_0, ge1393_0⟩ := Kd.FK_slice_open hMe1393; have hv1393_0 := hcc1393 0 _ rfl; rw [Nat.add_zero, show ((Kd.slice 2 (Kd.int .i64))).sz = 1 from rfl, Nat.mul_one] at hv1393_0; replace hv1393_0 := Option.some.inj (hv1393_0.symm.trans hx1393_0); injection hv1393_0 with hva_ hvn_ hvc_; rw [hva_] at ge1393_0; rw [hvc_] at ul1393_0; have HL1393_0 := am_ (show Kd.V (Kd.int .i64) 2 _ w.heap.size _ _ (rd_L6 t1353 t1390) from Kd.V_mk ul1393_0 ge1393_0); clear hva_ hvn_ hvc_ ge1393_0 ul1393_0; clear hcc1393 hce1393; have HR1393_0 := am_ hi1393_0; have HC1393_0 := am_ hl1393_0; clear hi1393_0 hl1393_0; replace p1393 := eq_true p1393; replace q1393 := eq_true q1393; have p1394 : 0 ≤ (1 : Int) := (by omega); have q1394 : 1 < ((rd_L6 t1353 t1390).length : Int) := of_decide_eq_true Zc; obtain ⟨ad1394, e1394, hx1394_0⟩ := Kd.at_int (Zcs HR1393_0) 1 p1394 q1394; cases e1394; (try simp only [show (1 : Int).toNat = 1 from rfl, Nat.reduceMul, Nat.reduceEqDiff, Go.Addr.add, ↓reduceIte] at hx1394_0); have qi1394 : (1 < (rd_L6 t1353 t1390).length) = True := eq_true (by omega); (try rw [show ((1 : Int)).toNat = 1 from rfl] at hx1394_0); replace p1394 := eq_true p1394; replace q1394 := eq_true q1394))
                go_loopg [25, 26, 28] kj83 (fun kq v25 v26 v28 w' => ∃ (x25_5 : Int) (x26_5 : Int) (x28_5 : Int), v25 = .int .i64 x25_5 ∧ v26 = .int .i64 x26_5 ∧ v28 = .int .i64 x28_5 ∧ Aside0 (laws_FnBursts.l1 kq t1343 t1344 t1349 t1353 x25_5 x26_5 (rd (rd_L6 t1353 t1390) 1) x28_5 = some r) ∧ Aside0 (kq ≤ kj83) ∧ Aside0 (Kd.N (Kd.slice 2 (Kd.int .i64)) 33 w' w.heap.size (fun k_ => some k_ ≠ ((.slice (some ad1393) t1353.length co96) : Value).ownBlock ∧ some k_ ≠ ((.slice Ao15 t1333.length co15) : Value).ownBlock ∧ some k_ ≠ ((.slice Ao17 t1336.length co17) : Value).ownBlock ∧ some k_ ≠ ((.slice Ao18 t1339.length co18) : Value).ownBlock ∧ some k_ ≠ ((.slice Ao28 t1357.length co28) : Value).ownBlock ∧ some k_ ≠ ((.slice Ao31 t1360.length co31) : Value).ownBlock ∧ some k_ ≠ ((.slice Ao32 t1363.length co32) : Value).ownBlock ∧ k_ ≠ gb1342 ∧ k_ ≠ gb1367) v1350 t1349) ∧ Aside0 (Kd.N (Kd.slice 2 (Kd.int .i64)) 33 w' w.heap.size (fun k_ => some k_ ≠ (v1350 : Value).ownBlock ∧ some k_ ≠ ((.slice Ao15 t1333.length co15) : Value).ownBlock ∧ some k_ ≠ ((.slice Ao17 t1336.length co17) : Value).ownBlock ∧ some k_ ≠ ((.slice Ao18 t1339.length co18) : Value).ownBlock ∧ some k_ ≠ ((.slice Ao28 t1357.length co28) : Value).ownBlock ∧ some k_ ≠ ((.slice Ao31 t1360.length co31) : Value).ownBlock ∧ some k_ ≠ ((.slice Ao32 t1363.length co32) : Value).ownBlock ∧ k_ ≠ gb1342 ∧ k_ ≠ gb1367) (.slice (some ad1393) t1353.length co96) t1353) ∧ Aside0 (Kd.R k104 104 w' w.heap.size (fun k_ => some k_ ≠ ((.slice Ao28 t1357.length co28) : Value).ownBlock) (.slice Ao15 t1333.length co15) t1333) ∧ Aside0 (Kd.R k62 62 w' w.heap.size (fun k_ => some k_ ≠ ((.slice Ao31 t1360.length co31) : Value).ownBlock) (.slice Ao17 t1336.length co17) t1336) ∧ Aside0 (Kd.R k39 39 w' w.heap.size (fun k_ => some k_ ≠ ((.slice Ao32 t1363.length co32) : Value).ownBlock) (.slice Ao18 t1339.length co18) t1339) ∧ Aside0 (Kd.R k104 104 w' w.heap.size (fun k_ => some k_ ≠ ((.slice Ao15 t1333.length co15) : Value).ownBlock) (.slice Ao28 t1357.length co28) t1357) ∧ Aside0 (Kd.R k62 62 w' w.heap.size (fun k_ => some k_ ≠ ((.slice Ao17 t1336.length co17) : Value).ownBlock) (.slice Ao31 t1360.length co31) t1360) ∧ Aside0 (Kd.R k39 39 w' w.heap.size (fun k_ => some k_ ≠ ((.slice Ao18 t1339.length co18) : Value).ownBlock) (.slice Ao32 t1363.length co32) t1363) ∧ Aside0 (w'.heap[gb1342]? = some (.cells #[(.slice Ao15 t1333.length co15), (.slice Ao17 t1336.length co17), (.slice Ao18 t1339.length co18)] 28 (0, 0))) ∧ Aside0 (w'.heap[gb1367]? = some (.cells #[(.slice Ao28 t1357.length co28), (.slice Ao31 t1360.length co31), (.slice Ao32 t1363.length co32)] 28 (0, 0))) ∧ Aside0 (Kd.C (Kd.int .i64) w' (some ad1394) (rd_L6 t1353 t1390).length (rd_L6 t1353 t1390)) ∧ Aside0 (Below w.heap.size w w'))
                case atStart => exact ⟨(0), (0), (0), Za, Za, Za, H', ⟨Nat.le_refl _⟩, ⟨(Zde HO_10)⟩, ⟨(Zde HO_12)⟩, ⟨(Zaa HO_1343000)⟩, ⟨(Zaa HO_1343001)⟩, ⟨(Zaa HO_1343002)⟩, ⟨(Zaa HO_1368000)⟩, ⟨(Zaa HO_1368001)⟩, ⟨(Zaa HO_1368002)⟩, ⟨(Zh BK1342)⟩, ⟨(Zh BK1367)⟩, ⟨(Zcs HR1393_0)⟩, ⟨by repeat (first | (with_reducible first | exact HB.out | apply below_alloc | apply pw_below_drewN | apply below_drew1 | refine below_set ?_ (IsS95.ge HI1389.out) | refine below_set ?_ GE1342.out | refine below_set ?_ GE1367.out) | exact HB.out)⟩⟩
                case round => as_aux_lemma =>
                 clear H'
                 try clear c1
                 try clear p1
                 try clear q1
                 try clear hx1
                 try clear qi1
                 try clear p2
                 try clear c4
                 try clear c6
                 try clear p6
                 try clear c7
                 try clear c8
                 try clear c9
                 try clear c13
                 try clear p13
                 try clear q13
                 try clear hx13
                 try clear qi13
                 try clear c15
                 try clear c46
                 try clear c47
                 try clear c62
                 try clear c63
                 try clear c64
                 try clear p64
                 try clear c73
                 try clear c74
                 try clear c74b0
                 try clear c74b1
                 try clear c76
                 try clear c76b0
                 try clear c77
                 try clear c77b0
                 try clear c78
                 try clear c78b0
                 try clear c78b1
                 try clear c78b2
                 try clear c85
                 try clear c85b0
                 try clear c85b1
                 try clear c87
                 try clear c88
                 try clear c88b0
                 try clear c88b1
                 try clear c89
                 try clear c89b0
                 try clear c89b1
                 try clear c92
                 try clear c92b0
                 try clear c93
                 try clear c93b0
                 try clear c94
                 try clear c94b0
                 try clear c94b1
                 try clear hx1385_0
                 try clear hx1385_1
                 try clear hx1385_2
                 try clear hx1385_3
                 try clear hx1385_4
                 try clear hx1385_5
                 try clear hx1385_6
                 try clear hx1385_7
                 try clear hx1385_8
                 try clear hx1393_0
                 try clear hx1394_0
                 try clear p1
                 try clear p13
                 try clear p1385
                 try clear p1393
                 try clear p1394
                 try clear p2
                 try clear p6
                 try clear p64
                 try clear q1
                 try clear q13
                 try clear q1385
                 try clear q1393
                 try clear q1394
                 obtain ⟨x25_5, x26_5, x28_5, rfl, rfl, rfl, HA, HK5, HO_10, HO_12, HO_1343000, HO_1343001, HO_1343002, HO_1368000, HO_1368001, HO_1368002, BK1342, BK1367, HR1393_0, HB⟩ := hrel
                 cases gk with
                 | zero => exact absurd HA.out (by simp [laws_FnBursts.l1])
                 | succ k5 =>
                  have H := HA.out; clear HA; simp only [laws_FnBursts.l1] at H
                  by_cases c98 : x28_5 < (t1353.length : Int)
                  ·rw [if_pos c98] at H
                   have c98b0 := decide_eq_true c98; clear c98; have HC99 := am_ H; clear H
                   go_upto_region 29 with (fail)
                   go_cut [221] (fun v221 wc => ∃ (kq : Nat) (x221_98 : Bool), v221 = .bool x221_98 ∧ Aside0 (laws_FnBursts.j6 kq t1343 t1344 t1349 t1353 x25_5 x26_5 (rd (rd_L6 t1353 t1390) 1) x28_5 x221_98 = some r) ∧ Aside0 (kq ≤ k5) ∧ Aside0 (Kd.N (Kd.slice 2 (Kd.int .i64)) 33 wc w.heap.size (fun k_ => some k_ ≠ ((.slice (some ad1393) t1353.length co96) : Value).ownBlock ∧ some k_ ≠ ((.slice Ao15 t1333.length co15) : Value).ownBlock ∧ some k_ ≠ ((.slice Ao17 t1336.length co17) : Value).ownBlock ∧ some k_ ≠ ((.slice Ao18 t1339.length co18) : Value).ownBlock ∧ some k_ ≠ ((.slice Ao28 t1357.length co28) : Value).ownBlock ∧ some k_ ≠ ((.slice Ao31 t1360.length co31) : Value).ownBlock ∧ some k_ ≠ ((.slice Ao32 t1363.length co32) : Value).ownBlock ∧ k_ ≠ gb1342 ∧ k_ ≠ gb1367) v1350 t1349) ∧ Aside0 (Kd.N (Kd.slice 2 (Kd.int .i64)) 33 wc w.heap.size (fun k_ => some k_ ≠ (v1350 : Value).ownBlock ∧ some k_ ≠ ((.slice Ao15 t1333.length co15) : Value).ownBlock ∧ some k_ ≠ ((.slice Ao17 t1336.length co17) : Value).ownBlock ∧ some k_ ≠ ((.slice Ao18 t1339.length co18) : Value).ownBlock ∧ some k_ ≠ ((.slice Ao28 t1357.length co28) : Value).ownBlock ∧ some k_ ≠ ((.slice Ao31 t1360.length co31) : Value).ownBlock ∧ some k_ ≠ ((.slice Ao32 t1363.length co32) : Value).ownBlock ∧ k_ ≠ gb1342 ∧ k_ ≠ gb1367) (.slice (some ad1393) t1353.length co96) t1353) ∧ Aside0 (Kd.R k104 104 wc w.heap.size (fun k_ => some k_ ≠ ((.slice Ao28 t1357.length co28) : Value).ownBlock) (.slice Ao15 t1333.length co15) t1333) ∧ Aside0 (Kd.R k62 62 wc w.heap.size (fun k_ => some k_ ≠ ((.slice Ao31 t1360.length co31) : Value).ownBlock) (.slice Ao17 t1336.length co17) t1336) ∧ Aside0 (Kd.R k39 39 wc w.heap.size (fun k_ => some k_ ≠ ((.slice Ao32 t1363.length co32) : Value).ownBlock) (.slice Ao18 t1339.length co18) t1339) ∧ Aside0 (Kd.R k104 104 wc w.heap.size (fun k_ => some k_ ≠ ((.slice Ao15 t1333.length co15) : Value).ownBlock) (.slice Ao28 t1357.length co28) t1357) ∧ Aside0 (Kd.R k62 62 wc w.heap.size (fun k_ => some k_ ≠ ((.slice Ao17 t1336.length co17) : Value).ownBlock) (.slice Ao31 t1360.length co31) t1360) ∧ Aside0 (Kd.R k39 39 wc w.heap.size (fun k_ => some k_ ≠ ((.slice Ao18 t1339.length co18) : Value).ownBlock) (.slice Ao32 t1363.length co32) t1363) ∧ Aside0 (wc.heap[gb1342]? = some (.cells #[(.slice Ao15 t1333.length co15), (.slice Ao17 t1336.length co17), (.slice Ao18 t1339.length co18)] 28 (0, 0))) ∧ Aside0 (wc.heap[gb1367]? = some (.cells #[(.slice Ao28 t1357.length co28), (.slice Ao31 t1360.length co31), (.slice Ao32 t1363.length co32)] 28 (0, 0))) ∧ Aside0 (Kd.C (Kd.int .i64) wc (some ad1394) (rd_L6 t1353 t1390).length (rd_L6 t1353 t1390)) ∧ Aside0 (Below w.heap.size w wc))
                   case first => as_aux_lemma =>
                    have H := HC99.out; clear HC99
                    by_cases c100 : 0 ≤ x28_5
                    ·rw [if_pos c100] at H
                     have c100b0 := decide_eq_true c100; clear c100
                     (first | rw [c100b0] | (simp only [i64_w, i32_w]; rw [c100b0]) | skip)
                     by_cases c101 : x28_5 < (t1349.length : Int)
                     ·rw [if_pos c101] at H
                      have c101b0 := decide_eq_true c101; clear c101
                      by_cases c102 : 0 < ((rd_L6 t1349 x28_5).length : Int)
                      ·rw [if_pos c102] at H
                       have c102b0 := decide_eq_true c102; have c102b1 : decide (0 < (rd_L6 t1349 x28_5).length) = true := decide_eq_true (by omega); clear c102
                       by_cases c103 : (rd (rd_L6 t1349 x28_5) 0) ≤ t1343
                       ·rw [if_pos c103] at H
                        have c103b0 := decide_eq_true c103; clear c103
                        by_cases c104 : 1 < ((rd_L6 t1349 x28_5).length : Int)
                        ·rw [if_pos c104] at H
                         have c104b0 := decide_eq_true c104; have c104b1 : decide (1 < (rd_L6 t1349 x28_5).length) = true := decide_eq_true (by omega); clear c104; have H' := am_ H; clear H; obtain ⟨Ao105, co105, eo105⟩ := Kd.N_slice HO_10.out; subst eo105; have p1395 : 0 ≤ (x28_5 : Int) := of_decide_eq_true Zc; have q1395 : x28_5 < (t1349.length : Int) := of_decide_eq_true Zc; obtain ⟨ad1395, A1395_0, c1395_0, e1395, hx1395_0, hl1395_0, hi1395_0⟩ := at_L6 (Kd.N_reads' HO_10.out).2.2 x28_5 p1395 q1395
                         cases e1395
                         obtain ⟨ce1395, hce1395, hMe1395, hcc1395⟩ := Kd.N_get HO_10.out [] x28_5 p1395 (by first | exact q1395 | exact of_decide_eq_true Zc | (have e_ := (Kd.N_reads' HO_10.out).1; omega)); obtain ⟨ua1395_0, uc1395_0, rfl, ul1395_0, ge1395_0⟩ := Kd.FK_slice_open hMe1395; have hv1395_0 := hcc1395 0 _ rfl; rw [Nat.add_zero, show ((Kd.slice 2 (Kd.int .i64))).sz = 1 from rfl, Nat.mul_one] at hv1395_0; replace hv1395_0 := Option.some.inj (hv1395_0.symm.trans hx1395_0); injection hv1395_0 with hva_ hvn_ hvc_; rw [hva_] at ge1395_0; rw [hvc_] at ul1395_0; have HL1395_0 := am_ (show Kd.V (Kd.int .i64) 2 _ w.heap.size _ _ (rd_L6 t1349 x28_5) from Kd.V_mk ul1395_0 ge1395_0); clear hva_ hvn_ hvc_ ge1395_0 ul1395_0; clear hcc1395 hce1395; have HR1395_0 := am_ hi1395_0; have HC1395_0 := am_ hl1395_0; clear hi1395_0 hl1395_0; replace p1395 := eq_true p1395; replace q1395 := eq_true q1395; have p1396 : 0 ≤ (0 : Int) := (by omega); have q1396 : 0 < ((rd_L6 t1349 x28_5).length : Int) := of_decide_eq_true Zc; obtain ⟨ad1396, e1396, hx1396_0⟩ := Kd.at_int (Zcs HR1395_0) 0 p1396 q1396
                         cases e1396
                         have qi1396 : (0 < (rd_L6 t1349 x28_5).length) = True := eq_true (by omega)
                         (try rw [show ((0 : Int)).toNat = 0 from rfl] at hx1396_0)
                         (try rw [Addr.add_zero'] at hx1396_0)
                         replace p1396 := eq_true p1396; replace q1396 := eq_true q1396; have p1397 : 0 ≤ (x28_5 : Int) := of_decide_eq_true Zc; have q1397 : x28_5 < (t1349.length : Int) := of_decide_eq_true Zc; obtain ⟨ad1397, A1397_0, c1397_0, e1397, hx1397_0, hl1397_0, hi1397_0⟩ := at_L6 (Kd.N_reads' HO_10.out).2.2 x28_5 p1397 q1397; obtain rfl : ad1395 = ad1397 := (by injection e1397); obtain ⟨ce1397, hce1397, hMe1397, hcc1397⟩ := Kd.N_get HO_10.out [] x28_5 p1397 (by first | exact q1397 | exact of_decide_eq_true Zc | (have e_ := (Kd.N_reads' HO_10.out).1; omega)); obtain ⟨ua1397_0, uc1397_0, rfl, ul1397_0, ge1397_0⟩ := Kd.FK_slice_open hMe1397; have hv1397_0 := hcc1397 0 _ rfl; rw [Nat.add_zero, show ((Kd.slice 2 (Kd.int .i64))).sz = 1 from rfl, Nat.mul_one] at hv1397_0; replace hv1397_0 := Option.some.inj (hv1397_0.symm.trans hx1397_0); injection hv1397_0 with hva_ hvn_ hvc_; rw [hva_] at ge1397_0; rw [hvc_] at ul1397_0; have HL1397_0 := am_ (show Kd.V (Kd.int .i64) 2 _ w.heap.size _ _ (rd_L6 t1349 x28_5) from Kd.V_mk ul1397_0 ge1397_0); clear hva_ hvn_ hvc_ ge1397_0 ul1397_0; clear hcc1397 hce1397; have HR1397_0 := am_ hi1397_0; have HC1397_0 := am_ hl1397_0; clear hi1397_0 hl1397_0; replace p1397 := eq_true p1397; replace q1397 := eq_true q1397; have ea_ := Option.some.inj (hx1395_0.symm.trans hx1397_0); injection ea_ with ea_ en_ ec_; subst ea_; subst ec_; clear en_; have p1398 : 0 ≤ (1 : Int) := (by omega); have q1398 : 1 < ((rd_L6 t1349 x28_5).length : Int) := of_decide_eq_true Zc; obtain ⟨ad1398, e1398, hx1398_0⟩ := Kd.at_int (Zcs HR1397_0) 1 p1398 q1398
                         cases e1398
                         (try simp only [show (1 : Int).toNat = 1 from rfl, Nat.reduceMul, Nat.reduceEqDiff, Go.Addr.add, ↓reduceIte] at hx1398_0)
                         have qi1398 : (1 < (rd_L6 t1349 x28_5).length) = True := eq_true (by omega)
                         (try rw [show ((1 : Int)).toNat = 1 from rfl] at hx1398_0)
                         replace p1398 := eq_true p1398; replace q1398 := eq_true q1398
                         go_wp2
                         go_meet
                         case rel => exact ⟨_, (decide (t1343 ≤ (rd (rd_L6 t1349 x28_5) 1))), Za, H', ⟨by have := HJ11.out; have := HK2.out; have := HJ57.out; have := HJ83.out; have := HK5.out; first | omega | exact Nat.le_refl _⟩, ⟨(Zcu HO_10)⟩, ⟨(Zcu HO_12)⟩, ⟨(Zaa HO_1343000)⟩, ⟨(Zaa HO_1343001)⟩, ⟨(Zaa HO_1343002)⟩, ⟨(Zaa HO_1368000)⟩, ⟨(Zaa HO_1368001)⟩, ⟨(Zaa HO_1368002)⟩, ⟨(Zh BK1342)⟩, ⟨(Zh BK1367)⟩, ⟨(Zcs HR1393_0)⟩, ⟨(Zw GE1342 GE1367)⟩⟩
                        ·rw [if_neg c104] at H
                         exact absurd H (by simp)
                       ·rw [if_neg c103] at H
                        have c103b0 := decide_eq_false c103; clear c103; have H' := am_ H; clear H; obtain ⟨Ao106, co106, eo106⟩ := Kd.N_slice HO_10.out; subst eo106; have p1395 : 0 ≤ (x28_5 : Int) := of_decide_eq_true Zc; have q1395 : x28_5 < (t1349.length : Int) := of_decide_eq_true Zc; obtain ⟨ad1395, A1395_0, c1395_0, e1395, hx1395_0, hl1395_0, hi1395_0⟩ := at_L6 (Kd.N_reads' HO_10.out).2.2 x28_5 p1395 q1395
                        cases e1395
                        obtain ⟨ce1395, hce1395, hMe1395, hcc1395⟩ := Kd.N_get HO_10.out [] x28_5 p1395 (by first | exact q1395 | exact of_decide_eq_true Zc | (have e_ := (Kd.N_reads' HO_10.out).1; omega)); obtain ⟨ua1395_0, uc1395_0, rfl, ul1395_0, ge1395_0⟩ := Kd.FK_slice_open hMe1395; have hv1395_0 := hcc1395 0 _ rfl; rw [Nat.add_zero, show ((Kd.slice 2 (Kd.int .i64))).sz = 1 from rfl, Nat.mul_one] at hv1395_0; replace hv1395_0 := Option.some.inj (hv1395_0.symm.trans hx1395_0); injection hv1395_0 with hva_ hvn_ hvc_; rw [hva_] at ge1395_0; rw [hvc_] at ul1395_0; have HL1395_0 := am_ (show Kd.V (Kd.int .i64) 2 _ w.heap.size _ _ (rd_L6 t1349 x28_5) from Kd.V_mk ul1395_0 ge1395_0); clear hva_ hvn_ hvc_ ge1395_0 ul1395_0; clear hcc1395 hce1395; have HR1395_0 := am_ hi1395_0; have HC1395_0 := am_ hl1395_0; clear hi1395_0 hl1395_0; replace p1395 := eq_true p1395; replace q1395 := eq_true q1395; have p1396 : 0 ≤ (0 : Int) := (by omega); have q1396 : 0 < ((rd_L6 t1349 x28_5).length : Int) := of_decide_eq_true Zc; obtain ⟨ad1396, e1396, hx1396_0⟩ := Kd.at_int (Zcs HR1395_0) 0 p1396 q1396
                        cases e1396
                        have qi1396 : (0 < (rd_L6 t1349 x28_5).length) = True := eq_true (by omega)
                        (try rw [show ((0 : Int)).toNat = 0 from rfl] at hx1396_0)
                        (try rw [Addr.add_zero'] at hx1396_0)
                        replace p1396 := eq_true p1396; replace q1396 := eq_true q1396
                        go_wp2
                        go_meet
                        case rel => exact ⟨_, (false), Za, H', ⟨by have := HJ11.out; have := HK2.out; have := HJ57.out; have := HJ83.out; have := HK5.out; first | omega | exact Nat.le_refl _⟩, ⟨(Zcu HO_10)⟩, ⟨(Zcu HO_12)⟩, ⟨(Zaa HO_1343000)⟩, ⟨(Zaa HO_1343001)⟩, ⟨(Zaa HO_1343002)⟩, ⟨(Zaa HO_1368000)⟩, ⟨(Zaa HO_1368001)⟩, ⟨(Zaa HO_1368002)⟩, ⟨(Zh BK1342)⟩, ⟨(Zh BK1367)⟩, ⟨(Zcs HR1393_0)⟩, ⟨(Zw GE1342 GE1367)⟩⟩
                      ·rw [if_neg c102] at H
                       exact absurd H (by simp)
                     ·rw [if_neg c101] at H
                      exact absurd H (by simp)
                    ·rw [if_neg c100] at H
                     exact absurd H (by simp)
                   case rest => as_aux_lemma =>
                    clear HC99
                    try clear c1
                    try clear p1
                    try clear q1
                    try clear hx1
                    try clear qi1
                    try clear p2
                    try clear c4
                    try clear c6
                    try clear p6
                    try clear c7
                    try clear c8
                    try clear c9
                    try clear c10
                    try clear c13
                    try clear p13
                    try clear q13
                    try clear hx13
                    try clear qi13
                    try clear c15
                    try clear c46
                    try clear c47
                    try clear c62
                    try clear c63
                    try clear c64
                    try clear p64
                    try clear c73
                    try clear c74
                    try clear c74b0
                    try clear c74b1
                    try clear c76
                    try clear c76b0
                    try clear c77
                    try clear c77b0
                    try clear c78
                    try clear c78b0
                    try clear c78b1
                    try clear c78b2
                    try clear c85
                    try clear c85b0
                    try clear c85b1
                    try clear c87
                    try clear c88
                    try clear c88b0
                    try clear c88b1
                    try clear c89
                    try clear c89b0
                    try clear c89b1
                    try clear c92
                    try clear c92b0
                    try clear c93
                    try clear c93b0
                    try clear c94
                    try clear c94b0
                    try clear c94b1
                    try clear c98
                    try clear c98b0
                    try clear c100
                    try clear c100b0
                    try clear c101
                    try clear c101b0
                    try clear c102
                    try clear c102b0
                    try clear c102b1
                    try clear c103
                    try clear c103b0
                    try clear c104
                    try clear c104b0
                    try clear c104b1
                    try clear hx1385_0
                    try clear hx1385_1
                    try clear hx1385_2
                    try clear hx1385_3
                    try clear hx1385_4
                    try clear hx1385_5
                    try clear hx1385_6
                    try clear hx1385_7
                    try clear hx1385_8
                    try clear hx1393_0
                    try clear hx1394_0
                    try clear hx1395_0
                    try clear hx1396_0
                    try clear hx1397_0
                    try clear hx1398_0
                    try clear p1
                    try clear p13
                    try clear p1385
                    try clear p1393
                    try clear p1394
                    try clear p1395
                    try clear p1396
                    try clear p1397
                    try clear p1398
                    try clear p2
                    try clear p6
                    try clear p64
                    try clear q1
                    try clear q13
                    try clear q1385
                    try clear q1393
                    try clear q1394
                    try clear q1395
                    try clear q1396
                    try clear q1397
                    try clear q1398
                    obtain ⟨kq, x221_98, rfl, HA, HJ98, HO_10, HO_12, HO_1343000, HO_1343001, HO_1343002, HO_1368000, HO_1368001, HO_1368002, BK1342, BK1367, HR1393_0, HB⟩ := hcut
                    cases kq with
                    | zero => exact absurd HA.out (by simp [laws_FnBursts.j6])
                    | succ kj98 =>
                     have H := HA.out; clear HA; simp only [laws_FnBursts.j6] at H
                     by_cases c107 : x221_98 = true
                     ·subst c107
                      rw [if_pos rfl] at H
                      by_cases c108 : 0 ≤ x28_5
                      ·rw [if_pos c108] at H
                       have c108b0 := decide_eq_true c108; clear c108
                       by_cases c109 : x28_5 < (t1349.length : Int)
                       ·rw [if_pos c109] at H
                        have c109b0 := decide_eq_true c109; clear c109
                        by_cases c110 : 0 < ((rd_L6 t1349 x28_5).length : Int)
                        ·rw [if_pos c110] at H
                         have c110b0 := decide_eq_true c110; have c110b1 : decide (0 < (rd_L6 t1349 x28_5).length) = true := decide_eq_true (by omega); clear c110
                         by_cases c111 : (rd (rd_L6 t1349 x28_5) 0) ≤ (rd (rd_L6 t1353 t1390) 1)
                         ·rw [if_pos c111] at H
                          have c111b0 := decide_eq_true c111; clear c111
                          by_cases c112 : 1 < ((rd_L6 t1349 x28_5).length : Int)
                          ·rw [if_pos c112] at H
                           have c112b0 := decide_eq_true c112; have c112b1 : decide (1 < (rd_L6 t1349 x28_5).length) = true := decide_eq_true (by omega); clear c112
                           by_cases c113 : (rd (rd_L6 t1353 t1390) 1) ≤ (rd (rd_L6 t1349 x28_5) 1)
                           ·rw [if_pos c113] at H
                            have c113b0 := decide_eq_true c113; clear c113; have H' := am_ H; clear H; obtain ⟨Ao114, co114, eo114⟩ := Kd.N_slice HO_10.out; subst eo114; have p1399 : 0 ≤ (x28_5 : Int) := of_decide_eq_true Zc; have q1399 : x28_5 < (t1349.length : Int) := of_decide_eq_true Zc; obtain ⟨ad1399, A1399_0, c1399_0, e1399, hx1399_0, hl1399_0, hi1399_0⟩ := at_L6 (Kd.N_reads' HO_10.out).2.2 x28_5 p1399 q1399
                            cases e1399
                            obtain ⟨ce1399, hce1399, hMe1399, hcc1399⟩ := Kd.N_get HO_10.out [] x28_5 p1399 (Zdf HO_10); obtain ⟨ua1399_0, uc1399_0, rfl, ul1399_0, ge1399_0⟩ := Kd.FK_slice_open hMe1399; have hv1399_0 := hcc1399 0 _ rfl; rw [Nat.add_zero, show ((Kd.slice 2 (Kd.int .i64))).sz = 1 from rfl, Nat.mul_one] at hv1399_0; replace hv1399_0 := Option.some.inj (hv1399_0.symm.trans hx1399_0); injection hv1399_0 with hva_ hvn_ hvc_; rw [hva_] at ge1399_0; rw [hvc_] at ul1399_0; have HL1399_0 := am_ (show Kd.V (Kd.int .i64) 2 _ w.heap.size _ _ (rd_L6 t1349 x28_5) from Kd.V_mk ul1399_0 ge1399_0); clear hva_ hvn_ hvc_ ge1399_0 ul1399_0; clear hcc1399 hce1399; have HR1399_0 := am_ hi1399_0; have HC1399_0 := am_ hl1399_0; clear hi1399_0 hl1399_0; replace p1399 := eq_true p1399; replace q1399 := eq_true q1399; have p1400 : 0 ≤ (0 : Int) := (by omega); have q1400 : 0 < ((rd_L6 t1349 x28_5).length : Int) := of_decide_eq_true Zc; obtain ⟨ad1400, e1400, hx1400_0⟩ := Kd.at_int (Zcs HR1399_0) 0 p1400 q1400
                            cases e1400
                            have qi1400 : (0 < (rd_L6 t1349 x28_5).length) = True := eq_true (by omega)
                            (try rw [show ((0 : Int)).toNat = 0 from rfl] at hx1400_0)
                            (try rw [Addr.add_zero'] at hx1400_0)
                            replace p1400 := eq_true p1400; replace q1400 := eq_true q1400; have p1401 : 0 ≤ (x28_5 : Int) := of_decide_eq_true Zc; have q1401 : x28_5 < (t1349.length : Int) := of_decide_eq_true Zc; obtain ⟨ad1401, A1401_0, c1401_0, e1401, hx1401_0, hl1401_0, hi1401_0⟩ := at_L6 (Kd.N_reads' HO_10.out).2.2 x28_5 p1401 q1401; obtain rfl : ad1399 = ad1401 := (by injection e1401); obtain ⟨ce1401, hce1401, hMe1401, hcc1401⟩ := Kd.N_get HO_10.out [] x28_5 p1401 (by first | exact q1401 | exact of_decide_eq_true Zc | (have e_ := (Kd.N_reads' HO_10.out).1; omega)); obtain ⟨ua1401_0, uc1401_0, rfl, ul1401_0, ge1401_0⟩ := Kd.FK_slice_open hMe1401; have hv1401_0 := hcc1401 0 _ rfl; rw [Nat.add_zero, show ((Kd.slice 2 (Kd.int .i64))).sz = 1 from rfl, Nat.mul_one] at hv1401_0; replace hv1401_0 := Option.some.inj (hv1401_0.symm.trans hx1401_0); injection hv1401_0 with hva_ hvn_ hvc_; rw [hva_] at ge1401_0; rw [hvc_] at ul1401_0; have HL1401_0 := am_ (show Kd.V (Kd.int .i64) 2 _ w.heap.size _ _ (rd_L6 t1349 x28_5) from Kd.V_mk ul1401_0 ge1401_0); clear hva_ hvn_ hvc_ ge1401_0 ul1401_0; clear hcc1401 hce1401; have HR1401_0 := am_ hi1401_0; have HC1401_0 := am_ hl1401_0; clear hi1401_0 hl1401_0; replace p1401 := eq_true p1401; replace q1401 := eq_true q1401; have ea_ := Option.some.inj (hx1399_0.symm.trans hx1401_0); injection ea_ with ea_ en_ ec_; subst ea_; subst ec_; clear en_; have p1402 : 0 ≤ (1 : Int) := (by omega); have q1402 : 1 < ((rd_L6 t1349 x28_5).length : Int) := of_decide_eq_true Zc; obtain ⟨ad1402, e1402, hx1402_0⟩ := Kd.at_int (Zcs HR1401_0) 1 p1402 q1402
                            cases e1402
                            (try simp only [show (1 : Int).toNat = 1 from rfl, Nat.reduceMul, Nat.reduceEqDiff, Go.Addr.add, ↓reduceIte] at hx1402_0)
                            have qi1402 : (1 < (rd_L6 t1349 x28_5).length) = True := eq_true (by omega)
                            (try rw [show ((1 : Int)).toNat = 1 from rfl] at hx1402_0)
                            replace p1402 := eq_true p1402; replace q1402 := eq_true q1402
                            go_wp2
                            go_roundg kj98
                            case measure => have := HJ11.out; have := HK2.out; have := HJ57.out; have := HJ83.out; have := HK5.out; have := HJ98.out; omega
                            case rel => exact ⟨(wrap64 (x25_5 + 1)), (wrap64 (x26_5 + 1)), (wrap64 (x28_5 + 1)), Za, Za, Za, H', ⟨Zdg⟩, ⟨(Zcu HO_10)⟩, ⟨(Zcu HO_12)⟩, ⟨(Zaa HO_1343000)⟩, ⟨(Zaa HO_1343001)⟩, ⟨(Zaa HO_1343002)⟩, ⟨(Zaa HO_1368000)⟩, ⟨(Zaa HO_1368001)⟩, ⟨(Zaa HO_1368002)⟩, ⟨(Zh BK1342)⟩, ⟨(Zh BK1367)⟩, ⟨(Zcs HR1393_0)⟩, ⟨(Zw GE1342 GE1367)⟩⟩
                           ·rw [if_neg c113] at H
                            have c113b0 := decide_eq_false c113; clear c113; have H' := am_ H; clear H; obtain ⟨Ao115, co115, eo115⟩ := Kd.N_slice HO_10.out; subst eo115; have p1399 : 0 ≤ (x28_5 : Int) := of_decide_eq_true Zc; have q1399 : x28_5 < (t1349.length : Int) := of_decide_eq_true Zc; obtain ⟨ad1399, A1399_0, c1399_0, e1399, hx1399_0, hl1399_0, hi1399_0⟩ := at_L6 (Kd.N_reads' HO_10.out).2.2 x28_5 p1399 q1399
                            cases e1399
                            obtain ⟨ce1399, hce1399, hMe1399, hcc1399⟩ := Kd.N_get HO_10.out [] x28_5 p1399 (Zdf HO_10); obtain ⟨ua1399_0, uc1399_0, rfl, ul1399_0, ge1399_0⟩ := Kd.FK_slice_open hMe1399; have hv1399_0 := hcc1399 0 _ rfl; rw [Nat.add_zero, show ((Kd.slice 2 (Kd.int .i64))).sz = 1 from rfl, Nat.mul_one] at hv1399_0; replace hv1399_0 := Option.some.inj (hv1399_0.symm.trans hx1399_0); injection hv1399_0 with hva_ hvn_ hvc_; rw [hva_] at ge1399_0; rw [hvc_] at ul1399_0; have HL1399_0 := am_ (show Kd.V (Kd.int .i64) 2 _ w.heap.size _ _ (rd_L6 t1349 x28_5) from Kd.V_mk ul1399_0 ge1399_0); clear hva_ hvn_ hvc_ ge1399_0 ul1399_0; clear hcc1399 hce1399; have HR1399_0 := am_ hi1399_0; have HC1399_0 := am_ hl1399_0; clear hi1399_0 hl1399_0; replace p1399 := eq_true p1399; replace q1399 := eq_true q1399; have p1400 : 0 ≤ (0 : Int) := (by omega); have q1400 : 0 < ((rd_L6 t1349 x28_5).length : Int) := of_decide_eq_true Zc; obtain ⟨ad1400, e1400, hx1400_0⟩ := Kd.at_int (Zcs HR1399_0) 0 p1400 q1400
                            cases e1400
                            have qi1400 : (0 < (rd_L6 t1349 x28_5).length) = True := eq_true (by omega)
                            (try rw [show ((0 : Int)).toNat = 0 from rfl] at hx1400_0)
                            (try rw [Addr.add_zero'] at hx1400_0)
                            replace p1400 := eq_true p1400; replace q1400 := eq_true q1400; have p1401 : 0 ≤ (x28_5 : Int) := of_decide_eq_true Zc; have q1401 : x28_5 < (t1349.length : Int) := of_decide_eq_true Zc; obtain ⟨ad1401, A1401_0, c1401_0, e1401, hx1401_0, hl1401_0, hi1401_0⟩ := at_L6 (Kd.N_reads' HO_10.out).2.2 x28_5 p1401 q1401; obtain rfl : ad1399 = ad1401 := (by injection e1401); obtain ⟨ce1401, hce1401, hMe1401, hcc1401⟩ := Kd.N_get HO_10.out [] x28_5 p1401 (by first | exact q1401 | exact of_decide_eq_true Zc | (have e_ := (Kd.N_reads' HO_10.out).1; omega)); obtain ⟨ua1401_0, uc1401_0, rfl, ul1401_0, ge1401_0⟩ := Kd.FK_slice_open hMe1401; have hv1401_0 := hcc1401 0 _ rfl; rw [Nat.add_zero, show ((Kd.slice 2 (Kd.int .i64))).sz = 1 from rfl, Nat.mul_one] at hv1401_0; replace hv1401_0 := Option.some.inj (hv1401_0.symm.trans hx1401_0); injection hv1401_0 with hva_ hvn_ hvc_; rw [hva_] at ge1401_0; rw [hvc_] at ul1401_0; have HL1401_0 := am_ (show Kd.V (Kd.int .i64) 2 _ w.heap.size _ _ (rd_L6 t1349 x28_5) from Kd.V_mk ul1401_0 ge1401_0); clear hva_ hvn_ hvc_ ge1401_0 ul1401_0; clear hcc1401 hce1401; have HR1401_0 := am_ hi1401_0; have HC1401_0 := am_ hl1401_0; clear hi1401_0 hl1401_0; replace p1401 := eq_true p1401; replace q1401 := eq_true q1401; have ea_ := Option.some.inj (hx1399_0.symm.trans hx1401_0); injection ea_ with ea_ en_ ec_; subst ea_; subst ec_; clear en_; have p1402 : 0 ≤ (1 : Int) := (by omega); have q1402 : 1 < ((rd_L6 t1349 x28_5).length : Int) := of_decide_eq_true Zc; obtain ⟨ad1402, e1402, hx1402_0⟩ := Kd.at_int (Zcs HR1401_0) 1 p1402 q1402
                            cases e1402
                            (try simp only [show (1 : Int).toNat = 1 from rfl, Nat.reduceMul, Nat.reduceEqDiff, Go.Addr.add, ↓reduceIte] at hx1402_0)
                            have qi1402 : (1 < (rd_L6 t1349 x28_5).length) = True := eq_true (by omega)
                            (try rw [show ((1 : Int)).toNat = 1 from rfl] at hx1402_0)
                            replace p1402 := eq_true p1402; replace q1402 := eq_true q1402
                            go_wp2
                            go_roundg kj98
                            case measure => have := HJ11.out; have := HK2.out; have := HJ57.out; have := HJ83.out; have := HK5.out; have := HJ98.out; omega
                            case rel => exact ⟨(wrap64 (x25_5 + 1)), (x26_5), (wrap64 (x28_5 + 1)), Za, Za, Za, H', ⟨Zdg⟩, ⟨(Zcu HO_10)⟩, ⟨(Zcu HO_12)⟩, ⟨(Zaa HO_1343000)⟩, ⟨(Zaa HO_1343001)⟩, ⟨(Zaa HO_1343002)⟩, ⟨(Zaa HO_1368000)⟩, ⟨(Zaa HO_1368001)⟩, ⟨(Zaa HO_1368002)⟩, ⟨(Zh BK1342)⟩, ⟨(Zh BK1367)⟩, ⟨(Zcs HR1393_0)⟩, ⟨(Zw GE1342 GE1367)⟩⟩
                          ·rw [if_neg c112] at H
                           exact absurd H (by simp)
                         ·rw [if_neg c111] at H
                          have c111b0 := decide_eq_false c111; clear c111; have H' := am_ H; clear H; obtain ⟨Ao116, co116, eo116⟩ := Kd.N_slice HO_10.out; subst eo116; have p1399 : 0 ≤ (x28_5 : Int) := of_decide_eq_true Zc; have q1399 : x28_5 < (t1349.length : Int) := of_decide_eq_true Zc; obtain ⟨ad1399, A1399_0, c1399_0, e1399, hx1399_0, hl1399_0, hi1399_0⟩ := at_L6 (Kd.N_reads' HO_10.out).2.2 x28_5 p1399 q1399
                          cases e1399
                          obtain ⟨ce1399, hce1399, hMe1399, hcc1399⟩ := Kd.N_get HO_10.out [] x28_5 p1399 (Zdf HO_10); obtain ⟨ua1399_0, uc1399_0, rfl, ul1399_0, ge1399_0⟩ := Kd.FK_slice_open hMe1399; have hv1399_0 := hcc1399 0 _ rfl; rw [Nat.add_zero, show ((Kd.slice 2 (Kd.int .i64))).sz = 1 from rfl, Nat.mul_one] at hv1399_0; replace hv1399_0 := Option.some.inj (hv1399_0.symm.trans hx1399_0); injection hv1399_0 with hva_ hvn_ hvc_; rw [hva_] at ge1399_0; rw [hvc_] at ul1399_0; have HL1399_0 := am_ (show Kd.V (Kd.int .i64) 2 _ w.heap.size _ _ (rd_L6 t1349 x28_5) from Kd.V_mk ul1399_0 ge1399_0); clear hva_ hvn_ hvc_ ge1399_0 ul1399_0; clear hcc1399 hce1399; have HR1399_0 := am_ hi1399_0; have HC1399_0 := am_ hl1399_0; clear hi1399_0 hl1399_0; replace p1399 := eq_true p1399; replace q1399 := eq_true q1399; have p1400 : 0 ≤ (0 : Int) := (by omega); have q1400 : 0 < ((rd_L6 t1349 x28_5).length : Int) := of_decide_eq_true Zc; obtain ⟨ad1400, e1400, hx1400_0⟩ := Kd.at_int (Zcs HR1399_0) 0 p1400 q1400
                          cases e1400
                          have qi1400 : (0 < (rd_L6 t1349 x28_5).length) = True := eq_true (by omega)
                          (try rw [show ((0 : Int)).toNat = 0 from rfl] at hx1400_0)
                          (try rw [Addr.add_zero'] at hx1400_0)
                          replace p1400 := eq_true p1400; replace q1400 := eq_true q1400
                          go_wp2
                          go_roundg kj98
                          case measure => have := HJ11.out; have := HK2.out; have := HJ57.out; have := HJ83.out; have := HK5.out; have := HJ98.out; omega
                          case rel => exact ⟨(wrap64 (x25_5 + 1)), (x26_5), (wrap64 (x28_5 + 1)), Za, Za, Za, H', ⟨Zdg⟩, ⟨(Zcu HO_10)⟩, ⟨(Zcu HO_12)⟩, ⟨(Zaa HO_1343000)⟩, ⟨(Zaa HO_1343001)⟩, ⟨(Zaa HO_1343002)⟩, ⟨(Zaa HO_1368000)⟩, ⟨(Zaa HO_1368001)⟩, ⟨(Zaa HO_1368002)⟩, ⟨(Zh BK1342)⟩, ⟨(Zh BK1367)⟩, ⟨(Zcs HR1393_0)⟩, ⟨(Zw GE1342 GE1367)⟩⟩
                        ·rw [if_neg c110] at H
                         exact absurd H (by simp)
                       ·rw [if_neg c109] at H
                        exact absurd H (by simp)
                      ·rw [if_neg c108] at H
                       exact absurd H (by simp)
                     ·replace c107 := Bool.eq_false_iff.mpr c107
                      subst c107; rw [if_neg (show ¬ (false = true) by decide)] at H
                      by_cases c117 : 0 ≤ x28_5
                      ·rw [if_pos c117] at H
                       have c117b0 := decide_eq_true c117; clear c117
                       by_cases c118 : x28_5 < (t1349.length : Int)
                       ·rw [if_pos c118] at H
                        have c118b0 := decide_eq_true c118; clear c118
                        by_cases c119 : 0 < ((rd_L6 t1349 x28_5).length : Int)
                        ·rw [if_pos c119] at H
                         have c119b0 := decide_eq_true c119; have c119b1 : decide (0 < (rd_L6 t1349 x28_5).length) = true := decide_eq_true (by omega); clear c119
                         by_cases c120 : (rd (rd_L6 t1349 x28_5) 0) ≤ (rd (rd_L6 t1353 t1390) 1)
                         ·rw [if_pos c120] at H
                          have c120b0 := decide_eq_true c120; clear c120
                          by_cases c121 : 1 < ((rd_L6 t1349 x28_5).length : Int)
                          ·rw [if_pos c121] at H
                           have c121b0 := decide_eq_true c121; have c121b1 : decide (1 < (rd_L6 t1349 x28_5).length) = true := decide_eq_true (by omega); clear c121
                           by_cases c122 : (rd (rd_L6 t1353 t1390) 1) ≤ (rd (rd_L6 t1349 x28_5) 1)
                           ·rw [if_pos c122] at H
                            have c122b0 := decide_eq_true c122; clear c122; have H' := am_ H; clear H; obtain ⟨Ao123, co123, eo123⟩ := Kd.N_slice HO_10.out; subst eo123; have p1403 : 0 ≤ (x28_5 : Int) := of_decide_eq_true Zc; have q1403 : x28_5 < (t1349.length : Int) := of_decide_eq_true Zc; obtain ⟨ad1403, A1403_0, c1403_0, e1403, hx1403_0, hl1403_0, hi1403_0⟩ := at_L6 (Kd.N_reads' HO_10.out).2.2 x28_5 p1403 q1403
                            cases e1403
                            obtain ⟨ce1403, hce1403, hMe1403, hcc1403⟩ := Kd.N_get HO_10.out [] x28_5 p1403 (Zdh HO_10); obtain ⟨ua1403_0, uc1403_0, rfl, ul1403_0, ge1403_0⟩ := Kd.FK_slice_open hMe1403; have hv1403_0 := hcc1403 0 _ rfl; rw [Nat.add_zero, show ((Kd.slice 2 (Kd.int .i64))).sz = 1 from rfl, Nat.mul_one] at hv1403_0; replace hv1403_0 := Option.some.inj (hv1403_0.symm.trans hx1403_0); injection hv1403_0 with hva_ hvn_ hvc_; rw [hva_] at ge1403_0; rw [hvc_] at ul1403_0; have HL1403_0 := am_ (show Kd.V (Kd.int .i64) 2 _ w.heap.size _ _ (rd_L6 t1349 x28_5) from Kd.V_mk ul1403_0 ge1403_0); clear hva_ hvn_ hvc_ ge1403_0 ul1403_0; clear hcc1403 hce1403; have HR1403_0 := am_ hi1403_0; have HC1403_0 := am_ hl1403_0; clear hi1403_0 hl1403_0; replace p1403 := eq_true p1403; replace q1403 := eq_true q1403; have p1404 : 0 ≤ (0 : Int) := (by omega); have q1404 : 0 < ((rd_L6 t1349 x28_5).length : Int) := of_decide_eq_true Zc; obtain ⟨ad1404, e1404, hx1404_0⟩ := Kd.at_int (Zcs HR1403_0) 0 p1404 q1404
                            cases e1404
                            have qi1404 : (0 < (rd_L6 t1349 x28_5).length) = True := eq_true (by omega)
                            (try rw [show ((0 : Int)).toNat = 0 from rfl] at hx1404_0)
                            (try rw [Addr.add_zero'] at hx1404_0)
                            replace p1404 := eq_true p1404; replace q1404 := eq_true q1404; have p1405 : 0 ≤ (x28_5 : Int) := of_decide_eq_true Zc; have q1405 : x28_5 < (t1349.length : Int) := of_decide_eq_true Zc; obtain ⟨ad1405, A1405_0, c1405_0, e1405, hx1405_0, hl1405_0, hi1405_0⟩ := at_L6 (Kd.N_reads' HO_10.out).2.2 x28_5 p1405 q1405; obtain rfl : ad1403 = ad1405 := (by injection e1405); obtain ⟨ce1405, hce1405, hMe1405, hcc1405⟩ := Kd.N_get HO_10.out [] x28_5 p1405 (by first | exact q1405 | exact of_decide_eq_true Zc | (have e_ := (Kd.N_reads' HO_10.out).1; omega)); obtain ⟨ua1405_0, uc1405_0, rfl, ul1405_0, ge1405_0⟩ := Kd.FK_slice_open hMe1405; have hv1405_0 := hcc1405 0 _ rfl; rw [Nat.add_zero, show ((Kd.slice 2 (Kd.int .i64))).sz = 1 from rfl, Nat.mul_one] at hv1405_0; replace hv1405_0 := Option.some.inj (hv1405_0.symm.trans hx1405_0); injection hv1405_0 with hva_ hvn_ hvc_; rw [hva_] at ge1405_0; rw [hvc_] at ul1405_0; have HL1405_0 := am_ (show Kd.V (Kd.int .i64) 2 _ w.heap.size _ _ (rd_L6 t1349 x28_5) from Kd.V_mk ul1405_0 ge1405_0); clear hva_ hvn_ hvc_ ge1405_0 ul1405_0; clear hcc1405 hce1405; have HR1405_0 := am_ hi1405_0; have HC1405_0 := am_ hl1405_0; clear hi1405_0 hl1405_0; replace p1405 := eq_true p1405; replace q1405 := eq_true q1405; have ea_ := Option.some.inj (hx1403_0.symm.trans hx1405_0); injection ea_ with ea_ en_ ec_; subst ea_; subst ec_; clear en_; have p1406 : 0 ≤ (1 : Int) := (by omega); have q1406 : 1 < ((rd_L6 t1349 x28_5).length : Int) := of_decide_eq_true Zc; obtain ⟨ad1406, e1406, hx1406_0⟩ := Kd.at_int (Zcs HR1405_0) 1 p1406 q1406
                            cases e1406
                            (try simp only [show (1 : Int).toNat = 1 from rfl, Nat.reduceMul, Nat.reduceEqDiff, Go.Addr.add, ↓reduceIte] at hx1406_0)
                            have qi1406 : (1 < (rd_L6 t1349 x28_5).length) = True := eq_true (by omega)
                            (try rw [show ((1 : Int)).toNat = 1 from rfl] at hx1406_0)
                            replace p1406 := eq_true p1406; replace q1406 := eq_true q1406
                            go_wp2
                            go_roundg kj98
                            case measure => have := HJ11.out; have := HK2.out; have := HJ57.out; have := HJ83.out; have := HK5.out; have := HJ98.out; omega
                            case rel => exact ⟨(x25_5), (wrap64 (x26_5 + 1)), (wrap64 (x28_5 + 1)), Za, Za, Za, H', ⟨Zdg⟩, ⟨(Zcu HO_10)⟩, ⟨(Zcu HO_12)⟩, ⟨(Zaa HO_1343000)⟩, ⟨(Zaa HO_1343001)⟩, ⟨(Zaa HO_1343002)⟩, ⟨(Zaa HO_1368000)⟩, ⟨(Zaa HO_1368001)⟩, ⟨(Zaa HO_1368002)⟩, ⟨(Zh BK1342)⟩, ⟨(Zh BK1367)⟩, ⟨(Zcs HR1393_0)⟩, ⟨(Zw GE1342 GE1367)⟩⟩
                           ·rw [if_neg c122] at H
                            have c122b0 := decide_eq_false c122; clear c122; have H' := am_ H; clear H; obtain ⟨Ao124, co124, eo124⟩ := Kd.N_slice HO_10.out; subst eo124; have p1403 : 0 ≤ (x28_5 : Int) := of_decide_eq_true Zc; have q1403 : x28_5 < (t1349.length : Int) := of_decide_eq_true Zc; obtain ⟨ad1403, A1403_0, c1403_0, e1403, hx1403_0, hl1403_0, hi1403_0⟩ := at_L6 (Kd.N_reads' HO_10.out).2.2 x28_5 p1403 q1403
                            cases e1403
                            obtain ⟨ce1403, hce1403, hMe1403, hcc1403⟩ := Kd.N_get HO_10.out [] x28_5 p1403 (Zdh HO_10); obtain ⟨ua1403_0, uc1403_0, rfl, ul1403_0, ge1403_0⟩ := Kd.FK_slice_open hMe1403; have hv1403_0 := hcc1403 0 _ rfl; rw [Nat.add_zero, show ((Kd.slice 2 (Kd.int .i64))).sz = 1 from rfl, Nat.mul_one] at hv1403_0; replace hv1403_0 := Option.some.inj (hv1403_0.symm.trans hx1403_0); injection hv1403_0 with hva_ hvn_ hvc_; rw [hva_] at ge1403_0; rw [hvc_] at ul1403_0; have HL1403_0 := am_ (show Kd.V (Kd.int .i64) 2 _ w.heap.size _ _ (rd_L6 t1349 x28_5) from Kd.V_mk ul1403_0 ge1403_0); clear hva_ hvn_ hvc_ ge1403_0 ul1403_0; clear hcc1403 hce1403; have HR1403_0 := am_ hi1403_0; have HC1403_0 := am_ hl1403_0; clear hi1403_0 hl1403_0; replace p1403 := eq_true p1403; replace q1403 := eq_true q1403; have p1404 : 0 ≤ (0 : Int) := (by omega); have q1404 : 0 < ((rd_L6 t1349 x28_5).length : Int) := of_decide_eq_true Zc; obtain ⟨ad1404, e1404, hx1404_0⟩ := Kd.at_int (Zcs HR1403_0) 0 p1404 q1404
                            cases e1404
                            have qi1404 : (0 < (rd_L6 t1349 x28_5).length) = True := eq_true (by omega)
                            (try rw [show ((0 : Int)).toNat = 0 from rfl] at hx1404_0)
                            (try rw [Addr.add_zero'] at hx1404_0)
                            replace p1404 := eq_true p1404; replace q1404 := eq_true q1404; have p1405 : 0 ≤ (x28_5 : Int) := of_decide_eq_true Zc; have q1405 : x28_5 < (t1349.length : Int) := of_decide_eq_true Zc; obtain ⟨ad1405, A1405_0, c1405_0, e1405, hx1405_0, hl1405_0, hi1405_0⟩ := at_L6 (Kd.N_reads' HO_10.out).2.2 x28_5 p1405 q1405; obtain rfl : ad1403 = ad1405 := (by injection e1405); obtain ⟨ce1405, hce1405, hMe1405, hcc1405⟩ := Kd.N_get HO_10.out [] x28_5 p1405 (by first | exact q1405 | exact of_decide_eq_true Zc | (have e_ := (Kd.N_reads' HO_10.out).1; omega)); obtain ⟨ua1405_0, uc1405_0, rfl, ul1405_0, ge1405_0⟩ := Kd.FK_slice_open hMe1405; have hv1405_0 := hcc1405 0 _ rfl; rw [Nat.add_zero, show ((Kd.slice 2 (Kd.int .i64))).sz = 1 from rfl, Nat.mul_one] at hv1405_0; replace hv1405_0 := Option.some.inj (hv1405_0.symm.trans hx1405_0); injection hv1405_0 with hva_ hvn_ hvc_; rw [hva_] at ge1405_0; rw [hvc_] at ul1405_0; have HL1405_0 := am_ (show Kd.V (Kd.int .i64) 2 _ w.heap.size _ _ (rd_L6 t1349 x28_5) from Kd.V_mk ul1405_0 ge1405_0); clear hva_ hvn_ hvc_ ge1405_0 ul1405_0; clear hcc1405 hce1405; have HR1405_0 := am_ hi1405_0; have HC1405_0 := am_ hl1405_0; clear hi1405_0 hl1405_0; replace p1405 := eq_true p1405; replace q1405 := eq_true q1405; have ea_ := Option.some.inj (hx1403_0.symm.trans hx1405_0); injection ea_ with ea_ en_ ec_; subst ea_; subst ec_; clear en_; have p1406 : 0 ≤ (1 : Int) := (by omega); have q1406 : 1 < ((rd_L6 t1349 x28_5).length : Int) := of_decide_eq_true Zc; obtain ⟨ad1406, e1406, hx1406_0⟩ := Kd.at_int (Zcs HR1405_0) 1 p1406 q1406
                            cases e1406
                            (try simp only [show (1 : Int).toNat = 1 from rfl, Nat.reduceMul, Nat.reduceEqDiff, Go.Addr.add, ↓reduceIte] at hx1406_0)
                            have qi1406 : (1 < (rd_L6 t1349 x28_5).length) = True := eq_true (by omega)
                            (try rw [show ((1 : Int)).toNat = 1 from rfl] at hx1406_0)
                            replace p1406 := eq_true p1406; replace q1406 := eq_true q1406
                            go_wp2
                            go_roundg kj98
                            case measure => have := HJ11.out; have := HK2.out; have := HJ57.out; have := HJ83.out; have := HK5.out; have := HJ98.out; omega
                            case rel => exact ⟨(x25_5), (x26_5), (wrap64 (x28_5 + 1)), Za, Za, Za, H', ⟨Zdg⟩, ⟨(Zcu HO_10)⟩, ⟨(Zcu HO_12)⟩, ⟨(Zaa HO_1343000)⟩, ⟨(Zaa HO_1343001)⟩, ⟨(Zaa HO_1343002)⟩, ⟨(Zaa HO_1368000)⟩, ⟨(Zaa HO_1368001)⟩, ⟨(Zaa HO_1368002)⟩, ⟨(Zh BK1342)⟩, ⟨(Zh BK1367)⟩, ⟨(Zcs HR1393_0)⟩, ⟨(Zw GE1342 GE1367)⟩⟩
                          ·rw [if_neg c121] at H
                           exact absurd H (by simp)
                         ·rw [if_neg c120] at H
                          have c120b0 := decide_eq_false c120; clear c120; have H' := am_ H; clear H; obtain ⟨Ao125, co125, eo125⟩ := Kd.N_slice HO_10.out; subst eo125; have p1403 : 0 ≤ (x28_5 : Int) := of_decide_eq_true Zc; have q1403 : x28_5 < (t1349.length : Int) := of_decide_eq_true Zc; obtain ⟨ad1403, A1403_0, c1403_0, e1403, hx1403_0, hl1403_0, hi1403_0⟩ := at_L6 (Kd.N_reads' HO_10.out).2.2 x28_5 p1403 q1403
                          cases e1403
                          obtain ⟨ce1403, hce1403, hMe1403, hcc1403⟩ := Kd.N_get HO_10.out [] x28_5 p1403 (Zdh HO_10); obtain ⟨ua1403_0, uc1403_0, rfl, ul1403_0, ge1403_0⟩ := Kd.FK_slice_open hMe1403; have hv1403_0 := hcc1403 0 _ rfl; rw [Nat.add_zero, show ((Kd.slice 2 (Kd.int .i64))).sz = 1 from rfl, Nat.mul_one] at hv1403_0; replace hv1403_0 := Option.some.inj (hv1403_0.symm.trans hx1403_0); injection hv1403_0 with hva_ hvn_ hvc_; rw [hva_] at ge1403_0; rw [hvc_] at ul1403_0; have HL1403_0 := am_ (show Kd.V (Kd.int .i64) 2 _ w.heap.size _ _ (rd_L6 t1349 x28_5) from Kd.V_mk ul1403_0 ge1403_0); clear hva_ hvn_ hvc_ ge1403_0 ul1403_0; clear hcc1403 hce1403; have HR1403_0 := am_ hi1403_0; have HC1403_0 := am_ hl1403_0; clear hi1403_0 hl1403_0; replace p1403 := eq_true p1403; replace q1403 := eq_true q1403; have p1404 : 0 ≤ (0 : Int) := (by omega); have q1404 : 0 < ((rd_L6 t1349 x28_5).length : Int) := of_decide_eq_true Zc; obtain ⟨ad1404, e1404, hx1404_0⟩ := Kd.at_int (Zcs HR1403_0) 0 p1404 q1404
                          cases e1404
                          have qi1404 : (0 < (rd_L6 t1349 x28_5).length) = True := eq_true (by omega)
                          (try rw [show ((0 : Int)).toNat = 0 from rfl] at hx1404_0)
                          (try rw [Addr.add_zero'] at hx1404_0)
                          replace p1404 := eq_true p1404; replace q1404 := eq_true q1404
                          go_wp2
                          go_roundg kj98
                          case measure => have := HJ11.out; have := HK2.out; have := HJ57.out; have := HJ83.out; have := HK5.out; have := HJ98.out; omega
                          case rel => exact ⟨(x25_5), (x26_5), (wrap64 (x28_5 + 1)), Za, Za, Za, H', ⟨Zdg⟩, ⟨(Zcu HO_10)⟩, ⟨(Zcu HO_12)⟩, ⟨(Zaa HO_1343000)⟩, ⟨(Zaa HO_1343001)⟩, ⟨(Zaa HO_1343002)⟩, ⟨(Zaa HO_1368000)⟩, ⟨(Zaa HO_1368001)⟩, ⟨(Zaa HO_1368002)⟩, ⟨(Zh BK1342)⟩, ⟨(Zh BK1367)⟩, ⟨(Zcs HR1393_0)⟩, ⟨(Zw GE1342 GE1367)⟩⟩
                        ·rw [if_neg c119] at H
                         exact absurd H (by simp)
                       ·rw [if_neg c118] at H
                        exact absurd H (by simp)
                      ·rw [if_neg c117] at H
                       exact absurd H (by simp)
                  ·rw [if_neg c98] at H
                   have c98b0 := decide_eq_false c98; clear c98
                   by_cases c126 : x25_5 = t1344
                   ·rw [if_pos c126] at H
                    have c126b0 := beq_iff_eq.mpr c126; have c126b1 := bne_eq_false_iff_eq.mpr c126; clear c126
                    by_cases c127 : x26_5 ≤ t1344
                    ·rw [if_pos c127] at H
                     have c127b0 := decide_eq_true c127; clear c127
                     by_cases c128 : x26_5 < t1344
                     ·rw [if_pos c128] at H
                      have c128b0 := decide_eq_true c128; clear c128; obtain rfl := Option.some.inj H
                      go_wp2
                      go_ret
                      exact ⟨Zl, (Zw GE1342 GE1367)⟩
                     ·rw [if_neg c128] at H
                      have c128b0 := decide_eq_false c128; clear c128; obtain rfl := Option.some.inj H
                      go_wp2
                      go_ret
                      exact ⟨Zl, (Zw GE1342 GE1367)⟩
                    ·rw [if_neg c127] at H
                     have c127b0 := decide_eq_false c127; clear c127; obtain rfl := Option.some.inj H
                     go_wp2
                     go_ret
                     exact ⟨Zl, (Zw GE1342 GE1367)⟩
                   ·rw [if_neg c126] at H
                    have c126b0 := beq_eq_false_iff_ne.mpr c126; have c126b1 := bne_iff_ne.mpr c126; obtain rfl := Option.some.inj H
                    go_wp2
                    go_ret
                    exact ⟨Zl, (Zw GE1342 GE1367)⟩
               ·rw [if_neg c94] at H
                exact absurd H (by simp)
              ·rw [if_neg c93] at H
               exact absurd H (by simp)
             ·rw [if_neg c92] at H
              exact absurd H (by simp)
def laws_FnBursts.Pure : Prop := ∀ (l0 : List Int), l0.length ≤ maxLen → l0.length * 1 ≤ 140737488351232 → (∀ x ∈ l0, (Lit.int .u8 x).wf = true) → ∃ k, laws_FnBursts.f k l0 = some true
theorem laws_FnBursts.walk (P : laws_FnBursts.Pure) (a0 : Option Addr) (len0 cap0 : Nat) (z0 : List Int) (w : World) (w0 : (a0 = none ∧ len0 = 0 ∧ cap0 = 0 ∧ z0 = []) ∨ ∃ x, a0 = some x ∧ len0 ≤ cap0 ∧ cap0 ≤ maxLen ∧ z0.length = cap0 ∧ (∀ i, i < z0.length → w.cell? (x.add i) = some (.int .u8 (z0.getD i 0))) ∧ ∀ n ∈ z0, (Lit.int .u8 n).wf = true) (y0 : len0 * 1 ≤ 140737488351232) :
  Calls Try.prog 6 #[.slice a0 len0 cap0] w fun e w' => e = .returned (.bool true) ∧ Below w.heap.size w w' := by
 obtain ⟨l0, rfl, hr0, hm0, hw0, hc0⟩ := ReadsInt.ofRowC w0; obtain ⟨k, h⟩ := P l0 hm0 y0 hw0; refine (laws_FnBursts.calls k _ _ l0 true w (Kd.C_of_reads (d := (0 : Int)) (h1 := fun _ => rfl) hr0) hc0 h rfl).mono ?_; rintro e w' ⟨rfl, hd⟩; exact ⟨rfl, hd⟩
end Go.Proofs.Ythhijbdekboahaa.F
namespace Go.Proofs.Ythhijbdekboahaa.F
open Go.RowKit Go.Proofs.YthhijbdekboahaaW.PrintWords Go.Proofs.YthhijbdekboahaaW.PrintLast Go.Proofs.YthhijbdekboahaaW.PrintMore
set_option linter.unusedVariables false
set_option linter.unusedSimpArgs false
def Evt (P : Nat → Prop) : Prop := ∃ K, ∀ k, K ≤ k → P k
theorem Evt.and {P Q : Nat → Prop} (h : Evt P) (h' : Evt Q) : Evt (fun k => P k ∧ Q k) := by
 obtain ⟨K, h⟩ := h; obtain ⟨K', h'⟩ := h'; exact ⟨K + K', fun k hk => ⟨h k (by omega), h' k (by omega)⟩⟩
theorem Evt.mono {P Q : Nat → Prop} (h : Evt P) (hq : ∀ k, P k → Q k) : Evt Q := by
 obtain ⟨K, h⟩ := h; exact ⟨K, fun k hk => hq k (h k hk)⟩
theorem Evt.of {P : Nat → Prop} (h : ∀ k, P k) : Evt P := ⟨0, fun k _ => h k⟩
theorem Evt.succ {P : Nat → Prop} (h : Evt (fun k => P (k + 1))) : Evt P := by
 obtain ⟨K, h⟩ := h; refine ⟨K + 1, fun k hk => ?_⟩; obtain ⟨m, rfl⟩ : ∃ m, k = m + 1 := ⟨k - 1, by omega⟩; exact h m (by omega)
theorem w64 {n : Int} (h : -9223372036854775808 ≤ n ∧ n ≤ 9223372036854775807) : wrap64 n = n := by unfold wrap64; omega
def allF (p : Nat → Bool) : Nat → Nat → Bool
 | _, 0 => true
 | i, d + 1 => p i && allF p (i + 1) d
theorem allF_true {p : Nat → Bool} : ∀ (d i : Nat), allF p i d = true ↔ ∀ j, i ≤ j → j < i + d → p j = true
 | 0, i => by simp [allF]; intro j h1 h2; omega
 | d + 1, i => by
  unfold allF
  rw [Bool.and_eq_true, allF_true d (i + 1)]; constructor
  ·rintro ⟨h1, h2⟩ j h3 h4
   rcases Nat.eq_or_lt_of_le h3 with e | e
   ·exact e ▸ h1
   ·exact h2 j e (by omega)
  ·exact fun h => ⟨h i (Nat.le_refl _) (by omega), fun j h1 h2 => h j (by omega) (by omega)⟩
theorem all_loopF {f : Nat → Nat → Option Bool} {p : Nat → Bool} {e : Bool} (a n : Nat) (hs : ∀ k i, a ≤ i → i < n → f (k + 1) i = if p i = true then f k (i + 1) else some false) (he : ∀ k, f (k + 1) n = some e) :
  ∀ d k i, a ≤ i → n - i = d → i ≤ n → d < k → f k i = some (allF p i d && e) := by
 intro d
 induction d with
 | zero =>
  intro k i ha hd hi hk; obtain ⟨k, rfl⟩ : ∃ m, k = m + 1 := ⟨k - 1, by omega⟩
  have : i = n := by omega
  subst this; rw [he]
  rfl
 | succ d ih =>
  intro k i ha hd hi hk; obtain ⟨k, rfl⟩ : ∃ m, k = m + 1 := ⟨k - 1, by omega⟩; rw [hs k i ha (by omega)]
  unfold allF
  by_cases hp : p i = true
  ·rw [if_pos hp, ih k (i + 1) (by omega) (by omega) (by omega) (by omega), hp, Bool.true_and]
  ·rw [if_neg hp]
   replace hp := Bool.eq_false_iff.mpr hp; rw [hp, Bool.false_and, Bool.false_and]
theorem all_loop {f : Nat → Nat → Option Bool} {p : Nat → Bool} {e : Bool} (n : Nat) (hs : ∀ k i, i < n → f (k + 1) i = if p i = true then f k (i + 1) else some false) (he : ∀ k, f (k + 1) n = some e) :
  ∀ d k i, n - i = d → i ≤ n → d < k → f k i = some (allF p i d && e) := fun d k i => all_loopF 0 n (fun k i _ h => hs k i h) he d k i (Nat.zero_le _)
def foldF {σ : Type} (step : Nat → σ → σ) : Nat → Nat → σ → σ
 | _, 0, s => s
 | i, d + 1, s => foldF step (i + 1) d (step i s)
theorem foldF_snoc {σ : Type} (f : Nat → σ → σ) : ∀ (d i : Nat) (s : σ), foldF f i (d + 1) s = f (i + d) (foldF f i d s)
 | 0, i, s => rfl
 | d + 1, i, s => by
  have h := foldF_snoc f d (i + 1) (f i s); rw [show i + 1 + d = i + (d + 1) by omega] at h; exact h
theorem fold_loop {σ β : Type} {f : Nat → Nat → σ → Option β} {step : Nat → σ → σ} {I : Nat → σ → Prop} {e : σ → Option β} (n : Nat) (hs : ∀ k i s, i < n → I i s → f (k + 1) i s = f k (i + 1) (step i s)) (hI : ∀ i s, i < n → I i s → I (i + 1) (step i s)) (he : ∀ k s, I n s → f (k + 1) n s = e s) :
  ∀ d k i s, n - i = d → i ≤ n → I i s → d < k → f k i s = e (foldF step i d s) := by
 intro d
 induction d with
 | zero =>
  intro k i s hd hi h0 hk; obtain ⟨k, rfl⟩ : ∃ m, k = m + 1 := ⟨k - 1, by omega⟩
  have : i = n := by omega
  subst this; exact he k s h0
 | succ d ih =>
  intro k i s hd hi h0 hk; obtain ⟨k, rfl⟩ : ∃ m, k = m + 1 := ⟨k - 1, by omega⟩; rw [hs k i s (by omega) h0]; exact ih k (i + 1) _ (by omega) (by omega) (hI i s (by omega) h0) (by omega)
def inB (n lo hi : Int) : Bool := decide (lo ≤ n ∧ n ≤ hi)
theorem inB_true {n lo hi : Int} : inB n lo hi = true ↔ lo ≤ n ∧ n ≤ hi := by unfold inB; exact decide_eq_true_iff
theorem inB_false {n lo hi : Int} : inB n lo hi = false ↔ ¬ (lo ≤ n ∧ n ≤ hi) := by unfold inB; exact decide_eq_false_iff_not
theorem getD_take {α : Type} (xs : List α) (z : α) (n i : Nat) (h : i < n) : (xs.take n).getD i z = xs.getD i z := by
 rw [List.getD_eq_getElem?_getD, List.getD_eq_getElem?_getD, List.getElem?_take, if_pos h]
def Code (c : List Int) : Prop := c.length ≤ 4096 ∧ ∀ x ∈ c, 0 ≤ x ∧ x ≤ 255
def St (c : List Int) (a s : Int) : Prop := 0 ≤ a ∧ a ≤ (c.length : Int) ∧ 0 ≤ s ∧ s < 2147483647
theorem rd_code {c : List Int} (hc : Code c) (i : Int) : 0 ≤ rd c i ∧ rd c i ≤ 255 := by
 unfold rd
 rw [List.getD_eq_getElem?_getD]
 cases h : c[i.toNat]? with
 | none => exact ⟨Int.le_refl _, by decide⟩
 | some x => exact hc.2 x (List.mem_of_getElem? h)
theorem tmod_nn {a b : Int} (ha : 0 ≤ a) (hb : 0 < b) : 0 ≤ Int.tmod a b ∧ Int.tmod a b < b := by
 rw [Int.tmod_eq_emod_of_nonneg ha]; exact ⟨Int.emod_nonneg _ (by omega), Int.emod_lt_of_pos _ hb⟩
theorem next_ok {c : List Int} (hc : Code c) {a s : Int} (h : St c a s) (n : Int) (hn : n ≤ 4611686018427387904) : ∃ r a' s', spec_l01Next.f c a s n = some (r, a', s') ∧ St c a' s' ∧ 0 ≤ r ∧ (r < n ∨ (n ≤ 1 ∧ r = 0)) := by
 obtain ⟨h1, h2, h3, h4⟩ := h; have hl := hc.1
 unfold spec_l01Next.f
 by_cases c1 : n ≤ 1
 ·rw [if_pos c1]
  exact ⟨0, a, s, rfl, ⟨h1, h2, h3, h4⟩, Int.le_refl _, .inr ⟨c1, rfl⟩⟩
 ·have hs := tmod_nn (a := s * 48271 + 29) (b := 2147483647) (by omega) (by omega)
  rw [if_neg c1, w64 (n := s * 48271) (by omega), w64 (n := s * 48271 + 29) (by omega)]; generalize Int.tmod (s * 48271 + 29) 2147483647 = z at hs ⊢; have hd : Int.tdiv z 31 = z / 31 := Int.tdiv_eq_ediv_of_nonneg hs.1; rw [hd]
  have n0 : ¬ n = 0 := by omega
  by_cases c2 : a < (c.length : Int)
  ·have hr := rd_code hc a
   have p := tmod_nn (a := z / 31 + rd c a) (b := n) (by omega) (by omega); have q := tmod_nn (a := rd c a) (b := n) (by omega) (by omega); simp only [if_neg n0]; rw [if_pos c2, if_pos h1, w64 (n := a + 1) (by omega), w64 (n := z / 31) (by omega), w64 (n := rd c a) (by omega), w64 (n := z / 31 + rd c a) (by omega), w64 (n := a + 1 - 1) (by omega), show a + 1 - 1 = a by omega, w64 (n := rd c a) (by omega)]
   by_cases c3 : n ≤ 256
   ·rw [if_pos c3]
    by_cases c4 : Int.tmod (a + 1) 2 = 0
    ·rw [if_pos c4, if_pos h1, if_pos c2]
     exact ⟨_, _, _, rfl, ⟨by omega, by omega, hs.1, hs.2⟩, q.1, .inl q.2⟩
    ·rw [if_neg c4]
     exact ⟨_, _, _, rfl, ⟨by omega, by omega, hs.1, hs.2⟩, p.1, .inl p.2⟩
   ·rw [if_neg c3]
    exact ⟨_, _, _, rfl, ⟨by omega, by omega, hs.1, hs.2⟩, p.1, .inl p.2⟩
  ·have p := tmod_nn (a := z / 31) (b := n) (by omega) (by omega)
   simp only [if_neg n0]; rw [if_neg c2, w64 (n := z / 31) (by omega)]; exact ⟨_, _, _, rfl, ⟨h1, h2, hs.1, hs.2⟩, p.1, .inl p.2⟩
theorem pick_ok {c : List Int} (hc : Code c) {a s : Int} (h : St c a s) (l : List Int) (hl : 0 < l.length) (hl2 : l.length ≤ 1000) : ∃ r a' s', spec_l01Pick.f c a s l = some (r, a', s') ∧ St c a' s' ∧ r ∈ l := by
 obtain ⟨r, a', s', e, h', h0, h1⟩ := next_ok hc h (l.length : Int) (by omega); refine ⟨rd l r, a', s', ?_, h', ?_⟩
 ·unfold spec_l01Pick.f
  rw [e]; simp only [Option.bind_some]; rw [if_pos h0, if_pos (by omega)]
 ·have hr : r.toNat < l.length := by omega
  unfold rd
  rw [List.getD_eq_getElem?_getD, List.getElem?_eq_getElem hr]; exact List.getElem_mem hr
theorem from_ok {c : List Int} (hc : Code c) : ∃ s, (∀ k, 70 ≤ k → spec_l01From.f k c = some (c, 0, s)) ∧ St c 0 s := by
 have loop : ∀ (d : Nat) (i s : Int), 0 ≤ i → i ≤ 64 → 64 - i ≤ d → 0 ≤ s → s < 2147483647 → ∃ s', (∀ k, d < k → spec_l01From.l0 k c i c 0 s = some (c, 0, s')) ∧ St c 0 s' := by
  intro d
  induction d with
  | zero =>
   intro i s h1 h2 h3 h4 h5; refine ⟨s, fun k hk => ?_, by omega, by omega, h4, h5⟩; obtain ⟨k, rfl⟩ : ∃ m, k = m + 1 := ⟨k - 1, by omega⟩; simp only [spec_l01From.l0]; rw [if_neg (show ¬ i < 64 by omega)]
   split <;> rfl
  | succ d ih =>
   intro i s h1 h2 h3 h4 h5
   by_cases c1 : i < (c.length : Int) ∧ i < 64
   ·have hr := rd_code hc i
    have hm := tmod_nn (a := s * 83 + rd c i) (b := 2147483647) (by omega) (by omega); obtain ⟨s', e, hs⟩ := ih (i + 1) (Int.tmod (s * 83 + rd c i) 2147483647) (by omega) (by omega) (by omega) hm.1 hm.2; refine ⟨s', fun k hk => ?_, hs⟩; obtain ⟨k, rfl⟩ : ∃ m, k = m + 1 := ⟨k - 1, by omega⟩; simp only [spec_l01From.l0]; rw [if_pos c1.1, if_pos c1.2, if_pos h1, w64 (n := i + 1) (by omega), w64 (n := s * 83) (by omega), w64 (n := rd c i) (by omega), w64 (n := s * 83 + rd c i) (by omega)]; exact e k (by omega)
   ·refine ⟨s, fun k hk => ?_, by omega, by omega, h4, h5⟩
    obtain ⟨k, rfl⟩ : ∃ m, k = m + 1 := ⟨k - 1, by omega⟩; simp only [spec_l01From.l0]
    by_cases c2 : i < (c.length : Int)
    ·rw [if_pos c2, if_neg (fun x => c1 ⟨c2, x⟩)]
    ·rw [if_neg c2]
 obtain ⟨s', e, hs⟩ := loop 64 0 61043 (by omega) (by omega) (by omega) (by omega) (by omega); exact ⟨s', fun k hk => e k (by omega), hs⟩
theorem code_of {l : List Int} (h : ¬ (l.length : Int) > 4096) (hb : ∀ x ∈ l, (Go.Lit.int .u8 x).wf = true) : Code l := ⟨by omega, fun x hx => by
 have h := hb x hx
 simp [Go.Lit.wf, Go.IntKind.min, Go.IntKind.max, Go.IntKind.signed, Go.IntKind.bits] at h
 omega⟩
theorem good_art {c : List Int} (hc : Code c) {a s : Int} (h : St c a s) (nm : ByteArray) : ∃ q2 q3 q4 q5 q6 q7 q8 q9 a' s', spec_l03Good.f c a s nm = some (nm, q2, q3, q4, q5, q6, q7, q8, q9, a', s') ∧ St c a' s' := by
 obtain ⟨r1, a1, s1, e1, h1, _⟩ := next_ok hc h 4 (by decide); obtain ⟨r2, a2, s2, e2, h2, _⟩ := next_ok hc h1 281 (by decide); obtain ⟨r3, a3, s3, e3, h3, _⟩ := pick_ok hc h2 [50, 75, 100, 150, wrap64 (20 + r2)] (by simp) (by simp); obtain ⟨r4, a4, s4, e4, h4, _⟩ := next_ok hc h3 5000 (by decide); obtain ⟨r5, a5, s5, e5, h5, _⟩ := next_ok hc h4 300 (by decide); obtain ⟨r6, a6, s6, e6, h6, _⟩ := next_ok hc h5 2000 (by decide); obtain ⟨r7, a7, s7, e7, h7, _⟩ := next_ok hc h6 4 (by decide); obtain ⟨r8, a8, s8, e8, h8, _⟩ := next_ok hc h7 8 (by decide); obtain ⟨r9, a9, s9, e9, h9, _⟩ := next_ok hc h8 2000 (by decide)
 unfold spec_l03Good.f
 rw [e1, Option.bind_some]; dsimp only; rw [e2, Option.bind_some]; dsimp only; rw [e3, Option.bind_some]; dsimp only; rw [e4, Option.bind_some]; dsimp only; rw [e5, Option.bind_some]; dsimp only; rw [e6, Option.bind_some]; dsimp only; rw [e7, Option.bind_some]; dsimp only
 by_cases g : r1 = 1
 ·rw [if_pos g, e8, Option.bind_some]; dsimp only
  rw [e9, Option.bind_some]; dsimp only
  by_cases g2 : r1 = 2
  ·rw [if_pos g2]; exact ⟨_, _, _, _, _, _, _, _, _, _, rfl, h9⟩
  ·rw [if_neg g2]; exact ⟨_, _, _, _, _, _, _, _, _, _, rfl, h9⟩
 ·rw [if_neg g]
  by_cases g2 : r1 = 2
  ·rw [if_pos g2]; exact ⟨_, _, _, _, _, _, _, _, _, _, rfl, h7⟩
  ·rw [if_neg g2]; exact ⟨_, _, _, _, _, _, _, _, _, _, rfl, h7⟩
theorem In_eq (n lo hi : Int) : spec_l01In.f n lo hi = some (inB n lo hi) := by
 unfold spec_l01In.f inB
 by_cases h : n ≥ lo
 ·rw [if_pos h]; congr 1; simp; omega
 ·rw [if_neg h]; congr 1; simp; omega
theorem Wi_eq (n lo hi : Int) : impl_within.f n lo hi = some (inB n lo hi) := by
 unfold impl_within.f inB
 by_cases h : lo ≤ n
 ·rw [if_pos h]; congr 1; simp; omega
 ·rw [if_neg h]; congr 1; simp; omega
def bt_at (xs : List S104) (i : Nat) : Int := (xs.getD i z104).f0
def ln_at (xs : List S104) (i : Nat) : Int := (xs.getD i z104).f1
def barAt (xs : List S104) (i : Nat) : Bool := inB (bt_at xs i) 1 16 && inB (ln_at xs i) 100 5000
def isScore (xs : List S104) : Bool := allF (barAt xs) 0 xs.length && inB (xs.length : Int) 1 20
theorem rd_bar (xs : List S104) (i : Nat) : rd_T104 xs (i : Int) = xs.getD i z104 := by unfold rd_T104; rw [Int.toNat_natCast]
theorem spec_score (xs : List S104) (hx : xs.length ≤ 9223372036854775807) (k : Nat) (hk : xs.length < k) : spec_IsScore.f k xs = some (isScore xs) := by
 refine all_loop (f := fun k i => spec_IsScore.l0 k xs (i : Int)) xs.length (fun k i hi => ?_) (fun k => ?_) xs.length k 0 (by omega) (by omega) (by omega)
 ·show spec_IsScore.l0 (k + 1) xs i = _
  simp only [spec_IsScore.l0, In_eq, Option.bind_some]; rw [if_pos (by omega), if_pos (by omega), w64 (by omega), rd_bar]
  unfold barAt bt_at ln_at
  cases inB (xs.getD i z104).f0 1 16 <;> cases inB (xs.getD i z104).f1 100 5000 <;> rfl
 ·show spec_IsScore.l0 (k + 1) xs _ = _
  simp only [spec_IsScore.l0, In_eq, Option.bind_some]; rw [if_neg (by omega)]
theorem impl_score (xs : List S104) (hx : xs.length ≤ 9223372036854775807) (k : Nat) (hk : xs.length + 1 < k) : impl_IsScore.f k xs = some (isScore xs) := by
 obtain ⟨k, rfl⟩ : ∃ m, k = m + 1 := ⟨k - 1, by omega⟩
 unfold impl_IsScore.f isScore
 simp only [impl_IsScore.j0]
 by_cases h1 : (xs.length : Int) < 1
 ·rw [if_pos h1, if_pos trivial, inB_false.2 (by omega), Bool.and_false]
 ·rw [if_neg h1]
  by_cases h2 : (xs.length : Int) > 20
  ·rw [if_pos (decide_eq_true h2), inB_false.2 (by omega), Bool.and_false]
  ·rw [if_neg (by simpa using h2), inB_true.2 (by omega)]
   refine all_loop (f := fun k i => impl_IsScore.l0 k xs (xs.length : Int) (i : Int)) xs.length (fun k i hi => ?_) (fun k => ?_) xs.length k 0 (by omega) (by omega) (by omega)
   ·show impl_IsScore.l0 (k + 1) xs (xs.length : Int) i = _
    simp only [impl_IsScore.l0, Wi_eq, Option.bind_some]; rw [if_pos (by omega), if_pos (by omega), if_pos (by omega), w64 (by omega), rd_bar]
    unfold barAt bt_at ln_at
    cases inB (xs.getD i z104).f0 1 16 <;> cases inB (xs.getD i z104).f1 100 5000 <;> rfl
   ·show impl_IsScore.l0 (k + 1) xs (xs.length : Int) _ = _
    simp only [impl_IsScore.l0]; rw [if_neg (by omega)]
theorem isScore_true {xs : List S104} (h : isScore xs = true) : 1 ≤ xs.length ∧ xs.length ≤ 20 ∧ ∀ i, i < xs.length → 1 ≤ bt_at xs i ∧ bt_at xs i ≤ 16 ∧ 100 ≤ ln_at xs i ∧ ln_at xs i ≤ 5000 := by
 unfold isScore at h
 rw [Bool.and_eq_true, allF_true, inB_true] at h; refine ⟨by omega, by omega, fun i hi => ?_⟩; have := h.1 i (by omega) (by omega)
 unfold barAt at this
 rw [Bool.and_eq_true, inB_true, inB_true] at this
 omega
def tm (xs : List S104) (i : Nat) : Int := foldF (fun j s => s + bt_at xs j * ln_at xs j) 0 i 0
theorem tm_succ (xs : List S104) (i : Nat) : tm xs (i + 1) = tm xs i + bt_at xs i * ln_at xs i := by
 unfold tm
 rw [foldF_snoc, Nat.zero_add]
theorem prod_le {a b : Int} (h : 1 ≤ a ∧ a ≤ 16 ∧ 100 ≤ b ∧ b ≤ 5000) : 100 ≤ a * b ∧ a * b ≤ 80000 := by
 have h1 : 1 * b ≤ a * b := Int.mul_le_mul_of_nonneg_right h.1 (by omega); have h2 : a * b ≤ 16 * b := Int.mul_le_mul_of_nonneg_right h.2.1 (by omega)
 omega
theorem tm_le {xs : List S104} (h : isScore xs = true) : ∀ i, i ≤ xs.length → 0 ≤ tm xs i ∧ tm xs i ≤ 80000 * i
 | 0, _ => by unfold tm foldF; omega
 | i + 1, hi => by
  have h1 := tm_le h i (by omega); have h2 := prod_le ((isScore_true h).2.2 i (by omega)); rw [tm_succ]
  omega
def GoodBars (xs : List S104) : Prop := ∀ x ∈ xs, (2 ≤ x.f0 ∧ x.f0 ≤ 5) ∧ 400 ≤ x.f1 ∧ x.f1 ≤ 999
theorem score_good {c : List Int} (hc : Code c) {a s : Int} (h : St c a s) : ∃ xs a' s', (∀ k, 20 ≤ k → spec_l07Good.f k c a s = some (xs, a', s')) ∧ St c a' s' ∧ 1 ≤ xs.length ∧ xs.length ≤ 6 ∧ GoodBars xs := by
 have loop : ∀ (d : Nat) (n : Int) (xs : List S104) (a s : Int), n = d → GoodBars xs → xs.length + d ≤ 6 → St c a s → ∃ r a' s', (∀ k, d < k → spec_l07Good.l0 k xs n c a s = some (r, a', s')) ∧ St c a' s' ∧ r.length = xs.length + d ∧ GoodBars r := by
  intro d
  induction d with
  | zero =>
   intro n xs a s hn hg hl h; refine ⟨xs, a, s, fun k hk => ?_, h, rfl, hg⟩; obtain ⟨k, rfl⟩ : ∃ m, k = m + 1 := ⟨k - 1, by omega⟩; simp only [spec_l07Good.l0]; rw [if_neg (by omega)]
  | succ d ih =>
   intro n xs a s hn hg hl h; obtain ⟨r1, a1, s1, e1, h1, b1, c1⟩ := next_ok hc h 4 (by omega); obtain ⟨r2, a2, s2, e2, h2, b2, c2⟩ := next_ok hc h1 600 (by omega)
   obtain ⟨r, a', s', e, h', hr, hg'⟩ := ih (n - 1) (xs ++ [(⟨2 + r1, 400 + r2⟩ : S104)]) a2 s2 (by omega) (by
    intro x hx
    rcases List.mem_append.1 hx with y | y
    ·exact hg x y
    ·rw [List.mem_singleton.1 y]
     exact ⟨by show 2 ≤ 2 + r1 ∧ 2 + r1 ≤ 5; omega, by show 400 ≤ 400 + r2 ∧ 400 + r2 ≤ 999; omega⟩) (by rw [List.length_append]; show xs.length + 1 + d ≤ 6; omega) h2
   refine ⟨r, a', s', fun k hk => ?_, h', by rw [hr, List.length_append]; show xs.length + 1 + d = _; omega, hg'⟩; obtain ⟨k, rfl⟩ : ∃ m, k = m + 1 := ⟨k - 1, by omega⟩; simp only [spec_l07Good.l0]; rw [if_pos (by omega)]; simp only [e1, e2, Option.bind_some]; rw [if_pos (by omega), w64 (n := 2 + r1) (by omega), w64 (n := 400 + r2) (by omega), w64 (n := n - 1) (by omega)]; exact e k (by omega)
 obtain ⟨r1, a1, s1, e1, h1, b1, c1⟩ := next_ok hc h 6 (by omega); obtain ⟨r, a', s', e, h', hr, hg⟩ := loop (1 + r1).toNat (1 + r1) [] a1 s1 (by omega) (fun x hx => absurd hx (by simp)) (by show 0 + _ ≤ 6; omega) h1
 have hr' : r.length = (1 + r1).toNat := by rw [hr]; show 0 + _ = _; omega
 refine ⟨r, a', s', fun k hk => ?_, h', by omega, by omega, hg⟩
 unfold spec_l07Good.f
 rw [e1]; simp only [Option.bind_some]; rw [w64 (n := 1 + r1) (by omega)]; exact e k (by omega)
theorem score_draw {c : List Int} (hc : Code c) {a s : Int} (h : St c a s) : ∃ xs a' s', (∀ k, 60 ≤ k → spec_l07Draw.f k c a s = some (xs, a', s')) ∧ St c a' s' ∧ xs.length ≤ 30 := by
 have loop : ∀ (d : Nat) (xs : List S104) (a s : Int), 21 - xs.length = d → xs.length ≤ 30 → St c a s → ∃ r a' s', (∀ k, d < k → spec_l07Draw.l0 k xs c a s = some (r, a', s')) ∧ St c a' s' ∧ r.length ≤ 30 := by
  intro d
  induction d with
  | zero =>
   intro xs a s hd hx h; obtain ⟨r1, a1, s1, e1, h1, b1, b2⟩ := next_ok hc h 2 (by omega); refine ⟨xs, a1, s1, fun k hk => ?_, h1, hx⟩; obtain ⟨k, rfl⟩ : ∃ m, k = m + 1 := ⟨k - 1, by omega⟩; simp only [spec_l07Draw.l0, e1, Option.bind_some]; rw [w64 (n := 20 + r1) (by omega), if_neg (by omega)]
  | succ d ih =>
   intro xs a s hd hx h; obtain ⟨r1, a1, s1, e1, h1, b1, b2⟩ := next_ok hc h 2 (by omega)
   by_cases c1 : (xs.length : Int) < 20 + r1
   ·obtain ⟨r, a', s', e, h', hl⟩ := ih (xs ++ [(⟨4, 500⟩ : S104)]) a1 s1 (by rw [List.length_append]; show 21 - (xs.length + 1) = d; omega) (by rw [List.length_append]; show xs.length + 1 ≤ 30; omega) h1
    refine ⟨r, a', s', fun k hk => ?_, h', hl⟩; obtain ⟨k, rfl⟩ : ∃ m, k = m + 1 := ⟨k - 1, by omega⟩; simp only [spec_l07Draw.l0, e1, Option.bind_some]; rw [w64 (n := 20 + r1) (by omega), if_pos c1, if_pos (by omega)]; exact e k (by omega)
   ·refine ⟨xs, a1, s1, fun k hk => ?_, h1, hx⟩
    obtain ⟨k, rfl⟩ : ∃ m, k = m + 1 := ⟨k - 1, by omega⟩; simp only [spec_l07Draw.l0, e1, Option.bind_some]; rw [w64 (n := 20 + r1) (by omega), if_neg c1]
 obtain ⟨xs, a1, s1, e1, h1, l1, l2, hg⟩ := score_good hc h; obtain ⟨r2, a2, s2, e2, h2, b2, c2⟩ := next_ok hc h1 40 (by omega)
 by_cases d0 : r2 = 0
 ·obtain ⟨r3, a3, s3, e3, h3, _⟩ := pick_ok hc h2 [0, 1, 16, 17] (by simp) (by simp)
  refine ⟨xs.set (0 : Int).toNat (⟨r3, (rd_T104 xs 0).f1⟩ : S104), a3, s3, fun k hk => ?_, h3, by rw [List.length_set]; omega⟩
  unfold spec_l07Draw.f
  simp only [e1 k (by omega), e2, e3, Option.bind_some]; rw [if_pos d0, if_pos (by omega)]
 by_cases d1 : r2 = 1
 ·obtain ⟨r3, a3, s3, e3, h3, _⟩ := pick_ok hc h2 [99, 100, 5000, 5001] (by simp) (by simp)
  refine ⟨xs.set (0 : Int).toNat (⟨(rd_T104 xs 0).f0, r3⟩ : S104), a3, s3, fun k hk => ?_, h3, by rw [List.length_set]; omega⟩
  unfold spec_l07Draw.f
  simp only [e1 k (by omega), e2, e3, Option.bind_some]; rw [if_neg d0, if_pos d1, if_pos (by omega)]
 by_cases d2 : r2 = 2
 ·obtain ⟨r, a', s', e, h', hl⟩ := loop (21 - xs.length) xs a2 s2 rfl (by omega) h2
  refine ⟨r, a', s', fun k hk => ?_, h', hl⟩
  unfold spec_l07Draw.f
  simp only [e1 k (by omega), e2, Option.bind_some]; rw [if_neg d0, if_neg d1, if_pos d2]; exact e k (by omega)
 by_cases d3 : r2 = 3
 ·refine ⟨xs.take (0 : Int).toNat, a2, s2, fun k hk => ?_, h2, Nat.zero_le _⟩
  unfold spec_l07Draw.f
  simp only [e1 k (by omega), e2, Option.bind_some]; rw [if_neg d0, if_neg d1, if_neg d2, if_pos d3, if_pos (by omega)]
 ·refine ⟨xs, a2, s2, fun k hk => ?_, h2, by omega⟩
  unfold spec_l07Draw.f
  simp only [e1 k (by omega), e2, Option.bind_some]; rw [if_neg d0, if_neg d1, if_neg d2, if_neg d3]
def word (s : ByteArray) : Bool := allF (fun j => inB (bt s (j : Int)) 97 122) 0 s.size && inB (s.size : Int) 1 16
theorem spec_word (s : ByteArray) (hs : s.size ≤ 9223372036854775807) (k : Nat) (hk : s.size < k) : spec_IsWord.f k s = some (word s) := by
 refine all_loop (f := fun k i => spec_IsWord.l0 k s (i : Int)) s.size (fun k i hi => ?_) (fun k => ?_) s.size k 0 (by omega) (by omega) (by omega)
 ·show spec_IsWord.l0 (k + 1) s i = _
  simp only [spec_IsWord.l0]; rw [if_pos (by omega), if_pos (by omega), w64 (n := (i : Int) + 1) (by omega)]
  by_cases c1 : bt s (i : Int) < 97
  ·rw [if_pos c1, inB_false.2 (by omega), if_neg (by decide)]
  ·rw [if_neg c1]
   by_cases c2 : bt s (i : Int) > 122
   ·rw [if_pos c2, inB_false.2 (by omega), if_neg (by decide)]
   ·rw [if_neg c2, inB_true.2 (by omega), if_pos rfl]; rfl
 ·show spec_IsWord.l0 (k + 1) s _ = _
  simp only [spec_IsWord.l0]; rw [if_neg (by omega), In_eq]; rfl
theorem impl_word (s : ByteArray) (hs : s.size ≤ 9223372036854775807) (k : Nat) (hk : s.size + 1 < k) : impl_IsWord.f k s = some (word s) := by
 obtain ⟨k, rfl⟩ : ∃ m, k = m + 1 := ⟨k - 1, by omega⟩
 unfold impl_IsWord.f word
 simp only [impl_IsWord.j0]
 by_cases h1 : (s.size : Int) < 1
 ·rw [if_pos h1, if_pos trivial, inB_false.2 (by omega), Bool.and_false]
 ·rw [if_neg h1]
  by_cases h2 : (s.size : Int) > 16
  ·rw [if_pos (decide_eq_true h2), inB_false.2 (by omega), Bool.and_false]
  ·rw [if_neg (by simpa using h2), inB_true.2 (by omega)]
   refine all_loop (f := fun k i => impl_IsWord.l0 k s (i : Int)) s.size (fun k i hi => ?_) (fun k => ?_) s.size k 0 (by omega) (by omega) (by omega)
   ·show impl_IsWord.l0 (k + 1) s i = _
    simp only [impl_IsWord.l0]; rw [if_pos (by omega), if_pos (by omega), w64 (n := (i : Int) + 1) (by omega)]
    by_cases c1 : bt s (i : Int) < 97
    ·rw [if_pos c1, inB_false.2 (by omega), if_neg (by decide)]
    ·rw [if_neg c1]
     by_cases c2 : bt s (i : Int) > 122
     ·rw [if_pos c2, inB_false.2 (by omega), if_neg (by decide)]
     ·rw [if_neg c2, inB_true.2 (by omega), if_pos rfl]; rfl
   ·show impl_IsWord.l0 (k + 1) s _ = _
    simp only [impl_IsWord.l0]; rw [if_neg (by omega)]
def art (a : S62) : Bool := word a.f0 && (inB a.f1 0 3 && (inB a.f2 20 300 && (inB a.f3 0 10000 && (inB a.f4 0 a.f3 && (inB a.f5 1 50 && (inB a.f6 0 10000 && (inB a.f7 1 100000 && inB a.f8 0 3)))))))
theorem spec_art (a : S62) (hs : a.f0.size ≤ 9223372036854775807) (k : Nat) (hk : a.f0.size < k) : spec_IsArticle.f k a.f0 a.f1 a.f2 a.f3 a.f4 a.f5 a.f6 a.f7 a.f8 = some (art a) := by
 unfold spec_IsArticle.f art
 rw [spec_word a.f0 hs k hk]; simp only [In_eq, Option.bind_some]
 cases word a.f0 <;> cases inB a.f1 0 3 <;> cases inB a.f2 20 300 <;> cases inB a.f3 0 10000 <;> cases inB a.f4 0 a.f3 <;> cases inB a.f5 1 50 <;> cases inB a.f6 0 10000 <;> cases inB a.f7 1 100000 <;> rfl
theorem impl_art (a : S62) (hs : a.f0.size ≤ 9223372036854775807) (k : Nat) (hk : a.f0.size + 1 < k) : impl_IsArticle.f k a.f0 a.f1 a.f2 a.f3 a.f4 a.f5 a.f6 a.f7 a.f8 = some (art a) := by
 unfold impl_IsArticle.f art
 rw [impl_word a.f0 hs k hk]; simp only [Wi_eq, Option.bind_some]
 cases word a.f0 <;> cases inB a.f1 0 3 <;> cases inB a.f2 20 300 <;> cases inB a.f3 0 10000 <;> cases inB a.f4 0 a.f3 <;> cases inB a.f5 1 50 <;> cases inB a.f6 0 10000 <;> cases inB a.f7 1 100000 <;> rfl
def ar_at (xs : List S62) (i : Nat) : S62 := xs.getD i z62
theorem rd_art (xs : List S62) (i : Nat) : rd_T62 xs (i : Int) = ar_at xs i := by unfold rd_T62 ar_at; rw [Int.toNat_natCast]
def artAt (xs : List S62) (i : Nat) : Bool := art (ar_at xs i) && (decide (i = 0) || Op.bytesLess (ar_at xs (i - 1)).f0.toList (ar_at xs i).f0.toList)
def areArts (xs : List S62) : Bool := allF (artAt xs) 0 xs.length && decide ((xs.length : Int) ≤ 12)
def Small (B : Nat) (xs : List S62) : Prop := B ≤ 9223372036854775807 ∧ ∀ x ∈ xs, x.f0.size ≤ B
theorem small_at {B : Nat} {xs : List S62} (h : Small B xs) (i : Nat) (hi : i < xs.length) : (ar_at xs i).f0.size ≤ B := by
 unfold ar_at
 rw [List.getD_eq_getElem?_getD, List.getElem?_eq_getElem hi]; exact h.2 _ (List.getElem_mem hi)
theorem spec_arts (B : Nat) (xs : List S62) (hx : xs.length ≤ 9223372036854775807) (hB : Small B xs) (k : Nat) (hk : xs.length + B < k) : spec_AreArticles.f k xs = some (areArts xs) := by
 have loop : ∀ d k i, xs.length - i = d → i ≤ xs.length → d + B < k → spec_AreArticles.l0 k xs (i : Int) = some (allF (artAt xs) i d && decide ((xs.length : Int) ≤ 12)) := by
  intro d
  induction d with
  | zero =>
   intro k i hd hi hk; obtain ⟨k, rfl⟩ : ∃ m, k = m + 1 := ⟨k - 1, by omega⟩; simp only [spec_AreArticles.l0]; rw [if_neg (by omega)]
   rfl
  | succ d ih =>
   intro k i hd hi hk; obtain ⟨k, rfl⟩ : ∃ m, k = m + 1 := ⟨k - 1, by omega⟩; have hb := small_at hB i (by omega); have hB1 := hB.1; have nx := ih k (i + 1) (by omega) (by omega) (by omega); simp only [spec_AreArticles.l0]; rw [if_pos (by omega), if_pos (by omega), rd_art, spec_art _ (by omega) k (by omega), w64 (n := (i : Int) + 1) (by omega)]; simp only [Option.bind_some]
   unfold allF artAt
   cases ha : art (ar_at xs i) with
   | false => rfl
   | true =>
    rw [if_pos rfl, Bool.true_and]
    by_cases i0 : i = 0
    ·subst i0
     rw [if_neg (by omega), decide_eq_true rfl, Bool.true_or, Bool.true_and]; exact nx
    ·rw [if_pos (by omega), w64 (n := (i : Int) - 1) (by omega), if_pos (by omega), if_pos (by omega), show (i : Int) - 1 = ((i - 1 : Nat) : Int) by omega, rd_art, decide_eq_false i0, Bool.false_or]
     cases hl : Op.bytesLess (ar_at xs (i - 1)).f0.toList (ar_at xs i).f0.toList with
     | false => rfl
     | true => rw [if_pos rfl, Bool.true_and]; exact nx
 unfold spec_AreArticles.f
 exact loop xs.length k 0 (by omega) (by omega) hk
theorem impl_arts (B : Nat) (xs : List S62) (hx : xs.length ≤ 9223372036854775807) (hB : Small B xs) (k : Nat) (hk : xs.length + B + 1 < k) : impl_AreArticles.f k xs = some (areArts xs) := by
 have loop : ∀ d k i, xs.length - i = d → i ≤ xs.length → d + B + 1 < k → impl_AreArticles.l0 k xs xs (xs.length : Int) (i : Int) = some (allF (artAt xs) i d && true) := by
  intro d
  induction d with
  | zero =>
   intro k i hd hi hk; obtain ⟨k, rfl⟩ : ∃ m, k = m + 1 := ⟨k - 1, by omega⟩; simp only [impl_AreArticles.l0]; rw [if_neg (by omega)]
   rfl
  | succ d ih =>
   intro k i hd hi hk; obtain ⟨k, rfl⟩ : ∃ m, k = m + 1 := ⟨k - 1, by omega⟩; have hb := small_at hB i (by omega); have hB1 := hB.1; have nx := ih k (i + 1) (by omega) (by omega) (by omega); simp only [impl_AreArticles.l0]; rw [if_pos (by omega), if_pos (by omega), if_pos (by omega), rd_art, impl_art _ (by omega) k (by omega), w64 (n := (i : Int) + 1) (by omega)]; simp only [Option.bind_some]
   unfold allF artAt
   cases ha : art (ar_at xs i) with
   | false => rfl
   | true =>
    rw [if_pos rfl, Bool.true_and]
    by_cases i0 : i = 0
    ·subst i0
     rw [if_neg (by omega), decide_eq_true rfl, Bool.true_or, Bool.true_and]; exact nx
    ·rw [if_pos (by omega), w64 (n := (i : Int) - 1) (by omega), if_pos (by omega), if_pos (by omega), show (i : Int) - 1 = ((i - 1 : Nat) : Int) by omega, rd_art, decide_eq_false i0, Bool.false_or]
     cases hl : Op.bytesLess (ar_at xs (i - 1)).f0.toList (ar_at xs i).f0.toList with
     | false => rfl
     | true => rw [if_pos rfl, Bool.true_and]; exact nx
 unfold impl_AreArticles.f areArts
 by_cases c : (xs.length : Int) > 12
 ·rw [if_pos c, decide_eq_false (by omega), Bool.and_false]
 ·rw [if_neg c, decide_eq_true (by omega)]
  exact loop xs.length k 0 (by omega) (by omega) hk
def findF (xs : List S62) (s : ByteArray) : Nat → Nat → Int
 | _, 0 => -1
 | i, d + 1 => if (ar_at xs i).f0.toList = s.toList then (i : Int) else findF xs s (i + 1) d
def find (xs : List S62) (s : ByteArray) : Int := findF xs s 0 xs.length
theorem find_go (xs : List S62) (hx : xs.length ≤ 9223372036854775807) (s : ByteArray) : ∀ d k i, xs.length - i = d → i ≤ xs.length → d < k → spec_l03Find.l0 k xs s (i : Int) = some (findF xs s i d) ∧ impl_articleOf.l0 k s xs (xs.length : Int) (i : Int) = some (findF xs s i d) := by
 intro d
 induction d with
 | zero =>
  intro k i hd hi hk; obtain ⟨k, rfl⟩ : ∃ m, k = m + 1 := ⟨k - 1, by omega⟩; simp only [spec_l03Find.l0, impl_articleOf.l0]; rw [if_neg (by omega), if_neg (by omega)]; exact ⟨rfl, rfl⟩
 | succ d ih =>
  intro k i hd hi hk; obtain ⟨k, rfl⟩ : ∃ m, k = m + 1 := ⟨k - 1, by omega⟩; obtain ⟨a, b⟩ := ih k (i + 1) (by omega) (by omega) (by omega); have w : wrap64 ((i : Int) + 1) = ((i + 1 : Nat) : Int) := w64 (by omega)
  have g1 : (i : Int) < (xs.length : Int) := by clear w; omega
  have g2 : 0 ≤ (i : Int) := by clear w; omega
  simp only [spec_l03Find.l0, impl_articleOf.l0, if_pos g1, if_pos g2, rd_art, w]
  unfold findF
  by_cases c : (ar_at xs i).f0.toList = s.toList
  ·rw [if_pos c, if_pos c, if_pos c]; exact ⟨rfl, rfl⟩
  ·rw [if_neg c, if_neg c, if_neg c]; exact ⟨a, b⟩
theorem spec_find (xs : List S62) (hx : xs.length ≤ 9223372036854775807) (s : ByteArray) (k : Nat) (hk : xs.length < k) : spec_l03Find.f k xs s = some (find xs s) := (find_go xs hx s xs.length k 0 (by omega) (by omega) hk).1
theorem impl_find (xs : List S62) (hx : xs.length ≤ 9223372036854775807) (s : ByteArray) (k : Nat) (hk : xs.length < k) : impl_articleOf.f k xs s = some (find xs s) := (find_go xs hx s xs.length k 0 (by omega) (by omega) hk).2
theorem findF_range (xs : List S62) (s : ByteArray) : ∀ d i, findF xs s i d = -1 ∨ ((i : Int) ≤ findF xs s i d ∧ findF xs s i d < (i : Int) + d)
 | 0, _ => .inl rfl
 | d + 1, i => by
  unfold findF
  by_cases c : (ar_at xs i).f0.toList = s.toList
  ·rw [if_pos c]; exact .inr ⟨Int.le_refl _, by omega⟩
  ·rw [if_neg c]
   rcases findF_range xs s d (i + 1) with h | h
   ·exact .inl h
   ·exact .inr ⟨by omega, by omega⟩
theorem find_range (xs : List S62) (s : ByteArray) : find xs s = -1 ∨ (0 ≤ find xs s ∧ find xs s < (xs.length : Int)) := by
 have := findF_range xs s xs.length 0
 unfold find
 omega
theorem spec_time {xs : List S104} (h : isScore xs = true) (bar : Nat) (hb : bar < xs.length) (beat : Int) (h0 : 0 ≤ beat ∧ beat ≤ 16) (k : Nat) (hk : bar < k) : spec_l07Time.f k xs (bar : Int) beat = some (tm xs bar + beat * ln_at xs bar) := by
 have hs := isScore_true h; have hl := hs.2.2 bar hb
 have hb2 : 0 ≤ beat * ln_at xs bar ∧ beat * ln_at xs bar ≤ 80000 := by
  have h1 : 0 * ln_at xs bar ≤ beat * ln_at xs bar := Int.mul_le_mul_of_nonneg_right h0.1 (by omega); have h2 : beat * ln_at xs bar ≤ 16 * ln_at xs bar := Int.mul_le_mul_of_nonneg_right h0.2 (by omega)
  omega
 refine fold_loop (f := fun k i s => spec_l07Time.l0 k xs (bar : Int) beat s (i : Int)) (step := fun j s => s + bt_at xs j * ln_at xs j) (I := fun i s => s = tm xs i) (e := fun s => some (s + beat * ln_at xs bar)) bar (fun k i s hi hI => ?_) (fun i s hi hI => ?_) (fun k s hI => ?_) bar k 0 0 (by omega) (by omega) rfl hk
 ·have h1 := tm_le h i (by omega)
  have h2 := prod_le (hs.2.2 i (by omega)); show spec_l07Time.l0 (k + 1) xs (bar : Int) beat s (i : Int) = spec_l07Time.l0 k xs (bar : Int) beat (s + bt_at xs i * ln_at xs i) ((i + 1 : Nat) : Int); simp only [spec_l07Time.l0]; rw [if_pos (by omega), if_pos (by omega), if_pos (by omega), rd_bar]; show spec_l07Time.l0 k xs (bar : Int) beat (wrap64 (s + wrap64 (bt_at xs i * ln_at xs i))) (wrap64 ((i : Int) + 1)) = _; rw [w64 (n := bt_at xs i * ln_at xs i) (by omega), w64 (n := s + _) (by omega), w64 (by omega)]
  rfl
 ·show s + bt_at xs i * ln_at xs i = tm xs (i + 1)
  rw [tm_succ, hI]
 ·have h1 := tm_le h bar (by omega)
  show spec_l07Time.l0 (k + 1) xs (bar : Int) beat s (bar : Int) = some (s + beat * ln_at xs bar); simp only [spec_l07Time.l0]; rw [if_neg (by omega), if_pos (by omega), if_pos (by omega), rd_bar]; show some (wrap64 (s + wrap64 (beat * ln_at xs bar))) = _; rw [w64 (n := beat * ln_at xs bar) (by omega), w64 (by omega)]
theorem impl_time {xs : List S104} (h : isScore xs = true) (bar : Nat) (beat : Int) (hb : bar < xs.length ∨ (bar = xs.length ∧ beat = 0)) (h0 : 0 ≤ beat ∧ beat ≤ 16) (k : Nat) (hk : bar < k) : impl_beatTime.f k xs (bar : Int) beat = some (tm xs bar + beat * ln_at xs bar) := by
 have hs := isScore_true h
 have hlen : (xs.take bar).length = bar := by rw [List.length_take]; omega
 unfold impl_beatTime.f
 rw [if_pos (by omega), if_pos (by omega), Int.toNat_natCast]; simp only [Option.bind_some]; rw [hlen]; refine fold_loop (f := fun k i s => impl_beatTime.l0 k xs (bar : Int) beat s (xs.take bar) (bar : Int) (i : Int)) (step := fun j s => s + bt_at xs j * ln_at xs j) (I := fun i s => s = tm xs i) (e := fun s => some (s + beat * ln_at xs bar)) bar (fun k i s hi hI => ?_) (fun i s hi hI => ?_) (fun k s hI => ?_) bar k 0 0 (by omega) (by omega) rfl hk
 ·have h1 := tm_le h i (by omega)
  have h2 := prod_le (hs.2.2 i (by omega)); show impl_beatTime.l0 (k + 1) xs (bar : Int) beat s (xs.take bar) (bar : Int) (i : Int) = impl_beatTime.l0 k xs (bar : Int) beat (s + bt_at xs i * ln_at xs i) (xs.take bar) (bar : Int) ((i + 1 : Nat) : Int); simp only [impl_beatTime.l0]; rw [if_pos (by omega), if_pos (by omega), if_pos (by rw [hlen]; omega), rd_bar, getD_take _ _ _ _ hi]; show impl_beatTime.l0 k xs (bar : Int) beat (wrap64 (s + wrap64 (bt_at xs i * ln_at xs i))) (xs.take bar) (bar : Int) (wrap64 ((i : Int) + 1)) = _; rw [w64 (n := bt_at xs i * ln_at xs i) (by omega), w64 (n := s + _) (by omega), w64 (by omega)]
  rfl
 ·show s + bt_at xs i * ln_at xs i = tm xs (i + 1)
  rw [tm_succ, hI]
 ·have h1 := tm_le h bar (by omega)
  show impl_beatTime.l0 (k + 1) xs (bar : Int) beat s (xs.take bar) (bar : Int) (bar : Int) = some (s + beat * ln_at xs bar); simp only [impl_beatTime.l0]; rw [if_neg (by omega)]
  by_cases hp : beat > 0
  ·have hlt : bar < xs.length := by omega
   have hl := hs.2.2 bar hlt
   have hb2 : 0 ≤ beat * ln_at xs bar ∧ beat * ln_at xs bar ≤ 80000 := by
    have h1 : 0 * ln_at xs bar ≤ beat * ln_at xs bar := Int.mul_le_mul_of_nonneg_right h0.1 (by omega); have h2 : beat * ln_at xs bar ≤ 16 * ln_at xs bar := Int.mul_le_mul_of_nonneg_right h0.2 (by omega)
    omega
   rw [if_pos hp, if_pos (by omega), if_pos (by omega), rd_bar]; show some (wrap64 (s + wrap64 (beat * ln_at xs bar))) = _; rw [w64 (n := beat * ln_at xs bar) (by omega), w64 (by omega)]
  ·have e : beat = 0 := by omega
   rw [if_neg hp, e, Int.zero_mul, Int.add_zero]
theorem index_eq (a n : Int) : impl_isIndex.f a n = some (inB a 0 (wrap64 (n - 1))) := by
 unfold impl_isIndex.f
 simp only [Wi_eq, Option.bind_some]
def hasBeat (xs : List S104) (bar beat : Int) : Bool := inB bar 0 ((xs.length : Int) - 1) && inB beat 0 (bt_at xs bar.toNat - 1)
theorem hasBeat_true {xs : List S104} {bar beat : Int} (h : hasBeat xs bar beat = true) : ∃ b : Nat, bar = b ∧ b < xs.length ∧ 0 ≤ beat ∧ beat ≤ bt_at xs b - 1 := by
 unfold hasBeat at h
 rw [Bool.and_eq_true, inB_true, inB_true] at h; exact ⟨bar.toNat, by omega, by omega, h.2⟩
theorem spec_has {xs : List S104} (h : isScore xs = true) (bar beat : Int) : spec_l07Has.f xs bar beat = some (hasBeat xs bar beat) := by
 have hs := isScore_true h
 unfold spec_l07Has.f hasBeat
 rw [w64 (n := (xs.length : Int) - 1) (by omega), In_eq]; simp only [Option.bind_some]
 cases g : inB bar 0 ((xs.length : Int) - 1) with
 | false => rfl
 | true =>
  rw [inB_true] at g; obtain ⟨b, rfl⟩ : ∃ n : Nat, bar = n := ⟨bar.toNat, by omega⟩; have hb := hs.2.2 b (by omega); rw [if_pos rfl, if_pos (by omega), if_pos (by omega), rd_bar]; show ((spec_l01In.f beat 0 (wrap64 (bt_at xs b - 1))).bind fun t => some t) = _; rw [w64 (by omega), In_eq]; rfl
theorem impl_has {xs : List S104} (h : isScore xs = true) (bar beat : Int) : impl_isBeat.f xs bar beat = some (hasBeat xs bar beat) := by
 have hs := isScore_true h
 unfold impl_isBeat.f hasBeat
 rw [index_eq, w64 (n := (xs.length : Int) - 1) (by omega)]; simp only [Option.bind_some]
 cases g : inB bar 0 ((xs.length : Int) - 1) with
 | false => rfl
 | true =>
  rw [inB_true] at g; obtain ⟨b, rfl⟩ : ∃ n : Nat, bar = n := ⟨bar.toNat, by omega⟩; have hb := hs.2.2 b (by omega); rw [if_pos rfl, if_pos (by omega), if_pos (by omega), rd_bar]; show ((impl_within.f beat 0 (wrap64 (bt_at xs b - 1))).bind fun t => some t) = _; rw [w64 (by omega), Wi_eq]; rfl
def cu_at (C : List S39) (i : Nat) : S39 := C.getD i z39
theorem rd_cue (C : List S39) (i : Nat) : rd_T39 C (i : Int) = cu_at C i := by unfold rd_T39 cu_at; rw [Int.toNat_natCast]
def arOf (B : List S62) (c : S39) : S62 := ar_at B (find B c.f2).toNat
def ftime (A : List S104) (B : List S62) (c : S39) : Int := tm A c.f0.toNat + c.f1 * ln_at A c.f0.toNat - (arOf B c).f3
theorem areArts_true {xs : List S62} (h : areArts xs = true) : xs.length ≤ 12 ∧ ∀ i, i < xs.length → art (ar_at xs i) = true := by
 unfold areArts at h
 rw [Bool.and_eq_true, allF_true, decide_eq_true_iff] at h; refine ⟨by omega, fun i hi => ?_⟩; have := h.1 i (by omega) (by omega)
 unfold artAt at this
 rw [Bool.and_eq_true] at this; exact this.1
theorem art_true {a : S62} (h : art a = true) : (0 ≤ a.f1 ∧ a.f1 ≤ 3) ∧ (20 ≤ a.f2 ∧ a.f2 ≤ 300) ∧ (0 ≤ a.f3 ∧ a.f3 ≤ 10000) ∧ (0 ≤ a.f4 ∧ a.f4 ≤ a.f3) ∧ (1 ≤ a.f5 ∧ a.f5 ≤ 50) ∧ (0 ≤ a.f6 ∧ a.f6 ≤ 10000) ∧ (1 ≤ a.f7 ∧ a.f7 ≤ 100000) ∧ 0 ≤ a.f8 ∧ a.f8 ≤ 3 := by
 unfold art at h
 simp only [Bool.and_eq_true, inB_true] at h; exact h.2
theorem arOf_ok {B : List S62} (hB : areArts B = true) {c : S39} (hc : 0 ≤ find B c.f2) : art (arOf B c) = true ∧ find B c.f2 < (B.length : Int) := by
 rcases find_range B c.f2 with h | h
 ·omega
 ·exact ⟨(areArts_true hB).2 _ (by omega), h.2⟩
theorem time_range {A : List S104} (hA : isScore A = true) {b : Nat} (hb : b < A.length) {e : Int} (he : 0 ≤ e ∧ e ≤ bt_at A b - 1) : 0 ≤ tm A b + e * ln_at A b ∧ tm A b + e * ln_at A b ≤ 2000000 := by
 have hs := isScore_true hA; have hl := hs.2.2 b hb; have ht := tm_le hA b (by omega); have h1 : 0 ≤ e * ln_at A b := Int.mul_nonneg he.1 (by omega); have h2 : e * ln_at A b ≤ 16 * ln_at A b := Int.mul_le_mul_of_nonneg_right (by omega) (by omega)
 omega
theorem ftime_range {A : List S104} (hA : isScore A = true) {B : List S62} (hB : areArts B = true) {c : S39} (hc : 0 ≤ find B c.f2) (hb : hasBeat A c.f0 c.f1 = true) : -10000 ≤ ftime A B c ∧ ftime A B c ≤ 2000000 := by
 obtain ⟨b, e, h1, h2, h3⟩ := hasBeat_true hb; have ha := art_true (arOf_ok hB hc).1; have := time_range hA h1 ⟨h2, h3⟩
 unfold ftime
 rw [e, Int.toNat_natCast]
 omega
theorem spec_ftime {A : List S104} (hA : isScore A = true) {B : List S62} (hB : areArts B = true) (C : List S39) {c : S39} (hc : 0 ≤ find B c.f2) (hb : hasBeat A c.f0 c.f1 = true) (k : Nat) (hk : 100 ≤ k) : spec_l08Time.f k A B C c.f0 c.f1 c.f2 c.f3 = some (ftime A B c) := by
 obtain ⟨b, e, h1, h2, h3⟩ := hasBeat_true hb; have hs := isScore_true hA; have hl := hs.2.2 b h1; have hf := arOf_ok hB hc; have hr := time_range hA h1 ⟨h2, h3⟩; have ha := art_true hf.1; have hB12 := (areArts_true hB).1
 have ft : ftime A B c = tm A b + c.f1 * ln_at A b - (arOf B c).f3 := by unfold ftime; rw [e, Int.toNat_natCast]
 unfold spec_l08Time.f
 rw [e, spec_time hA b h1 c.f1 (by omega) k (by omega)]; simp only [Option.bind_some]; rw [spec_find B (by omega) c.f2 k (by omega)]; simp only [Option.bind_some]; rw [if_pos hc, if_pos hf.2, ft]
 have er : rd_T62 B (find B c.f2) = arOf B c := by
  have := rd_art B (find B c.f2).toNat; rw [show ((find B c.f2).toNat : Int) = find B c.f2 by omega] at this; exact this
 rw [er, w64 (by omega)]
theorem impl_ftime {A : List S104} (hA : isScore A = true) {B : List S62} (hB : areArts B = true) (C : List S39) (c : S39) (k : Nat) (hk : 100 ≤ k) : impl_firedAt.f k A B C c.f0 c.f1 c.f2 c.f3 = some (if 0 ≤ find B c.f2 ∧ hasBeat A c.f0 c.f1 = true then mx (-1) (ftime A B c) else -1) := by
 have hs := isScore_true hA; have hB12 := (areArts_true hB).1
 unfold impl_firedAt.f
 rw [impl_find B (by omega) c.f2 k (by omega)]; simp only [Option.bind_some]
 by_cases hc : 0 ≤ find B c.f2
 ·rw [if_neg (by omega), impl_has hA]
  simp only [Option.bind_some]
  by_cases hb : hasBeat A c.f0 c.f1 = true
  ·obtain ⟨b, e, h1, h2, h3⟩ := hasBeat_true hb
   have hl := hs.2.2 b h1; have hf := arOf_ok hB hc; have hr := time_range hA h1 ⟨h2, h3⟩; have ha := art_true hf.1
   have ft : ftime A B c = tm A b + c.f1 * ln_at A b - (arOf B c).f3 := by unfold ftime; rw [e, Int.toNat_natCast]
   have er : rd_T62 B (find B c.f2) = arOf B c := by
    have := rd_art B (find B c.f2).toNat; rw [show ((find B c.f2).toNat : Int) = find B c.f2 by omega] at this; exact this
   rw [if_pos hb, if_pos (show 0 ≤ find B c.f2 ∧ hasBeat A c.f0 c.f1 = true from ⟨hc, hb⟩), e, impl_time hA b c.f1 (.inl h1) (by omega) k (by omega)]; simp only [Option.bind_some]; rw [if_pos hc, if_pos hf.2, er, ft, w64 (by omega)]
  ·rw [if_neg hb, if_neg (show ¬ (0 ≤ find B c.f2 ∧ hasBeat A c.f0 c.f1 = true) from fun x => hb x.2)]
 ·rw [if_pos (by omega), if_neg (show ¬ (0 ≤ find B c.f2 ∧ hasBeat A c.f0 c.f1 = true) from fun x => hc x.1)]
def cueOk (A : List S104) (B : List S62) (c : S39) : Bool := hasBeat A c.f0 c.f1 && (decide (0 ≤ find B c.f2) && (inB c.f3 0 11 && decide (0 ≤ ftime A B c)))
def isShow (A : List S104) (B : List S62) (C : List S39) : Bool := isScore A && (areArts B && (decide ((C.length : Int) ≤ 20) && allF (fun i => cueOk A B (cu_at C i)) 0 C.length))
theorem cueOk_true {A : List S104} {B : List S62} {c : S39} (h : cueOk A B c = true) : hasBeat A c.f0 c.f1 = true ∧ 0 ≤ find B c.f2 ∧ (0 ≤ c.f3 ∧ c.f3 ≤ 11) ∧ 0 ≤ ftime A B c := by
 unfold cueOk at h
 simpa only [Bool.and_eq_true, inB_true, decide_eq_true_iff] using h
theorem isShow_true {A : List S104} {B : List S62} {C : List S39} (h : isShow A B C = true) : isScore A = true ∧ areArts B = true ∧ C.length ≤ 20 ∧ ∀ i, i < C.length → cueOk A B (cu_at C i) = true := by
 unfold isShow at h
 rw [Bool.and_eq_true, Bool.and_eq_true, Bool.and_eq_true, allF_true, decide_eq_true_iff] at h; exact ⟨h.1, h.2.1, by omega, fun i hi => h.2.2.2 i (by omega) (by omega)⟩
theorem spec_show (n : Nat) (A : List S104) (B : List S62) (C : List S39) (hA : A.length ≤ 9223372036854775807) (hB : B.length ≤ 9223372036854775807) (hC : C.length ≤ 9223372036854775807) (hS : Small n B) (k : Nat) (hk : A.length + B.length + C.length + n + 200 ≤ k) : spec_IsShow.f k A B C = some (isShow A B C) := by
 obtain ⟨k, rfl⟩ : ∃ m, k = m + 1 := ⟨k - 1, by omega⟩
 unfold spec_IsShow.f isShow
 rw [spec_score A (by omega) (k + 1) (by omega)]; simp only [Option.bind_some]
 cases a : isScore A with
 | false => rfl
 | true =>
  rw [if_pos rfl, spec_arts n B (by omega) hS (k + 1) (by omega)]; simp only [Option.bind_some]
  cases b : areArts B with
  | false => rfl
  | true =>
   rw [if_pos rfl]
   by_cases c : (C.length : Int) > 20
   ·rw [decide_eq_true c, decide_eq_false (by omega)]; rfl
   ·rw [decide_eq_false c, decide_eq_true (by omega)]
    simp only [spec_IsShow.j0, Bool.false_eq_true, if_false, Bool.true_and]; have hB12 := (areArts_true b).1
    have loop : ∀ d k i, C.length - i = d → i ≤ C.length → d + 110 ≤ k → spec_IsShow.l0 k (i : Int) A B C = some (allF (fun i => cueOk A B (cu_at C i)) i d) := by
     intro d
     induction d with
     | zero =>
      intro k i hd hi hk; obtain ⟨k, rfl⟩ : ∃ m, k = m + 1 := ⟨k - 1, by omega⟩; simp only [spec_IsShow.l0]; rw [if_neg (by omega)]
      rfl
     | succ d ih =>
      intro k i hd hi hk; obtain ⟨k, rfl⟩ : ∃ m, k = m + 1 := ⟨k - 1, by omega⟩; have nx := ih k (i + 1) (by omega) (by omega) (by omega); simp only [spec_IsShow.l0]; rw [if_pos (by omega), if_pos (by omega), rd_cue, spec_has a, spec_find B (by omega) _ k (by omega), In_eq, w64 (n := (i : Int) + 1) (by omega)]; simp only [Option.bind_some]
      unfold allF cueOk
      cases hb : hasBeat A (cu_at C i).f0 (cu_at C i).f1 with
      | false => rfl
      | true =>
       rw [if_pos rfl, Bool.true_and]
       by_cases hf : 0 ≤ find B (cu_at C i).f2
       ·rw [if_neg (by omega), decide_eq_true hf, Bool.true_and]
        cases hr : inB (cu_at C i).f3 0 11 with
        | false => rfl
        | true =>
         rw [if_pos rfl, Bool.true_and, spec_ftime a b C hf hb k (by omega)]; simp only [Option.bind_some]
         by_cases ht : ftime A B (cu_at C i) < 0
         ·rw [if_pos ht, decide_eq_false (by omega)]; rfl
         ·rw [if_neg ht, decide_eq_true (by omega), Bool.true_and]
          exact nx
       ·rw [if_pos (by omega), decide_eq_false hf]; rfl
    exact loop C.length k 0 (by omega) (by omega) (by omega)
theorem impl_show (n : Nat) (A : List S104) (B : List S62) (C : List S39) (hA : A.length ≤ 9223372036854775807) (hB : B.length ≤ 9223372036854775807) (hC : C.length ≤ 9223372036854775807) (hS : Small n B) (k : Nat) (hk : A.length + B.length + C.length + n + 200 ≤ k) : impl_IsShow.f k A B C = some (isShow A B C) := by
 obtain ⟨k, rfl⟩ : ∃ m, k = m + 1 := ⟨k - 1, by omega⟩
 unfold impl_IsShow.f isShow
 rw [impl_score A (by omega) (k + 1) (by omega)]; simp only [Option.bind_some]
 cases a : isScore A with
 | false => rfl
 | true =>
  rw [if_pos rfl, impl_arts n B (by omega) hS (k + 1) (by omega)]; simp only [Option.bind_some]
  cases b : areArts B with
  | false => rfl
  | true =>
   rw [if_pos rfl]
   by_cases c : (C.length : Int) > 20
   ·rw [decide_eq_true c, decide_eq_false (by omega)]; rfl
   ·rw [decide_eq_false c, decide_eq_true (by omega)]
    simp only [impl_IsShow.j0, Bool.false_eq_true, if_false, Bool.true_and]; have hB12 := (areArts_true b).1
    have loop : ∀ d k i, C.length - i = d → i ≤ C.length → d + 110 ≤ k → impl_IsShow.l0 k C (C.length : Int) (i : Int) A B C = some (allF (fun i => cueOk A B (cu_at C i)) i d) := by
     intro d
     induction d with
     | zero =>
      intro k i hd hi hk; obtain ⟨k, rfl⟩ : ∃ m, k = m + 1 := ⟨k - 1, by omega⟩; simp only [impl_IsShow.l0]; rw [if_neg (by omega)]
      rfl
     | succ d ih =>
      intro k i hd hi hk; obtain ⟨k, rfl⟩ : ∃ m, k = m + 1 := ⟨k - 1, by omega⟩; have nx := ih k (i + 1) (by omega) (by omega) (by omega); simp only [impl_IsShow.l0]; rw [if_pos (by omega), if_pos (by omega), if_pos (by omega), rd_cue, Wi_eq, impl_ftime a b C _ k (by omega), w64 (n := (i : Int) + 1) (by omega)]; simp only [Option.bind_some]
      unfold allF cueOk
      cases hr : inB (cu_at C i).f3 0 11 with
      | false =>
       rw [if_neg (by decide)]
       simp
      | true =>
       rw [if_pos rfl]
       cases hb : hasBeat A (cu_at C i).f0 (cu_at C i).f1 with
       | false =>
        rw [if_neg (show ¬ (0 ≤ find B (cu_at C i).f2 ∧ false = true) from fun x => absurd x.2 (by decide)), if_pos (by omega)]; rfl
       | true =>
        by_cases hf : 0 ≤ find B (cu_at C i).f2
        ·rw [if_pos (show 0 ≤ find B (cu_at C i).f2 ∧ true = true from ⟨hf, rfl⟩), decide_eq_true hf]
         by_cases ht : ftime A B (cu_at C i) < 0
         ·rw [if_pos (by unfold mx; split <;> omega), decide_eq_false (by omega)]; rfl
         ·rw [if_neg (by unfold mx; split <;> omega), decide_eq_true (by omega)]
          exact nx
        ·rw [if_neg (show ¬ (0 ≤ find B (cu_at C i).f2 ∧ true = true) from fun x => hf x.1), if_pos (by omega), decide_eq_false hf]; rfl
    exact loop C.length k 0 (by omega) (by omega) (by omega)
end Go.Proofs.Ythhijbdekboahaa.F
namespace Go.Proofs.Ythhijbdekboahaa.F
open Go.RowKit Go.Proofs.YthhijbdekboahaaW.PrintWords Go.Proofs.YthhijbdekboahaaW.PrintLast Go.Proofs.YthhijbdekboahaaW.PrintMore
attribute [local go_sem] max2_int min2_int max_two min_two max_three min_three max_four min_four
set_option linter.unusedVariables false
set_option linter.unusedSimpArgs false
end Go.Proofs.Ythhijbdekboahaa.F
namespace Go.Proofs.Ythhijbdekboahaa.F
open Go.RowKit Go.Proofs.YthhijbdekboahaaW.PrintWords Go.Proofs.YthhijbdekboahaaW.PrintLast Go.Proofs.YthhijbdekboahaaW.PrintMore
set_option linter.unusedVariables false
set_option linter.unusedSimpArgs false
def idxF (p : Nat → Bool) : Nat → Nat → List Int
 | _, 0 => []
 | i, d + 1 => (if p i = true then [(i : Int)] else []) ++ idxF p (i + 1) d
theorem idxF_len (p : Nat → Bool) : ∀ d i, (idxF p i d).length ≤ d
 | 0, _ => Nat.le_refl _
 | d + 1, i => by
  have := idxF_len p d (i + 1)
  unfold idxF
  rw [List.length_append]
  split
  ·rw [List.length_singleton]; omega
  ·rw [List.length_nil]; omega
theorem idxF_mem (p : Nat → Bool) : ∀ d i (x : Int), x ∈ idxF p i d ↔ ∃ j : Nat, i ≤ j ∧ j < i + d ∧ p j = true ∧ x = j
 | 0, i, x => by
  unfold idxF
  exact ⟨fun h => absurd h (List.not_mem_nil), fun ⟨j, h1, h2, _⟩ => absurd h2 (by omega)⟩
 | d + 1, i, x => by
  unfold idxF
  rw [List.mem_append, idxF_mem p d (i + 1) x]; constructor
  ·rintro (h | ⟨j, h1, h2, h3⟩)
   ·by_cases c : p i = true
    ·rw [if_pos c, List.mem_singleton] at h
     exact ⟨i, Nat.le_refl _, by omega, c, h⟩
    ·rw [if_neg c] at h
     exact absurd h (List.not_mem_nil)
   ·exact ⟨j, by omega, by omega, h3⟩
  ·rintro ⟨j, h1, h2, h3, h4⟩
   by_cases e : j = i
   ·subst e
    left
    rw [if_pos h3, h4]; exact List.mem_singleton.2 rfl
   ·exact .inr ⟨j, by omega, by omega, h3, h4⟩
theorem idx_loop {β : Type} {f : Nat → List Int → Nat → Option β} {p : Nat → Bool} {e : List Int → Option β} (n K : Nat) (hs : ∀ k X i, K ≤ k → i < n → X.length ≤ i → f (k + 1) X i = if p i = true then f k (X ++ [(i : Int)]) (i + 1) else f k X (i + 1)) (he : ∀ k X, f (k + 1) X n = e X) :
  ∀ d k i X, n - i = d → i ≤ n → X.length ≤ i → d + K < k → f k X i = e (X ++ idxF p i d) := by
 intro d
 induction d with
 | zero =>
  intro k i X hd hi hX hk; obtain ⟨k, rfl⟩ : ∃ m, k = m + 1 := ⟨k - 1, by omega⟩
  have e0 : i = n := by omega
  subst e0; rw [he]
  unfold idxF
  rw [List.append_nil]
 | succ d ih =>
  intro k i X hd hi hX hk; obtain ⟨k, rfl⟩ : ∃ m, k = m + 1 := ⟨k - 1, by omega⟩; rw [hs k X i (by omega) (by omega) hX]
  unfold idxF
  by_cases c : p i = true
  ·rw [if_pos c, if_pos c, ih k (i + 1) _ (by omega) (by omega) Zdi (by omega), List.append_assoc]
  ·rw [if_neg c, if_neg c, ih k (i + 1) _ (by omega) (by omega) (by omega) (by omega), List.nil_append]
def Frame (n0 : Nat) (A : List S104) (B : List S62) (C : List S39) : Prop := A.length ≤ 9223372036854775807 ∧ B.length ≤ 9223372036854775807 ∧ C.length ≤ 9223372036854775807 ∧ Small n0 B
theorem ss_ok {n0 : Nat} {A : List S104} {B : List S62} {C : List S39} (h : Frame n0 A B C) (k : Nat) (hk : 36893488147419103428 ≤ k) : spec_IsShow.f k A B C = some (isShow A B C) := spec_show n0 A B C h.1 h.2.1 h.2.2.1 h.2.2.2 k (by have := h.1; have := h.2.1; have := h.2.2.1; have := h.2.2.2.1; omega)
theorem si_ok {n0 : Nat} {A : List S104} {B : List S62} {C : List S39} (h : Frame n0 A B C) (k : Nat) (hk : 36893488147419103428 ≤ k) : impl_IsShow.f k A B C = some (isShow A B C) := impl_show n0 A B C h.1 h.2.1 h.2.2.1 h.2.2.2 k (by have := h.1; have := h.2.1; have := h.2.2.1; have := h.2.2.2.1; omega)
theorem cu_ok {A : List S104} {B : List S62} {C : List S39} (h : isShow A B C = true) {i : Nat} (hi : i < C.length) : hasBeat A (cu_at C i).f0 (cu_at C i).f1 = true ∧ 0 ≤ find B (cu_at C i).f2 ∧ find B (cu_at C i).f2 < (B.length : Int) ∧ 0 ≤ ftime A B (cu_at C i) ∧ ftime A B (cu_at C i) ≤ 2000000 ∧ art (arOf B (cu_at C i)) = true := by
 obtain ⟨hA, hB, hC, hc⟩ := isShow_true h; obtain ⟨h1, h2, h3, h4⟩ := cueOk_true (hc i hi); have := ftime_range hA hB h2 h1; have := arOf_ok hB h2; exact ⟨h1, h2, this.2, h4, by omega, this.1⟩
theorem rd_arOf (B : List S62) (c : S39) (h : 0 ≤ find B c.f2) : rd_T62 B (find B c.f2) = arOf B c := by
 have := rd_art B (find B c.f2).toNat; rw [show ((find B c.f2).toNat : Int) = find B c.f2 by omega] at this; exact this
theorem cue_time {A : List S104} {B : List S62} {C : List S39} (h : isShow A B C = true) {i : Nat} (hi : i < C.length) (k : Nat) (hk : 100 ≤ k) : spec_l08Time.f k A B C (cu_at C i).f0 (cu_at C i).f1 (cu_at C i).f2 (cu_at C i).f3 = some (ftime A B (cu_at C i)) ∧ impl_firedAt.f k A B C (cu_at C i).f0 (cu_at C i).f1 (cu_at C i).f2 (cu_at C i).f3 = some (ftime A B (cu_at C i)) := by
 obtain ⟨hA, hB, hC, hc⟩ := isShow_true h; obtain ⟨h1, h2, h3, h4⟩ := cueOk_true (hc i hi); refine ⟨spec_ftime hA hB C h2 h1 k hk, ?_⟩; rw [impl_ftime hA hB C _ k hk, if_pos (show 0 ≤ find B (cu_at C i).f2 ∧ hasBeat A (cu_at C i).f0 (cu_at C i).f1 = true from ⟨h2, h1⟩)]
 unfold mx
 rw [if_pos (by omega)]
end Go.Proofs.Ythhijbdekboahaa.F
namespace Go.Proofs.Ythhijbdekboahaa.F
open Go.RowKit Go.Proofs.YthhijbdekboahaaW.PrintWords Go.Proofs.YthhijbdekboahaaW.PrintLast Go.Proofs.YthhijbdekboahaaW.PrintMore
attribute [local go_sem] max2_int min2_int max_two min_two max_three min_three max_four min_four
set_option linter.unusedVariables false
set_option linter.unusedSimpArgs false
def impl_copyShow.f (l0_0 : List (S104)) (l0_1 : List (S62)) (l0_2 : List (S39)) : Option ((List (S104)) × (List (S62)) × (List (S39))) := (some (([] : List (S104)) : List (S104))).bind fun y728 => (if y728.length + l0_0.length < 8796093022208 then ((some (([] : List (S62)) : List (S62))).bind fun y734 => (if y734.length + l0_1.length < 1759218604441 then ((some (([] : List (S39)) : List (S39))).bind fun y740 => (if y740.length + l0_2.length < 3518437208883 then (some ((y728 ++ l0_0), (y734 ++ l0_1), (y740 ++ l0_2))) else (none))) else (none))) else (none))
def impl_AddCue.f (k : Nat) (l0_0 : List (S104)) (l0_1 : List (S62)) (l0_2 : List (S39)) (a1_0 : Int) (a1_1 : Int) (a1_2 : ByteArray) (a1_3 : Int) : Option ((List (S104)) × (List (S62)) × (List (S39)) × Int) := (impl_IsShow.f k l0_0 l0_1 l0_2).bind fun t749 => (if t749 = true then (if (l0_2.length : Int) = 20 then (some (([] : List (S104)), ([] : List (S62)), ([] : List (S39)), 3)) else ((impl_copyShow.f l0_0 l0_1 l0_2).bind fun bt750 => (if bt750.2.2.length < 3518437208883 then ((some (bt750.2.2 ++ [(⟨a1_0, a1_1, a1_2, a1_3⟩ : S39)] : List (S39))).bind fun y760 => ((impl_IsShow.f k bt750.1 bt750.2.1 y760).bind fun t763 => (if t763 = true then (some (bt750.1, bt750.2.1, y760, 0)) else (some (([] : List (S104)), ([] : List (S62)), ([] : List (S39)), 5))))) else (none)))) else (some (([] : List (S104)), ([] : List (S62)), ([] : List (S39)), 1)))
end Go.Proofs.Ythhijbdekboahaa.F
namespace Go.Proofs.Ythhijbdekboahaa.F
open Go.RowKit Go.Proofs.YthhijbdekboahaaW.PrintWords Go.Proofs.YthhijbdekboahaaW.PrintLast Go.Proofs.YthhijbdekboahaaW.PrintMore
set_option linter.unusedVariables false
set_option linter.unusedSimpArgs false
theorem with_ok (A : List S104) (B : List S62) (C D : List S39) (hA : A.length ≤ 1000000) (hB : B.length ≤ 1000000) (hD : D.length ≤ 1000010) : spec_l08With.f A B C D = some (A, B, D) := by
 unfold spec_l08With.f
 simp only [Option.bind_some, List.nil_append, List.length_nil]; rw [if_pos (by omega), if_pos (by omega), if_pos (by omega)]
theorem copy_ok (A : List S104) (B : List S62) (C : List S39) (hA : A.length ≤ 1000000) (hB : B.length ≤ 1000000) (hC : C.length ≤ 1000000) : impl_copyShow.f A B C = some (A, B, C) := by
 unfold impl_copyShow.f
 simp only [Option.bind_some, List.nil_append, List.length_nil]; rw [if_pos (by omega), if_pos (by omega), if_pos (by omega)]
def addR (A : List S104) (B : List S62) (C : List S39) (c : S39) : List S104 × List S62 × List S39 × Int := if isShow A B C = true then (if (C.length : Int) = 20 then ([], [], [], 3) else (if isShow A B (C ++ [c]) = true then (A, B, C ++ [c], 0) else ([], [], [], 5))) else ([], [], [], 1)
theorem add_ok (n0 : Nat) {A : List S104} {B : List S62} {C : List S39} (hF : Frame n0 A B C) (hL : A.length ≤ 1000000 ∧ B.length ≤ 1000000 ∧ C.length ≤ 1000000) (x0 x1 : Int) (x2 : ByteArray) (x3 : Int) (k : Nat) (hk : 36893488147419103528 ≤ k) : spec_AddCue.f k A B C x0 x1 x2 x3 = some (addR A B C ⟨x0, x1, x2, x3⟩) ∧ impl_AddCue.f k A B C x0 x1 x2 x3 = some (addR A B C ⟨x0, x1, x2, x3⟩) := by
 unfold spec_AddCue.f impl_AddCue.f addR
 rw [ss_ok hF k (by omega), si_ok hF k (by omega)]; simp only [Option.bind_some]
 cases h : isShow A B C with
 | false => exact ⟨rfl, rfl⟩
 | true =>
  simp only [if_true]; have hC := (isShow_true h).2.2.1
  by_cases c : (C.length : Int) = 20
  ·rw [if_pos c, if_pos c, if_pos c]; exact ⟨rfl, rfl⟩
  ·have hl : (C ++ [(⟨x0, x1, x2, x3⟩ : S39)]).length = C.length + 1 := by rw [List.length_append, List.length_singleton]
   have hF2 : Frame n0 A B (C ++ [(⟨x0, x1, x2, x3⟩ : S39)]) := ⟨hF.1, hF.2.1, by omega, hF.2.2.2⟩; rw [if_neg c, if_neg c, if_neg c, copy_ok A B C hL.1 hL.2.1 hL.2.2]; simp only [Option.bind_some, List.nil_append, List.length_nil, List.length_singleton]; constructor
   ·rw [if_pos (show 0 + C.length < 3518437208883 by omega), if_pos (show C.length + 1 < 3518437208883 by omega), with_ok A B C _ hL.1 hL.2.1 (by rw [hl]; omega)]
    simp only [Option.bind_some]; rw [ss_ok hF2 k (by omega)]; simp only [Option.bind_some]
    cases isShow A B (C ++ [(⟨x0, x1, x2, x3⟩ : S39)]) <;> rfl
   ·rw [if_pos (show C.length < 3518437208883 by omega), si_ok hF2 k (by omega)]
    simp only [Option.bind_some]
    cases isShow A B (C ++ [(⟨x0, x1, x2, x3⟩ : S39)]) <;> rfl
theorem mem_rd {α : Type} {xs : List α} {z : α} {i : Int} (h0 : 0 ≤ i) (h1 : i < (xs.length : Int)) : xs.getD i.toNat z ∈ xs := by
 rw [List.getD_eq_getElem?_getD, List.getElem?_eq_getElem (show i.toNat < xs.length by omega)]; exact List.getElem_mem _
def SmallArts (B : List S62) : Prop := ∀ x ∈ B, x.f0.size ≤ 100
theorem good_l1 {c : List Int} (hc : Code c) {A : List S104} (hA : GoodBars A) (hA1 : 1 ≤ A.length) (hA6 : A.length ≤ 6) {B : List S62} (hB : B.length ≤ 20) (hS : SmallArts B) :
  ∀ m (C : List S39), C.length + m ≤ 20 → ∀ {a s : Int}, St c a s → ∃ C' a' s', (∀ k, 36893488147419103600 + 2 * m ≤ k → spec_l08Good.l1 k (m : Int) c a s A B C = some (A, B, C', a', s')) ∧ St c a' s' ∧ C'.length ≤ 20 := by
 intro m
 induction m with
 | zero =>
  intro C hC a s h; refine ⟨C, a, s, fun k hk => ?_, h, by omega⟩; obtain ⟨k, rfl⟩ : ∃ m, k = m + 2 := ⟨k - 2, by omega⟩; simp only [spec_l08Good.l1]; rw [if_neg (by omega)]; simp only [spec_l08Good.j2]; rw [if_neg (by decide)]
 | succ m ih =>
  intro C hC a s h
  by_cases hb : (B.length : Int) > 0
  ·obtain ⟨r1, a1, s1, e1, h1, p1, q1⟩ := next_ok hc h (A.length : Int) (by omega)
   have hm := hA _ (mem_rd (z := z104) p1 (show r1 < (A.length : Int) by omega)); obtain ⟨r2, a2, s2, e2, h2, _⟩ := next_ok hc h1 (rd_T104 A r1).f0 (by unfold rd_T104; omega); obtain ⟨r3, a3, s3, e3, h3, p3, q3⟩ := next_ok hc h2 (B.length : Int) (by omega); obtain ⟨r4, a4, s4, e4, h4, _⟩ := next_ok hc h3 12 (by decide); have ha := fun k hk => (add_ok 100 (A := A) (B := B) (C := C) ⟨by omega, by omega, by omega, by decide, hS⟩ ⟨by omega, by omega, by omega⟩ r1 r2 (rd_T62 B r3).f0 r4 k hk).1
   have hw : wrap64 (((m + 1 : Nat) : Int) - 1) = (m : Int) := by rw [w64 (by omega)]; omega
   have run : ∀ k, 36893488147419103600 + 2 * (m + 1) ≤ k + 2 → spec_l08Good.l1 (k + 2) ((m + 1 : Nat) : Int) c a s A B C = if (addR A B C ⟨r1, r2, (rd_T62 B r3).f0, r4⟩).2.2.2 = 0 then spec_l08Good.l1 k (m : Int) c a4 s4 (addR A B C ⟨r1, r2, (rd_T62 B r3).f0, r4⟩).1 (addR A B C ⟨r1, r2, (rd_T62 B r3).f0, r4⟩).2.1 (addR A B C ⟨r1, r2, (rd_T62 B r3).f0, r4⟩).2.2.1 else spec_l08Good.l1 k (m : Int) c a4 s4 A B C := by
    intro k hk; simp only [spec_l08Good.l1]; rw [if_pos (by omega)]; simp only [spec_l08Good.j2]; rw [if_pos (by rw [decide_eq_true_iff]; exact hb), e1, Option.bind_some]; dsimp only; rw [if_pos p1, if_pos (by omega), e2, Option.bind_some]; dsimp only; rw [e3, Option.bind_some]; dsimp only; rw [if_pos p3, if_pos (by omega), e4, Option.bind_some]; dsimp only; rw [ha k (by omega), Option.bind_some, hw]
   by_cases g : isShow A B C = true ∧ ¬ (C.length : Int) = 20 ∧ isShow A B (C ++ [⟨r1, r2, (rd_T62 B r3).f0, r4⟩]) = true
   ·have hR : addR A B C ⟨r1, r2, (rd_T62 B r3).f0, r4⟩ = (A, B, C ++ [⟨r1, r2, (rd_T62 B r3).f0, r4⟩], 0) := by
     unfold addR; rw [if_pos g.1, if_neg g.2.1, if_pos g.2.2]
    obtain ⟨C', a', s', e, hs, hl⟩ := ih (C ++ [⟨r1, r2, (rd_T62 B r3).f0, r4⟩]) Zdi h4; refine ⟨C', a', s', fun k hk => ?_, hs, hl⟩; obtain ⟨k, rfl⟩ : ∃ m, k = m + 2 := ⟨k - 2, by omega⟩; rw [run k hk, hR, if_pos rfl]; exact e k (by omega)
   ·have hR : (addR A B C ⟨r1, r2, (rd_T62 B r3).f0, r4⟩).2.2.2 ≠ 0 := by
     unfold addR
     by_cases g1 : isShow A B C = true
     ·rw [if_pos g1]
      by_cases g2 : (C.length : Int) = 20
      ·rw [if_pos g2]; decide
      ·rw [if_neg g2, if_neg (fun g3 => g ⟨g1, g2, g3⟩)]; decide
     ·rw [if_neg g1]; decide
    obtain ⟨C', a', s', e, hs, hl⟩ := ih C (by omega) h4; refine ⟨C', a', s', fun k hk => ?_, hs, hl⟩; obtain ⟨k, rfl⟩ : ∃ m, k = m + 2 := ⟨k - 2, by omega⟩; rw [run k hk, if_neg hR]; exact e k (by omega)
  ·refine ⟨C, a, s, fun k hk => ?_, h, by omega⟩
   obtain ⟨k, rfl⟩ : ∃ m, k = m + 2 := ⟨k - 2, by omega⟩; simp only [spec_l08Good.l1]; rw [if_pos (by omega)]; simp only [spec_l08Good.j2]; rw [if_neg (by rw [decide_eq_true_iff]; exact hb)]
theorem good_l0 {c : List Int} (hc : Code c) {A : List S104} (hA : GoodBars A) (hA1 : 1 ≤ A.length) (hA6 : A.length ≤ 6) {nm : List ByteArray} (hn : ∀ x ∈ nm, x.size ≤ 100) (hn6 : nm.length ≤ 6) :
  ∀ d i (B : List S62), nm.length - i = d → i ≤ nm.length → B.length + d ≤ 20 → SmallArts B → ∀ {a s : Int}, St c a s → ∃ B' C' a' s', (∀ k, 36893488147419104000 + d ≤ k → spec_l08Good.l0 k nm (i : Int) c a s A B [] = some (A, B', C', a', s')) ∧ St c a' s' ∧ B'.length ≤ 20 ∧ SmallArts B' ∧ C'.length ≤ 20 := by
 intro d
 induction d with
 | zero =>
  intro i B hd hi hB hS a s h; obtain ⟨r, a1, s1, e1, h1, p1, q1⟩ := next_ok hc h 9 (by decide); obtain ⟨C', a', s', e, hs, hl⟩ := good_l1 hc hA hA1 hA6 (B := B) (by omega) hS r.toNat [] (by simp only [List.length_nil]; omega) h1; refine ⟨B, C', a', s', fun k hk => ?_, hs, by omega, hS, hl⟩; obtain ⟨k, rfl⟩ : ∃ m, k = m + 1 := ⟨k - 1, by omega⟩; simp only [spec_l08Good.l0]; rw [if_neg (by omega), e1, Option.bind_some]; dsimp only; have := e k (by omega); rw [show ((r.toNat : Nat) : Int) = r by omega] at this; exact this
 | succ d ih =>
  intro i B hd hi hB hS a s h; obtain ⟨r, a1, s1, e1, h1, p1, q1⟩ := next_ok hc h 3 (by decide)
  have hw : wrap64 ((i : Int) + 1) = ((i + 1 : Nat) : Int) := by rw [w64 (by omega)]; omega
  by_cases g : r > 0
  ·obtain ⟨q2, q3, q4, q5, q6, q7, q8, q9, a2, s2, e2, h2⟩ := good_art hc h1 (rdOf ByteArray.empty nm (i : Int))
   have hz : (rdOf ByteArray.empty nm (i : Int)).size ≤ 100 := hn _ (by unfold rdOf; exact mem_rd (by omega) (by omega))
   obtain ⟨B', C', a', s', e, hs, hb, hS', hl⟩ := ih (i + 1) (B ++ [⟨rdOf ByteArray.empty nm (i : Int), q2, q3, Int.tmod q4 3000, mn q5 (Int.tmod q4 3000), q6, q7, q8, q9⟩]) (by omega) (by omega) Zdi (fun x hx => by
    rcases List.mem_append.mp hx with y | y
    ·exact hS x y
    ·rw [List.mem_singleton] at y; subst y; exact hz) h2
   refine ⟨B', C', a', s', fun k hk => ?_, hs, hb, hS', hl⟩; obtain ⟨k, rfl⟩ : ∃ m, k = m + 1 := ⟨k - 1, by omega⟩; simp only [spec_l08Good.l0]; rw [if_pos (by omega), e1, Option.bind_some]; dsimp only; rw [if_pos g, if_pos (by omega), e2, Option.bind_some]; dsimp only; rw [if_pos (by omega), hw]; exact e k (by omega)
  ·obtain ⟨B', C', a', s', e, hs, hb, hS', hl⟩ := ih (i + 1) B (by omega) (by omega) (by omega) hS h1
   refine ⟨B', C', a', s', fun k hk => ?_, hs, hb, hS', hl⟩; obtain ⟨k, rfl⟩ : ∃ m, k = m + 1 := ⟨k - 1, by omega⟩; simp only [spec_l08Good.l0]; rw [if_pos (by omega), e1, Option.bind_some]; dsimp only; rw [if_neg g, hw]; exact e k (by omega)
theorem good_show {c : List Int} (hc : Code c) {a s : Int} (h : St c a s) : ∃ A B C a' s', (∀ k, 36893488147419104010 ≤ k → spec_l08Good.f k c a s = some (A, B, C, a', s')) ∧ St c a' s' ∧ 1 ≤ A.length ∧ A.length ≤ 6 ∧ B.length ≤ 20 ∧ SmallArts B ∧ C.length ≤ 20 := by
 obtain ⟨A, a1, s1, e1, h1, hA1, hA6, hA⟩ := score_good hc h; obtain ⟨nm, en, hn, hn6⟩ : ∃ nm, spec_l03Names.f = some nm ∧ (∀ x ∈ nm, x.size ≤ 100) ∧ nm.length ≤ 6 := ⟨_, rfl, by decide, by decide⟩; obtain ⟨B, C, a', s', e, hs, hb, hS, hl⟩ := good_l0 hc hA hA1 hA6 hn hn6 nm.length 0 [] (by omega) (by omega) (by simp only [List.length_nil]; omega) (fun x hx => by simp at hx) h1; refine ⟨A, B, C, a', s', fun k hk => ?_, hs, hA1, hA6, hb, hS, hl⟩
 unfold spec_l08Good.f
 rw [e1 k (by omega), Option.bind_some]; dsimp only; rw [en, Option.bind_some]; exact e k (by omega)
theorem draw_art {c : List Int} (hc : Code c) {a s : Int} (h : St c a s) (nm : ByteArray) (hn : nm.size ≤ 100) (hW : ∀ {a s : Int}, St c a s → ∃ w a' s', spec_l01DrawWord.f c a s = some (w, a', s') ∧ St c a' s' ∧ w.size ≤ 100) : ∃ q1 q2 q3 q4 q5 q6 q7 q8 q9 a' s', spec_l03Draw.f c a s nm = some (q1, q2, q3, q4, q5, q6, q7, q8, q9, a', s') ∧ St c a' s' ∧ q1.size ≤ 100 := by
 obtain ⟨q2, q3, q4, q5, q6, q7, q8, q9, a1, s1, e1, h1⟩ := good_art hc h nm; obtain ⟨r, a2, s2, e2, h2, _⟩ := next_ok hc h1 60 (by decide)
 unfold spec_l03Draw.f
 rw [e1, Option.bind_some]; dsimp only; rw [e2, Option.bind_some]; dsimp only
 by_cases g0 : r = 0
 ·obtain ⟨p, a3, s3, e3, h3, _⟩ := pick_ok hc h2 [19, 20, 300, 301] (by simp) (by simp)
  rw [if_pos g0, e3, Option.bind_some]; exact ⟨_, _, _, _, _, _, _, _, _, _, _, rfl, h3, hn⟩
 rw [if_neg g0]
 by_cases g1 : r = 1
 ·obtain ⟨p, a3, s3, e3, h3, _⟩ := pick_ok hc h2 [q4, wrap64 (q4 + 1), (-1)] (by simp) (by simp)
  rw [if_pos g1, e3, Option.bind_some]; exact ⟨_, _, _, _, _, _, _, _, _, _, _, rfl, h3, hn⟩
 rw [if_neg g1]
 by_cases g2 : r = 2
 ·obtain ⟨p, a3, s3, e3, h3, _⟩ := pick_ok hc h2 [0, 50, 51] (by simp) (by simp)
  rw [if_pos g2, e3, Option.bind_some]; exact ⟨_, _, _, _, _, _, _, _, _, _, _, rfl, h3, hn⟩
 rw [if_neg g2]
 by_cases g3 : r = 3
 ·obtain ⟨w, a3, s3, e3, h3, hw⟩ := hW h2
  rw [if_pos g3, e3, Option.bind_some]; exact ⟨_, _, _, _, _, _, _, _, _, _, _, rfl, h3, hw⟩
 rw [if_neg g3]
 by_cases g4 : r = 4
 ·obtain ⟨p, a3, s3, e3, h3, _⟩ := pick_ok hc h2 [0, 100000, 100001] (by simp) (by simp)
  rw [if_pos g4, e3, Option.bind_some]; exact ⟨_, _, _, _, _, _, _, _, _, _, _, rfl, h3, hn⟩
 rw [if_neg g4]; exact ⟨_, _, _, _, _, _, _, _, _, _, _, rfl, h2, hn⟩
theorem word_key {c : List Int} (hc : Code c) {a s : Int} (h : St c a s) (n : Int) (hn : n ≤ 100) (L : List ByteArray) (hL : ∀ x ∈ L, x.size ≤ 100) (hl : (L.length : Int) = n) (h1 : 1 ≤ n) :
  ∃ w a' s', ((some L).bind fun y => (spec_l01Next.f c a s n).bind fun bt => (if 0 ≤ bt.1 then (if bt.1 < (y.length : Int) then (some (rdOf ByteArray.empty y bt.1, bt.2.1, bt.2.2)) else (none)) else (none))) = some (w, a', s') ∧ St c a' s' ∧ w.size ≤ 100 := by
 obtain ⟨r, a1, s1, e1, h2, p1, q1⟩ := next_ok hc h n (by omega); rw [Option.bind_some, e1, Option.bind_some]; dsimp only; rw [if_pos p1, if_pos (by omega)]; exact ⟨_, _, _, rfl, h2, hL _ (by unfold rdOf; exact mem_rd p1 (by omega))⟩
theorem word_draw {c : List Int} (hc : Code c) {a s : Int} (h : St c a s) : ∃ w a' s', spec_l01DrawWord.f c a s = some (w, a', s') ∧ St c a' s' ∧ w.size ≤ 100 := by
 obtain ⟨r, a1, s1, e1, h1, _⟩ := next_ok hc h 24 (by decide)
 unfold spec_l01DrawWord.f
 rw [e1, Option.bind_some]; dsimp only
 by_cases g : r = 0
 ·rw [if_pos g]
  exact word_key hc h1 6 (by decide) _ (by decide) rfl (by decide)
 ·rw [if_neg g]
  obtain ⟨w, a2, s2, e2, h2, hw⟩ : ∃ w a' s', spec_l01Good.f c a1 s1 = some (w, a', s') ∧ St c a' s' ∧ w.size ≤ 100 := by
   unfold spec_l01Good.f
   exact word_key hc h1 12 (by decide) _ (by decide) rfl (by decide)
  rw [e2, Option.bind_some]; exact ⟨w, a2, s2, rfl, h2, hw⟩
theorem draw_loop {c : List Int} (hc : Code c) (A : List S104) (B : List S62) (q : S39) : ∀ d (C : List S39), 30 - C.length = d → C.length ≤ 30 → ∀ {a s : Int}, St c a s → ∃ C' a' s', (∀ k, d + 2 ≤ k → spec_l08Draw.l0 k c a s A B C q.f0 q.f1 q.f2 q.f3 = some (A, B, C', a', s')) ∧ St c a' s' ∧ C'.length ≤ 30 := by
 intro d
 induction d with
 | zero =>
  intro C hd hC a s h; obtain ⟨r, a1, s1, e1, h1, p1, q1⟩ := next_ok hc h 2 (by decide); refine ⟨C, a1, s1, fun k hk => ?_, h1, hC⟩; obtain ⟨k, rfl⟩ : ∃ m, k = m + 1 := ⟨k - 1, by omega⟩; simp only [spec_l08Draw.l0]; rw [e1, Option.bind_some]; dsimp only; rw [w64 (by omega), if_neg (by omega)]
 | succ d ih =>
  intro C hd hC a s h; obtain ⟨r, a1, s1, e1, h1, p1, q1⟩ := next_ok hc h 2 (by decide)
  by_cases g : (C.length : Int) < 20 + r
  ·obtain ⟨C', a', s', e, hs, hl⟩ := ih (C ++ [⟨q.f0, q.f1, q.f2, q.f3⟩]) Zdi Zdi h1
   refine ⟨C', a', s', fun k hk => ?_, hs, hl⟩; obtain ⟨k, rfl⟩ : ∃ m, k = m + 1 := ⟨k - 1, by omega⟩; simp only [spec_l08Draw.l0]; rw [e1, Option.bind_some]; dsimp only; rw [w64 (by omega), if_pos g, if_pos (by omega)]; exact e k (by omega)
  ·refine ⟨C, a1, s1, fun k hk => ?_, h1, hC⟩
   obtain ⟨k, rfl⟩ : ∃ m, k = m + 1 := ⟨k - 1, by omega⟩; simp only [spec_l08Draw.l0]; rw [e1, Option.bind_some]; dsimp only; rw [w64 (by omega), if_neg g]
theorem small_snoc {B : List S62} (hB : SmallArts B) {x : S62} (hx : x.f0.size ≤ 100) : SmallArts (B ++ [x]) := fun y hy => by
 rcases List.mem_append.mp hy with z | z
 ·exact hB y z
 ·rw [List.mem_singleton] at z; subst z; exact hx
theorem list_l1 {c : List Int} (hc : Code c) : ∀ d (i : Nat) (B : List S62), 14 - i = d → i ≤ 14 → B.length + d ≤ 60 → SmallArts B → ∀ {a s : Int}, St c a s → ∃ B' a' s', (∀ k, d + 2 ≤ k → spec_l03List.l1 k B (i : Int) c a s = some (B', a', s')) ∧ St c a' s' ∧ B'.length ≤ 60 ∧ SmallArts B' := by
 intro d
 induction d with
 | zero =>
  intro i B hd hi hB hS a s h; obtain ⟨r, a1, s1, e1, h1, p1, q1⟩ := next_ok hc h 2 (by decide); refine ⟨B, a1, s1, fun k hk => ?_, h1, by omega, hS⟩; obtain ⟨k, rfl⟩ : ∃ m, k = m + 1 := ⟨k - 1, by omega⟩; simp only [spec_l03List.l1]; rw [e1, Option.bind_some]; dsimp only
  by_cases g : (B.length : Int) < wrap64 (12 + r)
  ·rw [if_pos g, if_neg (by omega)]
  ·rw [if_neg g]
 | succ d ih =>
  intro i B hd hi hB hS a s h; obtain ⟨r, a1, s1, e1, h1, p1, q1⟩ := next_ok hc h 2 (by decide)
  by_cases g : (B.length : Int) < wrap64 (12 + r)
  ·have hw : wrap64 ((i : Int) + 1) = ((i + 1 : Nat) : Int) := by rw [w64 (by omega)]; omega
   have hz : ((⟨#[97, 98, 99, 100, 101, 102, 103, 104, 105, 106, 107, 108, 109, 110]⟩ : ByteArray).extract (i : Int).toNat ((i + 1 : Nat) : Int).toNat).size ≤ 14 := by
    rw [ByteArray.size_extract]; have : (⟨#[97, 98, 99, 100, 101, 102, 103, 104, 105, 106, 107, 108, 109, 110]⟩ : ByteArray).size = 14 := rfl
    omega
   obtain ⟨q2, q3, q4, q5, q6, q7, q8, q9, a2, s2, e2, h2⟩ := good_art hc h1 ((⟨#[120]⟩ : ByteArray) ++ ((⟨#[97, 98, 99, 100, 101, 102, 103, 104, 105, 106, 107, 108, 109, 110]⟩ : ByteArray).extract (i : Int).toNat ((i + 1 : Nat) : Int).toNat))
   have hx : ((⟨#[120]⟩ : ByteArray) ++ ((⟨#[97, 98, 99, 100, 101, 102, 103, 104, 105, 106, 107, 108, 109, 110]⟩ : ByteArray).extract (i : Int).toNat ((i + 1 : Nat) : Int).toNat)).size ≤ 100 := by
    rw [ByteArray.size_append]; have : (⟨#[120]⟩ : ByteArray).size = 1 := rfl
    omega
   obtain ⟨B', a', s', e, hs, hl, hS'⟩ := ih (i + 1) (B ++ [⟨_, q2, q3, q4, q5, q6, q7, q8, q9⟩]) (by omega) (by omega) Zdi (small_snoc hS hx) h2; refine ⟨B', a', s', fun k hk => ?_, hs, hl, hS'⟩; obtain ⟨k, rfl⟩ : ∃ m, k = m + 1 := ⟨k - 1, by omega⟩; simp only [spec_l03List.l1]; rw [e1, Option.bind_some]; dsimp only; rw [if_pos g, hw, if_pos (by omega), if_pos (by omega), if_pos (by omega), if_pos (by omega), if_pos (by omega), e2, Option.bind_some]; dsimp only; rw [if_pos (by omega)]; exact e k (by omega)
  ·refine ⟨B, a1, s1, fun k hk => ?_, h1, by omega, hS⟩
   obtain ⟨k, rfl⟩ : ∃ m, k = m + 1 := ⟨k - 1, by omega⟩; simp only [spec_l03List.l1]; rw [e1, Option.bind_some]; dsimp only; rw [if_neg g]
theorem list_l0 {c : List Int} (hc : Code c) {nm : List ByteArray} (hn : ∀ x ∈ nm, x.size ≤ 100) (hn6 : nm.length ≤ 6) : ∀ d (i : Nat) (B : List S62), nm.length - i = d → i ≤ nm.length → B.length + d ≤ 40 → SmallArts B → ∀ {a s : Int}, St c a s → ∃ B' a' s', (∀ k, d + 30 ≤ k → spec_l03List.l0 k B nm (i : Int) c a s = some (B', a', s')) ∧ St c a' s' ∧ B'.length ≤ 60 ∧ SmallArts B' := by
 intro d
 induction d with
 | zero =>
  intro i B hd hi hB hS a s h; obtain ⟨r, a1, s1, e1, h1, p1, q1⟩ := next_ok hc h 30 (by decide)
  by_cases g0 : r = 0
  ·obtain ⟨q2, q3, q4, q5, q6, q7, q8, q9, a2, s2, e2, h2⟩ := good_art hc h1 (⟨#[97, 115, 116, 101, 114]⟩ : ByteArray)
   refine ⟨B ++ [⟨_, q2, q3, q4, q5, q6, q7, q8, q9⟩], a2, s2, fun k hk => ?_, h2, Zdi, small_snoc hS (show (⟨#[97, 115, 116, 101, 114]⟩ : ByteArray).size ≤ 100 by decide)⟩; obtain ⟨k, rfl⟩ : ∃ m, k = m + 1 := ⟨k - 1, by omega⟩; simp only [spec_l03List.l0]; rw [if_neg (by omega), e1, Option.bind_some]; dsimp only; rw [if_pos g0, e2, Option.bind_some]; dsimp only; rw [if_pos (by omega)]
  ·by_cases g1 : r = 1
   ·obtain ⟨B', a', s', e, hs, hl, hS'⟩ := list_l1 hc 14 0 B (by omega) (by omega) (by omega) hS h1
    refine ⟨B', a', s', fun k hk => ?_, hs, hl, hS'⟩; obtain ⟨k, rfl⟩ : ∃ m, k = m + 1 := ⟨k - 1, by omega⟩; simp only [spec_l03List.l0]; rw [if_neg (by omega), e1, Option.bind_some]; dsimp only; rw [if_neg g0, if_pos g1]; exact e k (by omega)
   ·refine ⟨B, a1, s1, fun k hk => ?_, h1, by omega, hS⟩
    obtain ⟨k, rfl⟩ : ∃ m, k = m + 1 := ⟨k - 1, by omega⟩; simp only [spec_l03List.l0]; rw [if_neg (by omega), e1, Option.bind_some]; dsimp only; rw [if_neg g0, if_neg g1]
 | succ d ih =>
  intro i B hd hi hB hS a s h; obtain ⟨r, a1, s1, e1, h1, p1, q1⟩ := next_ok hc h 3 (by decide)
  have hw : wrap64 ((i : Int) + 1) = ((i + 1 : Nat) : Int) := by rw [w64 (by omega)]; omega
  by_cases g : r > 0
  ·have hz : (rdOf ByteArray.empty nm (i : Int)).size ≤ 100 := hn _ (by unfold rdOf; exact mem_rd (by omega) (by omega))
   obtain ⟨q1_, q2, q3, q4, q5, q6, q7, q8, q9, a2, s2, e2, h2, hx⟩ := draw_art hc h1 (rdOf ByteArray.empty nm (i : Int)) hz (fun h => word_draw hc h); obtain ⟨B', a', s', e, hs, hb, hS'⟩ := ih (i + 1) (B ++ [⟨q1_, q2, q3, q4, q5, q6, q7, q8, q9⟩]) (by omega) (by omega) Zdi (small_snoc hS hx) h2; refine ⟨B', a', s', fun k hk => ?_, hs, hb, hS'⟩; obtain ⟨k, rfl⟩ : ∃ m, k = m + 1 := ⟨k - 1, by omega⟩; simp only [spec_l03List.l0]; rw [if_pos (by omega), e1, Option.bind_some]; dsimp only; rw [if_pos g, if_pos (by omega), e2, Option.bind_some]; dsimp only; rw [if_pos (by omega), hw]; exact e k (by omega)
  ·obtain ⟨B', a', s', e, hs, hb, hS'⟩ := ih (i + 1) B (by omega) (by omega) (by omega) hS h1
   refine ⟨B', a', s', fun k hk => ?_, hs, hb, hS'⟩; obtain ⟨k, rfl⟩ : ∃ m, k = m + 1 := ⟨k - 1, by omega⟩; simp only [spec_l03List.l0]; rw [if_pos (by omega), e1, Option.bind_some]; dsimp only; rw [if_neg g, hw]; exact e k (by omega)
theorem list_draw {c : List Int} (hc : Code c) {a s : Int} (h : St c a s) : ∃ B a' s', (∀ k, 40 ≤ k → spec_l03List.f k c a s = some (B, a', s')) ∧ St c a' s' ∧ B.length ≤ 60 ∧ SmallArts B := by
 obtain ⟨nm, en, hn, hn6⟩ : ∃ nm, spec_l03Names.f = some nm ∧ (∀ x ∈ nm, x.size ≤ 100) ∧ nm.length ≤ 6 := ⟨_, rfl, by decide, by decide⟩; obtain ⟨B, a', s', e, hs, hb, hS⟩ := list_l0 hc hn hn6 nm.length 0 [] (by omega) (by omega) (by simp only [List.length_nil]; omega) (fun x hx => by simp at hx) h; refine ⟨B, a', s', fun k hk => ?_, hs, hb, hS⟩
 unfold spec_l03List.f
 rw [en, Option.bind_some]; exact e k (by omega)
theorem show_draw {c : List Int} (hc : Code c) {a s : Int} (h : St c a s) : ∃ A B C a' s', (∀ k, 36893488147419104010 ≤ k → spec_l08Draw.f k c a s = some (A, B, C, a', s')) ∧ St c a' s' ∧ A.length ≤ 60 ∧ B.length ≤ 60 ∧ SmallArts B ∧ C.length ≤ 60 := by
 obtain ⟨A, B, C, a1, s1, e1, h1, hA1, hA6, hB, hS, hC⟩ := good_show hc h; obtain ⟨r, a2, s2, e2, h2, _⟩ := next_ok hc h1 40 (by decide)
 by_cases g0 : r = 0
 ·obtain ⟨A', a3, s3, e3, h3, hl⟩ := score_draw hc h2
  refine ⟨A', B, C, a3, s3, fun k hk => ?_, h3, by omega, by omega, hS, by omega⟩
  unfold spec_l08Draw.f
  rw [e1 k hk, Option.bind_some]; dsimp only; rw [e2, Option.bind_some]; dsimp only; rw [if_pos g0, e3 k (by omega), Option.bind_some]
 by_cases g1 : r = 1
 ·obtain ⟨B', a3, s3, e3, h3, hl, hS'⟩ := list_draw hc h2
  refine ⟨A, B', C, a3, s3, fun k hk => ?_, h3, by omega, by omega, hS', by omega⟩
  unfold spec_l08Draw.f
  rw [e1 k hk, Option.bind_some]; dsimp only; rw [e2, Option.bind_some]; dsimp only; rw [if_neg g0, if_pos g1, e3 k (by omega), Option.bind_some]
 by_cases g2 : r = 2
 ·obtain ⟨r3, a3, s3, e3, h3, _⟩ := next_ok hc h2 8 (by decide)
  obtain ⟨r4, a4, s4, e4, h4, _⟩ := next_ok hc h3 5 (by decide); obtain ⟨r5, a5, s5, e5, h5, _⟩ := next_ok hc h4 14 (by decide); refine ⟨A, B, C ++ [⟨wrap64 (r3 - 1), r4, (⟨#[112, 101, 111, 110, 121]⟩ : ByteArray), wrap64 (r5 - 1)⟩], a5, s5, fun k hk => ?_, h5, by omega, by omega, hS, Zdi⟩
  unfold spec_l08Draw.f
  rw [e1 k hk, Option.bind_some]; dsimp only; rw [e2, Option.bind_some]; dsimp only; rw [if_neg g0, if_neg g1, if_pos g2, e3, Option.bind_some]; dsimp only; rw [e4, Option.bind_some]; dsimp only; rw [e5, Option.bind_some]; dsimp only; rw [if_pos (by omega)]
 by_cases g3 : r = 3
 ·by_cases g4 : (C.length : Int) > 0
  ·obtain ⟨C', a3, s3, e3, h3, hl⟩ := draw_loop hc A B (rd_T39 C 0) (30 - C.length) C rfl (by omega) h2
   refine ⟨A, B, C', a3, s3, fun k hk => ?_, h3, by omega, by omega, hS, by omega⟩
   unfold spec_l08Draw.f
   rw [e1 k hk, Option.bind_some]; dsimp only; rw [e2, Option.bind_some]; dsimp only; rw [if_neg g0, if_neg g1, if_neg g2, if_pos g3, if_pos g4, if_pos (by omega)]; exact e3 k (by omega)
  ·refine ⟨A, B, C, a2, s2, fun k hk => ?_, h2, by omega, by omega, hS, by omega⟩
   unfold spec_l08Draw.f
   rw [e1 k hk, Option.bind_some]; dsimp only; rw [e2, Option.bind_some]; dsimp only; rw [if_neg g0, if_neg g1, if_neg g2, if_pos g3, if_neg g4]
 ·refine ⟨A, B, C, a2, s2, fun k hk => ?_, h2, by omega, by omega, hS, by omega⟩
  unfold spec_l08Draw.f
  rw [e1 k hk, Option.bind_some]; dsimp only; rw [e2, Option.bind_some]; dsimp only; rw [if_neg g0, if_neg g1, if_neg g2, if_neg g3]
theorem has_int_s (X : List Int) (hX : X.length ≤ 4000000) (a : Int) (k : Nat) (hk : X.length < k) : laws_hasInt.f k X a = some (decide (a ∈ X)) := by
 have loop : ∀ d i k, X.length - i = d → i ≤ X.length → d < k → laws_hasInt.l0 k X a (i : Int) = some (decide (a ∈ X.drop i)) := by
  intro d
  induction d with
  | zero =>
   intro i k hd hi hk; obtain ⟨k, rfl⟩ : ∃ m, k = m + 1 := ⟨k - 1, by omega⟩; simp only [laws_hasInt.l0]; rw [if_neg (by omega), List.drop_eq_nil_of_le (by omega)]
   rfl
  | succ d ih =>
   intro i k hd hi hk; obtain ⟨k, rfl⟩ : ∃ m, k = m + 1 := ⟨k - 1, by omega⟩
   have hlt : i < X.length := by omega
   have e : X.drop i = rd X (i : Int) :: X.drop (i + 1) := by
    rw [List.drop_eq_getElem_cons hlt]
    unfold rd
    rw [Int.toNat_natCast, List.getD_eq_getElem?_getD, List.getElem?_eq_getElem hlt]
    rfl
   simp only [laws_hasInt.l0]; rw [if_pos (by omega), if_pos (by omega), w64 (n := (i : Int) + 1) (by omega), e]
   by_cases c : rd X (i : Int) = a
   ·rw [if_pos c, decide_eq_true (List.mem_cons.2 (.inl c.symm))]
   ·rw [if_neg c]
    refine (ih (i + 1) k (by omega) (by omega) (by omega)).trans ?_
    congr 1
    rw [Bool.eq_iff_iff, decide_eq_true_iff, decide_eq_true_iff, List.mem_cons]; exact ⟨fun x => .inr x, fun x => x.elim (fun y => absurd y.symm c) id⟩
 unfold laws_hasInt.f
 exact loop X.length 0 k (by omega) (by omega) hk
theorem like_ints_s (X : List Int) (hX : X.length ≤ 4000000) (k : Nat) (hk : X.length < k) : laws_likeInts.f k X X = some true := by
 have loop : ∀ d i k, X.length - i = d → i ≤ X.length → d < k → laws_likeInts.l0 k X X (i : Int) = some true := by
  intro d
  induction d with
  | zero =>
   intro i k hd hi hk; obtain ⟨k, rfl⟩ : ∃ m, k = m + 1 := ⟨k - 1, by omega⟩; simp only [laws_likeInts.l0]; rw [if_neg (by omega)]
  | succ d ih =>
   intro i k hd hi hk; obtain ⟨k, rfl⟩ : ∃ m, k = m + 1 := ⟨k - 1, by omega⟩; simp only [laws_likeInts.l0]; rw [if_pos (by omega), if_pos (by omega), if_pos (by omega), if_pos trivial, w64 (by omega)]; exact ih (i + 1) k (by omega) (by omega) (by omega)
 unfold laws_likeInts.f
 rw [if_pos rfl]; exact loop X.length 0 k (by omega) (by omega) hk
theorem artFor_ok {A : List S104} {B : List S62} {C : List S39} (h : isShow A B C = true) {i : Nat} (hi : i < C.length) (k : Nat) (hk : 100 ≤ k) : impl_articleFor.f k A B C (cu_at C i).f0 (cu_at C i).f1 (cu_at C i).f2 (cu_at C i).f3 = some ((arOf B (cu_at C i)).f0, (arOf B (cu_at C i)).f1, (arOf B (cu_at C i)).f2, (arOf B (cu_at C i)).f3, (arOf B (cu_at C i)).f4, (arOf B (cu_at C i)).f5, (arOf B (cu_at C i)).f6, (arOf B (cu_at C i)).f7, (arOf B (cu_at C i)).f8) := by
 obtain ⟨h1, h2, h3, _⟩ := cu_ok h hi; have hB := (areArts_true (isShow_true h).2.1).1
 unfold impl_articleFor.f
 rw [impl_find B (by omega) _ k (by omega)]; simp only [Option.bind_some]; rw [if_pos h2, if_pos h3, rd_arOf B _ h2]
def offP (B : List S62) (C : List S39) (tol : Int) (i : Nat) : Bool := decide ((arOf B (cu_at C i)).f4 > tol)
def offs (B : List S62) (C : List S39) (tol : Int) : List Int := idxF (offP B C tol) 0 C.length
def offR (A : List S104) (B : List S62) (C : List S39) (tol : Int) : List Int × Int := if isShow A B C = true then (if inB tol 0 10000 = true then (offs B C tol, 0) else ([], 2)) else ([], 1)
theorem off_ok (n0 : Nat) {A : List S104} {B : List S62} {C : List S39} (hF : Frame n0 A B C) (tol : Int) (k : Nat) (hk : 36893488147419103528 ≤ k) : spec_OffBeat.f k A B C tol = some (offR A B C tol) ∧ impl_OffBeat.f k A B C tol = some (offR A B C tol) := by
 unfold spec_OffBeat.f impl_OffBeat.f offR
 rw [ss_ok hF k (by omega), si_ok hF k (by omega)]; simp only [Option.bind_some, In_eq, Wi_eq]
 cases h : isShow A B C with
 | false => exact ⟨rfl, rfl⟩
 | true =>
  simp only [if_true]
  cases g : inB tol 0 10000 with
  | false => exact ⟨rfl, rfl⟩
  | true =>
   simp only [if_true]; have hC := (isShow_true h).2.2.1; have hB := (areArts_true (isShow_true h).2.1).1; constructor
   ·refine idx_loop (f := fun k X i => spec_OffBeat.l0 k tol X (i : Int) A B C) (p := offP B C tol) (e := fun X => some (X, 0)) C.length 100 (fun k X i hk hi hX => ?_) (fun k X => ?_) C.length k 0 [] (by omega) (by omega) (by simp) (by omega)
    ·obtain ⟨h1, h2, h3, _⟩ := cu_ok h hi
     show spec_OffBeat.l0 (k + 1) tol X (i : Int) A B C = _; simp only [spec_OffBeat.l0]; rw [if_pos (by omega), if_pos (by omega), rd_cue, spec_find B (by omega) _ k (by omega), w64 (n := (i : Int) + 1) (by omega)]; simp only [Option.bind_some]; rw [if_pos h2, if_pos h3, rd_arOf B _ h2]
     unfold offP
     by_cases c : (arOf B (cu_at C i)).f4 > tol
     ·rw [if_pos c, if_pos (by omega), if_pos (decide_eq_true c)]; rfl
     ·rw [if_neg c, if_neg (by rw [decide_eq_false c]; decide)]; rfl
    ·show spec_OffBeat.l0 (k + 1) tol X (C.length : Int) A B C = _
     simp only [spec_OffBeat.l0]; rw [if_neg (by omega)]
   ·refine idx_loop (f := fun k X i => impl_OffBeat.l0 k tol X C (C.length : Int) (i : Int) A B C) (p := offP B C tol) (e := fun X => some (X, 0)) C.length 100 (fun k X i hk hi hX => ?_) (fun k X => ?_) C.length k 0 [] (by omega) (by omega) (by simp) (by omega)
    ·show impl_OffBeat.l0 (k + 1) tol X C (C.length : Int) (i : Int) A B C = _
     simp only [impl_OffBeat.l0]; rw [if_pos (by omega), if_pos (by omega), if_pos (by omega), rd_cue, artFor_ok h hi k hk, w64 (n := (i : Int) + 1) (by omega)]; simp only [Option.bind_some]
     unfold offP
     by_cases c : (arOf B (cu_at C i)).f4 > tol
     ·rw [if_pos c, if_pos (by omega), if_pos (decide_eq_true c)]; rfl
     ·rw [if_neg c, if_neg (by rw [decide_eq_false c]; decide)]; rfl
    ·show impl_OffBeat.l0 (k + 1) tol X C (C.length : Int) (C.length : Int) A B C = _
     simp only [impl_OffBeat.l0]; rw [if_neg (by omega)]
theorem offR_len {A : List S104} {B : List S62} {C : List S39} {tol : Int} (hC : C.length ≤ 1000000) : (offR A B C tol).1.length ≤ 3000000 := by
 unfold offR
 split
 ·split
  ·have := idxF_len (offP B C tol) C.length 0
   show (offs B C tol).length ≤ _
   unfold offs
   omega
  ·simp
 ·simp
theorem shot_range {a : S62} (h : art a = true) {j : Int} (h0 : 0 ≤ j) (h1 : j < a.f5) : 0 ≤ j * a.f6 ∧ j * a.f6 ≤ 490000 := by
 have ha := art_true h; have h2 : 0 ≤ j * a.f6 := Int.mul_nonneg h0 (by omega); have h3 : j * a.f6 ≤ 49 * a.f6 := Int.mul_le_mul_of_nonneg_right (by omega) (by omega)
 omega
def wlo (A : List S104) (B : List S62) (c : S39) (j : Nat) : Int := ftime A B c + (arOf B c).f3 + (j : Int) * (arOf B c).f6 - (arOf B c).f4
def whi (A : List S104) (B : List S62) (c : S39) (j : Nat) : Int := ftime A B c + (arOf B c).f3 + (j : Int) * (arOf B c).f6 + (arOf B c).f4
def wn (B : List S62) (c : S39) : Nat := (arOf B c).f5.toNat
def cueW2 (A : List S104) (B : List S62) (c : S39) : List (List Int) := (List.range (wn B c)).map (fun j => [wlo A B c j, whi A B c j])
def cueW3 (A : List S104) (B : List S62) (c : S39) (x : Int) : List (List Int) := (List.range (wn B c)).map (fun j => [wlo A B c j, whi A B c j, x])
theorem cueW2_len (A : List S104) (B : List S62) (c : S39) : (cueW2 A B c).length = wn B c := by unfold cueW2; rw [List.length_map, List.length_range]
theorem cueW3_len (A : List S104) (B : List S62) (c : S39) (x : Int) : (cueW3 A B c x).length = wn B c := by unfold cueW3; rw [List.length_map, List.length_range]
theorem rdL_map (f : Nat → List Int) (n j : Nat) (h : j < n) : rd_L6 ((List.range n).map f) (j : Int) = f j := by
 unfold rd_L6
 rw [Int.toNat_natCast, List.getD_eq_getElem?_getD, List.getElem?_map, List.getElem?_range h]; rfl
theorem rdL_cue2 (A : List S104) (B : List S62) (c : S39) {j : Nat} (h : j < wn B c) : rd_L6 (cueW2 A B c) (j : Int) = [wlo A B c j, whi A B c j] := rdL_map _ _ _ h
theorem rd_0 (a : Int) (l : List Int) : rd (a :: l) 0 = a := rfl
theorem rd_1 (a b : Int) (l : List Int) : rd (a :: b :: l) 1 = b := rfl
theorem wn_range {A : List S104} {B : List S62} {C : List S39} (h : isShow A B C = true) {i : Nat} (hi : i < C.length) : 1 ≤ wn B (cu_at C i) ∧ wn B (cu_at C i) ≤ 50 ∧ ((wn B (cu_at C i) : Nat) : Int) = (arOf B (cu_at C i)).f5 := by
 obtain ⟨h1, h2, h3, h4, h5, h6⟩ := cu_ok h hi; have ha := art_true h6
 unfold wn
 omega
theorem w_range {A : List S104} {B : List S62} {C : List S39} (h : isShow A B C = true) {i : Nat} (hi : i < C.length) {j : Nat} (hj : j < wn B (cu_at C i)) : 0 ≤ wlo A B (cu_at C i) j ∧ wlo A B (cu_at C i) j ≤ whi A B (cu_at C i) j ∧ whi A B (cu_at C i) j ≤ 3000000 ∧ 0 ≤ (j : Int) * (arOf B (cu_at C i)).f6 ∧ (j : Int) * (arOf B (cu_at C i)).f6 ≤ 490000 := by
 obtain ⟨h1, h2, h3, h4, h5, h6⟩ := cu_ok h hi; have ha := art_true h6; have hn := wn_range h hi; have hs := shot_range h6 (j := (j : Int)) (by omega) (by omega)
 unfold wlo whi
 omega
theorem spec_cue {A : List S104} {B : List S62} {C : List S39} (h : isShow A B C = true) {i : Nat} (hi : i < C.length) (k : Nat) (hk : 300 ≤ k) : spec_l09Cue.f k A B C (i : Int) = some (cueW3 A B (cu_at C i) (i : Int)) := by
 obtain ⟨h1, h2, h3, h4, h5, h6⟩ := cu_ok h hi; have hn := wn_range h hi; have ha := art_true h6; have hB := (areArts_true (isShow_true h).2.1).1; have hC := (isShow_true h).2.2.1
 unfold spec_l09Cue.f
 rw [if_pos (by omega), if_pos (by omega), rd_cue, spec_find B (by omega) _ k (by omega)]; simp only [Option.bind_some]; rw [if_pos h2, if_pos h3, rd_arOf B _ h2]
 have st : ∀ d k j, wn B (cu_at C i) - j = d → j ≤ wn B (cu_at C i) → d + 110 ≤ k → spec_l09Cue.l0 k (i : Int) ((List.range j).map (fun j => [wlo A B (cu_at C i) j, whi A B (cu_at C i) j, (i : Int)])) (j : Int) A B C (cu_at C i).f0 (cu_at C i).f1 (cu_at C i).f2 (cu_at C i).f3 (arOf B (cu_at C i)).f0 (arOf B (cu_at C i)).f1 (arOf B (cu_at C i)).f2 (arOf B (cu_at C i)).f3 (arOf B (cu_at C i)).f4 (arOf B (cu_at C i)).f5 (arOf B (cu_at C i)).f6 (arOf B (cu_at C i)).f7 (arOf B (cu_at C i)).f8 = some (cueW3 A B (cu_at C i) (i : Int)) := by
  intro d
  induction d with
  | zero =>
   intro k j hd hj hk; obtain ⟨k, rfl⟩ : ∃ m, k = m + 1 := ⟨k - 1, by omega⟩; simp only [spec_l09Cue.l0]; rw [if_neg (by omega)]
   have e : j = wn B (cu_at C i) := by omega
   subst e
   rfl
  | succ d ih =>
   intro k j hd hj hk; obtain ⟨k, rfl⟩ : ∃ m, k = m + 1 := ⟨k - 1, by omega⟩; have r := w_range h hi (show j < wn B (cu_at C i) by omega); have nx := ih k (j + 1) (by omega) (by omega) (by omega); rw [List.range_succ, List.map_append, List.map_singleton] at nx; simp only [spec_l09Cue.l0]; rw [if_pos (by omega), (cue_time h hi k (by omega)).1, w64 (n := (j : Int) + 1) (by omega)]; simp only [Option.bind_some, spec_l03Window.f]; have el : wlo A B (cu_at C i) j = ftime A B (cu_at C i) + (arOf B (cu_at C i)).f3 + (j : Int) * (arOf B (cu_at C i)).f6 - (arOf B (cu_at C i)).f4 := rfl; have eh : whi A B (cu_at C i) j = ftime A B (cu_at C i) + (arOf B (cu_at C i)).f3 + (j : Int) * (arOf B (cu_at C i)).f6 + (arOf B (cu_at C i)).f4 := rfl; rw [w64 (n := ftime A B (cu_at C i) + (arOf B (cu_at C i)).f3) (by omega), w64 (n := (j : Int) * (arOf B (cu_at C i)).f6) (by omega), w64 (n := ftime A B (cu_at C i) + (arOf B (cu_at C i)).f3 + (j : Int) * (arOf B (cu_at C i)).f6) (by omega), ← el, ← eh, w64 (n := wlo A B (cu_at C i) j) (by omega), w64 (n := whi A B (cu_at C i) j) (by omega), rd_0, rd_1]; rw [if_pos (by show (0 : Int) < ((2 : Nat) : Int); decide), if_pos (by show (1 : Int) < ((2 : Nat) : Int); decide), if_pos (by rw [List.length_map, List.length_range]; omega)]; exact nx
 exact st (wn B (cu_at C i)) k 0 (by omega) (by omega) (by omega)
theorem impl_cue {A : List S104} {B : List S62} {C : List S39} (h : isShow A B C = true) {i : Nat} (hi : i < C.length) (k : Nat) (hk : 300 ≤ k) : impl_windowsOfCue.f k A B C (cu_at C i).f0 (cu_at C i).f1 (cu_at C i).f2 (cu_at C i).f3 = some (cueW2 A B (cu_at C i)) := by
 obtain ⟨h1, h2, h3, h4, h5, h6⟩ := cu_ok h hi; have hn := wn_range h hi; have ha := art_true h6
 unfold impl_windowsOfCue.f impl_shotWindows.f
 rw [artFor_ok h hi k (by omega)]; simp only [Option.bind_some]; rw [(cue_time h hi k (by omega)).2]; simp only [Option.bind_some]
 have st : ∀ d k j, wn B (cu_at C i) - j = d → j ≤ wn B (cu_at C i) → d + 110 ≤ k → impl_shotWindows.l0 k (ftime A B (cu_at C i)) ((List.range j).map (fun j => [wlo A B (cu_at C i) j, whi A B (cu_at C i) j])) (j : Int) (arOf B (cu_at C i)).f0 (arOf B (cu_at C i)).f1 (arOf B (cu_at C i)).f2 (arOf B (cu_at C i)).f3 (arOf B (cu_at C i)).f4 (arOf B (cu_at C i)).f5 (arOf B (cu_at C i)).f6 (arOf B (cu_at C i)).f7 (arOf B (cu_at C i)).f8 = some (cueW2 A B (cu_at C i)) := by
  intro d
  induction d with
  | zero =>
   intro k j hd hj hk; obtain ⟨k, rfl⟩ : ∃ m, k = m + 1 := ⟨k - 1, by omega⟩; simp only [impl_shotWindows.l0]; rw [if_neg (by omega)]
   have e : j = wn B (cu_at C i) := by omega
   subst e
   rfl
  | succ d ih =>
   intro k j hd hj hk; obtain ⟨k, rfl⟩ : ∃ m, k = m + 1 := ⟨k - 1, by omega⟩; have r := w_range h hi (show j < wn B (cu_at C i) by omega); have nx := ih k (j + 1) (by omega) (by omega) (by omega); rw [List.range_succ, List.map_append, List.map_singleton] at nx; simp only [impl_shotWindows.l0]; have el : wlo A B (cu_at C i) j = ftime A B (cu_at C i) + (arOf B (cu_at C i)).f3 + (j : Int) * (arOf B (cu_at C i)).f6 - (arOf B (cu_at C i)).f4 := rfl; have eh : whi A B (cu_at C i) j = ftime A B (cu_at C i) + (arOf B (cu_at C i)).f3 + (j : Int) * (arOf B (cu_at C i)).f6 + (arOf B (cu_at C i)).f4 := rfl; rw [if_pos (by omega), if_pos (by rw [List.length_map, List.length_range]; omega), w64 (n := (j : Int) + 1) (by omega), w64 (n := ftime A B (cu_at C i) + (arOf B (cu_at C i)).f3) (by omega), w64 (n := (j : Int) * (arOf B (cu_at C i)).f6) (by omega), w64 (n := ftime A B (cu_at C i) + (arOf B (cu_at C i)).f3 + (j : Int) * (arOf B (cu_at C i)).f6) (by omega), ← el, ← eh, w64 (n := wlo A B (cu_at C i) j) (by omega), w64 (n := whi A B (cu_at C i) j) (by omega)]; exact nx
 rw [show impl_shotWindows.l0 k (ftime A B (cu_at C i)) ([] : List (List Int)) 0 (arOf B (cu_at C i)).f0 (arOf B (cu_at C i)).f1 (arOf B (cu_at C i)).f2 (arOf B (cu_at C i)).f3 (arOf B (cu_at C i)).f4 (arOf B (cu_at C i)).f5 (arOf B (cu_at C i)).f6 (arOf B (cu_at C i)).f7 (arOf B (cu_at C i)).f8 = some (cueW2 A B (cu_at C i)) from st (wn B (cu_at C i)) k 0 (by omega) (by omega) (by omega)]
 rfl
end Go.Proofs.Ythhijbdekboahaa.F
namespace Go.Proofs.Ythhijbdekboahaa.F
open Go.RowKit Go.Proofs.YthhijbdekboahaaW.PrintWords Go.Proofs.YthhijbdekboahaaW.PrintLast Go.Proofs.YthhijbdekboahaaW.PrintMore
attribute [local go_sem] max2_int min2_int max_two min_two max_three min_three max_four min_four
set_option linter.unusedVariables false
set_option linter.unusedSimpArgs false
end Go.Proofs.Ythhijbdekboahaa.F
namespace Go.Proofs.Ythhijbdekboahaa.F
open Go.RowKit Go.Proofs.YthhijbdekboahaaW.PrintWords Go.Proofs.YthhijbdekboahaaW.PrintLast Go.Proofs.YthhijbdekboahaaW.PrintMore
set_option linter.unusedVariables false
set_option linter.unusedSimpArgs false
theorem rdL_memr {X : List (List Int)} {i : Nat} (h : i < X.length) : rd_L6 X (i : Int) ∈ X := by
 unfold rd_L6
 rw [Int.toNat_natCast, List.getD_eq_getElem?_getD, List.getElem?_eq_getElem h]; exact List.getElem_mem _
theorem like_rows_s (X : List (List Int)) (hX : X.length ≤ 4000000) (hr : ∀ x ∈ X, x.length ≤ 1000) (k : Nat) (hk : X.length + 1100 ≤ k) : laws_likeRows.f k X X = some true := by
 have loop : ∀ d i k, X.length - i = d → i ≤ X.length → d + 1001 < k → laws_likeRows.l0 k X X (i : Int) = some true := by
  intro d
  induction d with
  | zero =>
   intro i k hd hi hk; obtain ⟨k, rfl⟩ : ∃ m, k = m + 1 := ⟨k - 1, by omega⟩; simp only [laws_likeRows.l0]; rw [if_neg (by omega)]
  | succ d ih =>
   intro i k hd hi hk; obtain ⟨k, rfl⟩ : ∃ m, k = m + 1 := ⟨k - 1, by omega⟩; have hl := hr _ (rdL_memr (X := X) (i := i) (by omega)); simp only [laws_likeRows.l0]; rw [if_pos (by omega), if_pos (by omega), if_pos (by omega), like_ints_s _ (by omega) k (by omega), Option.bind_some, if_pos rfl, w64 (by omega)]; exact ih (i + 1) k (by omega) (by omega) (by omega)
 unfold laws_likeRows.f
 rw [if_pos rfl]; exact loop X.length 0 k (by omega) (by omega) (by omega)
theorem wrap_u64 (n : Int) : Go.IntKind.u64.wrap n = n % 18446744073709551616 := by simp [Go.IntKind.wrap, Go.IntKind.bits, Go.IntKind.signed]
theorem mask_ok (x : Int) (h0 : 0 ≤ x) (h1 : x < 2147483648) : 0 ≤ Go.bits .and .u64 x 16777215 ∧ Go.bits .and .u64 x 16777215 ≤ 16777215 := by
 have e := Go.bits_mask .u64 31 (by decide) (fun n a b => by rw [wrap_u64]; exact Int.emod_eq_of_lt a (by omega)) 24 (by decide) x h0 (by omega); rw [show (16777215 : Int) = 2 ^ 24 - 1 by decide, e]
 omega
theorem below_ok {c : List Int} (hc : Code c) (i h n : Int) (hi : 0 ≤ i) (hn : 1 ≤ n ∧ n ≤ 4611686018427387904) : ∃ r i' h', laws_dice_below.f c i h n = some (r, i', h') ∧ 0 ≤ i' ∧ 0 ≤ r ∧ r < n := by
 have hl := hc.1
 unfold laws_dice_below.f
 generalize Go.IntKind.u64.wrap (h * 6364136223846793005) + 1442695040888963407 = z; rw [wrap_u64 z]; have hb := mask_ok (z % 18446744073709551616 / 8589934592) (by omega) (by omega); generalize Go.bits .and .u64 (z % 18446744073709551616 / 8589934592) 16777215 = y at hb ⊢
 have n0 : ¬ n = 0 := by omega
 simp only [if_neg n0]
 by_cases c1 : i < (c.length : Int)
 ·have hr := rd_code hc i
  have p := tmod_nn (a := y + rd c i) (b := n) (by omega) (by omega); rw [if_pos c1, if_pos hi, w64 (n := y) (by omega), w64 (n := rd c i) (by omega), w64 (n := y + rd c i) (by omega), w64 (n := i + 1) (by omega)]; exact ⟨_, _, _, rfl, by omega, p.1, p.2⟩
 ·have p := tmod_nn (a := y) (b := n) (by omega) (by omega)
  rw [if_neg c1, w64 (n := y) (by omega)]; exact ⟨_, _, _, rfl, hi, p.1, p.2⟩
theorem roll_ok {c : List Int} (hc : Code c) (s : Int) : ∃ h, ∀ k, c.length < k → laws_roll.f k c s = some (c, 0, h) := by
 have hl := hc.1
 have loop : ∀ (d i : Nat) (h : Int), c.length - i = d → i ≤ c.length → ∃ h', ∀ k, d < k → laws_roll.l0 k c (i : Int) c 0 h = some (c, 0, h') := by
  intro d
  induction d with
  | zero =>
   intro i h hd hi; refine ⟨h, fun k hk => ?_⟩; obtain ⟨k, rfl⟩ : ∃ m, k = m + 1 := ⟨k - 1, by omega⟩; simp only [laws_roll.l0]; rw [if_neg (by omega)]
  | succ d ih =>
   intro i h hd hi; obtain ⟨h', e⟩ := ih (i + 1) (Go.IntKind.u64.wrap ((Go.IntKind.u64.wrap ((Go.IntKind.u64.wrap (h * 1099511628211)) + (Go.IntKind.u64.wrap (rd c i)))) + 3)) (by omega) (by omega); refine ⟨h', fun k hk => ?_⟩; obtain ⟨k, rfl⟩ : ∃ m, k = m + 1 := ⟨k - 1, by omega⟩; simp only [laws_roll.l0]; rw [if_pos (by omega), if_pos (by omega), w64 (n := (i : Int) + 1) (by omega)]; exact e k (by omega)
 obtain ⟨h', e⟩ := loop c.length 0 _ rfl (Nat.zero_le _); exact ⟨h', fun k hk => e k hk⟩
def allW (A : List S104) (B : List S62) (C : List S39) : Nat → List (List Int)
 | 0 => []
 | i + 1 => allW A B C i ++ cueW3 A B (cu_at C i) (i : Int)
theorem allW_len {A : List S104} {B : List S62} {C : List S39} (h : isShow A B C = true) : ∀ i, i ≤ C.length → (allW A B C i).length ≤ 50 * i
 | 0, _ => Nat.le_refl _
 | i + 1, hi => by
  have := allW_len h i (by omega); have := (wn_range h (show i < C.length by omega)).2.1
  unfold allW
  rw [List.length_append, cueW3_len]; omega
theorem allW_mem {A : List S104} {B : List S62} {C : List S39} : ∀ i w, w ∈ allW A B C i ↔ ∃ a j, a < i ∧ j < wn B (cu_at C a) ∧ w = [wlo A B (cu_at C a) j, whi A B (cu_at C a) j, (a : Int)]
 | 0, w => by
  unfold allW
  exact ⟨fun h => absurd h List.not_mem_nil, fun ⟨a, _, h, _⟩ => absurd h (by omega)⟩
 | i + 1, w => by
  unfold allW
  rw [List.mem_append, allW_mem i w]
  unfold cueW3
  rw [List.mem_map]; constructor
  ·rintro (⟨a, j, h1, h2⟩ | ⟨j, h1, h2⟩)
   ·exact ⟨a, j, by omega, h2⟩
   ·exact ⟨i, j, by omega, List.mem_range.1 h1, h2.symm⟩
  ·rintro ⟨a, j, h1, h2, h3⟩
   by_cases c : a = i
   ·subst c
    exact .inr ⟨j, List.mem_range.2 h2, h3.symm⟩
   ·exact .inl ⟨a, j, by omega, h2, h3⟩
theorem spec_all {A : List S104} {B : List S62} {C : List S39} (h : isShow A B C = true) (k : Nat) (hk : 500 ≤ k) : spec_l09All.f k A B C = some (allW A B C C.length) := by
 have hC := (isShow_true h).2.2.1
 have st : ∀ d k i, C.length - i = d → i ≤ C.length → d + 310 ≤ k → spec_l09All.l0 k (allW A B C i) (i : Int) A B C = some (allW A B C C.length) := by
  intro d
  induction d with
  | zero =>
   intro k i hd hi hk; obtain ⟨k, rfl⟩ : ∃ m, k = m + 1 := ⟨k - 1, by omega⟩; simp only [spec_l09All.l0]; rw [if_neg (by omega), show i = C.length by omega]
  | succ d ih =>
   intro k i hd hi hk; obtain ⟨k, rfl⟩ : ∃ m, k = m + 1 := ⟨k - 1, by omega⟩; have hl := allW_len h i hi; have hw := (wn_range h (show i < C.length by omega)).2.1; have nx := ih k (i + 1) (by omega) (by omega) (by omega); simp only [spec_l09All.l0]; rw [if_pos (by omega), spec_cue h (show i < C.length by omega) k (by omega), w64 (n := (i : Int) + 1) (by omega)]; simp only [Option.bind_some]; rw [if_pos (by rw [cueW3_len]; omega)]; exact nx
 exact st C.length k 0 (by omega) (by omega) (by omega)
theorem impl_all {A : List S104} {B : List S62} {C : List S39} (h : isShow A B C = true) : Evt (fun k => impl_windowsOf.f k A B C = some (allW A B C C.length)) := by
 have hC := (isShow_true h).2.2.1
 have inner : ∀ i, i < C.length → ∀ d j, wn B (cu_at C i) - j = d → j ≤ wn B (cu_at C i) → ∀ k, impl_windowsOf.l1 (k + (d + 1)) (allW A B C i ++ ((List.range j).map (fun j => [wlo A B (cu_at C i) j, whi A B (cu_at C i) j, (i : Int)]))) (i : Int) C (C.length : Int) (i : Int) (cueW2 A B (cu_at C i)) ((wn B (cu_at C i) : Nat) : Int) (j : Int) A B C = impl_windowsOf.l0 k (allW A B C (i + 1)) C (C.length : Int) ((i + 1 : Nat) : Int) A B C := by
  intro i hi d; have hl := allW_len h i (by omega); have hw := (wn_range h hi).2.1
  induction d with
  | zero =>
   intro j hd hj k; simp only [impl_windowsOf.l1]; rw [if_neg (by omega), w64 (n := (i : Int) + 1) (by omega), show j = wn B (cu_at C i) by omega]
   rfl
  | succ d ih =>
   intro j hd hj k; have nx := ih (j + 1) (by omega) (by omega) k; rw [List.range_succ, List.map_append, List.map_singleton, ← List.append_assoc] at nx; rw [← nx, show k + (d + 1 + 1) = (k + (d + 1)) + 1 by omega]; simp only [impl_windowsOf.l1]; rw [if_pos (by omega), if_pos (by omega), cueW2_len, if_pos (by omega), rdL_cue2 _ _ _ (show j < wn B (cu_at C i) by omega), w64 (n := (j : Int) + 1) (by omega), rd_0, rd_1, if_pos (by show (0 : Int) < ((2 : Nat) : Int); decide), if_pos (by show (1 : Int) < ((2 : Nat) : Int); decide), if_pos (by rw [List.length_append, List.length_map, List.length_range]; omega)]
   rfl
 have st : ∀ d i, C.length - i = d → i ≤ C.length → Evt (fun k => impl_windowsOf.l0 k (allW A B C i) C (C.length : Int) (i : Int) A B C = some (allW A B C C.length)) := by
  intro d
  induction d with
  | zero =>
   intro i hd hi; refine Evt.succ (Evt.of fun k => ?_); show impl_windowsOf.l0 (k + 1) _ _ _ (i : Int) _ _ _ = _; simp only [impl_windowsOf.l0]; rw [if_neg (by omega), show i = C.length by omega]
  | succ d ih =>
   intro i hd hi; have hw := (wn_range h (show i < C.length by omega)).2.1; obtain ⟨K, hK⟩ := ih (i + 1) (by omega) (by omega); refine ⟨K + 400, fun k hk => ?_⟩; obtain ⟨k, rfl⟩ : ∃ m, k = (m + (wn B (cu_at C i) + 1)) + 1 := ⟨k - wn B (cu_at C i) - 2, by omega⟩; show impl_windowsOf.l0 (k + (wn B (cu_at C i) + 1) + 1) _ _ _ (i : Int) _ _ _ = _; simp only [impl_windowsOf.l0]; rw [if_pos (by omega), if_pos (by omega), if_pos (by omega), rd_cue, impl_cue h (show i < C.length by omega) _ (by omega)]; simp only [Option.bind_some]; rw [cueW2_len]; have z := inner i (by omega) (wn B (cu_at C i)) 0 (by omega) (by omega) k; rw [show (List.range 0).map (fun j => [wlo A B (cu_at C i) j, whi A B (cu_at C i) j, (i : Int)]) = [] from rfl, List.append_nil] at z; exact z.trans (hK k (by omega))
 obtain ⟨K, hK⟩ := st C.length 0 (by omega) (by omega); exact ⟨K, fun k hk => hK k hk⟩
def winR (A : List S104) (B : List S62) (C : List S39) : List (List Int) × Int := if isShow A B C = true then (allW A B C C.length, 0) else ([], 1)
theorem win_ok (n0 : Nat) {A : List S104} {B : List S62} {C : List S39} (hF : Frame n0 A B C) : Evt (fun k => spec_WindowsOf.f k A B C = some (winR A B C)) ∧ Evt (fun k => impl_WindowsOf.f k A B C = some (winR A B C)) := by
 cases h : isShow A B C with
 | false =>
  refine ⟨⟨36893488147419103528, fun k hk => ?_⟩, ⟨36893488147419103528, fun k hk => ?_⟩⟩
  ·show spec_WindowsOf.f k A B C = _
   unfold spec_WindowsOf.f winR
   rw [ss_ok hF k (by omega), h]; rfl
  ·show impl_WindowsOf.f k A B C = _
   unfold impl_WindowsOf.f winR
   rw [si_ok hF k (by omega), h]; rfl
 | true =>
  obtain ⟨K, hK⟩ := impl_all h; refine ⟨⟨36893488147419103528, fun k hk => ?_⟩, ⟨36893488147419103528 + K, fun k hk => ?_⟩⟩
  ·show spec_WindowsOf.f k A B C = _
   unfold spec_WindowsOf.f winR
   rw [ss_ok hF k (by omega), h]; simp only [Option.bind_some, if_true]; rw [spec_all h k (by omega)]; rfl
  ·show impl_WindowsOf.f k A B C = _
   unfold impl_WindowsOf.f winR
   rw [si_ok hF k (by omega), h]; simp only [Option.bind_some, if_true]; rw [show impl_windowsOf.f k A B C = _ from hK k (by omega)]; rfl
theorem winR_len {A : List S104} {B : List S62} {C : List S39} : (winR A B C).1.length ≤ 1000 ∧ ∀ x ∈ (winR A B C).1, x.length ≤ 3 := by
 unfold winR
 by_cases h : isShow A B C = true
 ·rw [if_pos h]
  have hC := (isShow_true h).2.2.1; refine ⟨by have := allW_len h C.length (Nat.le_refl _); show (allW A B C C.length).length ≤ 1000; omega, fun x hx => ?_⟩; obtain ⟨a, j, _, _, e⟩ := (allW_mem _ _).1 hx; rw [e]; exact Nat.le_refl _
 ·rw [if_neg h]
  exact ⟨by show 0 ≤ 1000; omega, fun x hx => absurd hx List.not_mem_nil⟩
def BestP (C : Int → Int) (S : List Int) (i : Nat) (t n : Int) : Prop := (i = 0 ∧ n = 0 ∧ t = 0) ∨ (1 ≤ n ∧ (∃ j : Nat, j < i ∧ rd S (j : Int) = t ∧ n = C t) ∧ ∀ j : Nat, j < i → C (rd S (j : Int)) ≤ n ∧ (C (rd S (j : Int)) = n → t ≤ rd S (j : Int)))
theorem best_new {C : Int → Int} {S : List Int} {i : Nat} {t n : Int} (h : BestP C S i t n) (hp : 1 ≤ C (rd S (i : Int))) (hn : C (rd S (i : Int)) > n ∨ (C (rd S (i : Int)) = n ∧ rd S (i : Int) < t)) : BestP C S (i + 1) (rd S (i : Int)) (C (rd S (i : Int))) := by
 refine .inr ⟨hp, ⟨i, by omega, rfl, rfl⟩, fun j hj => ?_⟩
 by_cases e : j = i
 ·subst e; exact ⟨Int.le_refl _, fun _ => Int.le_refl _⟩
 ·rcases h with ⟨h1, h2, h3⟩ | ⟨h1, h2, h3⟩
  ·omega
  ·have := h3 j (by omega)
   refine ⟨by omega, fun x => ?_⟩
   rcases hn with y | ⟨y1, y2⟩
   ·omega
   ·have := this.2 (by omega); omega
theorem best_old {C : Int → Int} {S : List Int} {i : Nat} {t n : Int} (h : BestP C S i t n) (hp : 1 ≤ C (rd S (i : Int))) (hn : ¬ C (rd S (i : Int)) > n) (ht : C (rd S (i : Int)) = n → t ≤ rd S (i : Int)) : BestP C S (i + 1) t n := by
 rcases h with ⟨h1, h2, h3⟩ | ⟨h1, ⟨j0, j1, j2⟩, h3⟩
 ·omega
 ·refine .inr ⟨h1, ⟨j0, by omega, j2⟩, fun j hj => ?_⟩
  by_cases e : j = i
  ·subst e; exact ⟨by omega, ht⟩
  ·exact h3 j (by omega)
end Go.Proofs.Ythhijbdekboahaa.F
