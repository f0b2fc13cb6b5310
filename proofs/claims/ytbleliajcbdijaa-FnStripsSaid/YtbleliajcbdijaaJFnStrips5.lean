import Derived.Test.YtbleliajcbdijaaJFnStrips4
import Derived.Below
import Derived.Deep.Draws
import Derived.Deep.AppendLies
import Derived.Maps.AppendAt
import Derived.OwnWalk
import Derived.Laws.BytesArg
import Derived.Laws.MakeOwn
import Derived.Laws.OwnMore
import Derived.Tactics
import Derived.Lib.ConvBytes
import Derived.Laws.Slices
import Derived.WalkKit
import Derived.KernelRfl
import Derived.RowKit3
import Derived.Deep.LoopGhost
import Derived.Deep.QuietTactic
import Derived.BigQuiet
import Derived.WideLaws
import Derived.Deep.DeepCutAuto
import Derived.Deep.CutBlock
import Derived.Deep.RegionHeld3
import Derived.Lib.AppendStr
import Derived.ArgAppend
import Derived.Laws.IdiomCopy
import Derived.RowKit
import Derived.OrdersHeld
import Derived.Laws.BitsLemmas
import Derived.Laws.StructEq
import Derived.Test.YtbleliajcbdijaaProg
namespace Go.Proofs.Ytbleliajcbdijaa.F
open Go.RowKit Go.Proofs.YtbleliajcbdijaaW.PrintWords Go.Proofs.YtbleliajcbdijaaW.PrintLast Go.Proofs.YtbleliajcbdijaaW.PrintMore
attribute [local go_sem] max2_int min2_int max_two min_two max_three min_three max_four min_four   -- for this text's walks alone
set_option linter.unusedVariables false
set_option linter.unusedSimpArgs false
mutual
def laws_FnStrips.j0 : Nat → List Int → Int → Int → Int → Int → Int → Int → Int → Int → Int → Bool → Int → Int → Int → Int → Option (Bool)
 | 0, _, _, _, _, _, _, _, _, _, _, _, _, _, _, _ => none
 | k + 1, x0, x4, x5, x6, x7, x8, x12, x13, x18, x19, x167, x429000, x429001, x429002, x429003 => if x167 = true then (some false) else (if x8 = 0 then (if x6 > 0 then (laws_FnStrips.j1 k x0 x4 x5 x6 x7 true x429000 x429001 x429002 x429003) else (if x7 < 0 then (laws_FnStrips.j1 k x0 x4 x5 x6 x7 true x429000 x429001 x429002 x429003) else (if x6 > x12 then (laws_FnStrips.j1 k x0 x4 x5 x6 x7 true x429000 x429001 x429002 x429003) else (if x7 < x13 then (laws_FnStrips.j1 k x0 x4 x5 x6 x7 true x429000 x429001 x429002 x429003) else (laws_FnStrips.j1 k x0 x4 x5 x6 x7 (decide ((wrap64 (x13 - x12)) < (wrap64 ((wrap64 (x19 - x18)) + (wrap64 (2 * x429003)))))) x429000 x429001 x429002 x429003))))) else (some true))
def laws_FnStrips.j1 : Nat → List Int → Int → Int → Int → Int → Bool → Int → Int → Int → Int → Option (Bool)
 | 0, _, _, _, _, _, _, _, _, _, _ => none
 | k + 1, x0, x4, x5, x6, x7, x198, x429000, x429001, x429002, x429003 => if x198 = true then (some false) else ((laws_roll.f k x0 601).bind fun bt452 => ((laws_dice_below.f bt452.1 bt452.2.1 bt452.2.2 (wrap64 ((wrap64 (x4 + 50000)) + 1))).bind fun bt456 => ((laws_dice_below.f bt452.1 bt456.2.1 bt456.2.2 (wrap64 ((wrap64 (50000 - x5)) + 1))).bind fun bt459 => ((impl_StripOf.f k x429000 x429001 x429002 x429003 (wrap64 (x4 - bt456.1)) (wrap64 (x5 + bt459.1))).bind fun bt462 => (if bt462.2.2 = 0 then (if bt462.1 ≤ x6 then (some (decide (x7 ≤ bt462.2.1))) else (some false)) else (some false))))))
end
def laws_FnStrips.f (k : Nat) (l0 : List Int) : Option (Bool) := (laws_big.f l0).bind fun t421 => (if t421 = true then (some true) else ((spec_DrawStripOf.f k l0).bind fun bt422 => ((impl_StripOf.f k bt422.1 bt422.2.1 bt422.2.2.1 bt422.2.2.2.1 bt422.2.2.2.2.1 bt422.2.2.2.2.2).bind fun bt429 => ((spec_StripOf.f k bt422.1 bt422.2.1 bt422.2.2.1 bt422.2.2.2.1 bt422.2.2.2.2.1 bt422.2.2.2.2.2).bind fun bt432 => ((impl_DebrisRange.f k bt422.1 bt422.2.1 bt422.2.2.1 bt422.2.2.2.1 bt422.2.2.2.2.1 bt422.2.2.2.2.2).bind fun bt435 => ((spec_DebrisRange.f k bt422.1 bt422.2.1 bt422.2.2.1 bt422.2.2.2.1 bt422.2.2.2.2.1 bt422.2.2.2.2.2).bind fun bt438 => ((impl_BurstRange.f k bt422.1 bt422.2.1 bt422.2.2.1 bt422.2.2.2.1 bt422.2.2.2.2.1 bt422.2.2.2.2.2).bind fun bt441 => ((spec_BurstRange.f k bt422.1 bt422.2.1 bt422.2.2.1 bt422.2.2.2.1 bt422.2.2.2.2.1 bt422.2.2.2.2.2).bind fun bt444 => ((impl_DebrisTime.f k bt422.1 bt422.2.1 bt422.2.2.1 bt422.2.2.2.1).bind fun bt447 => ((spec_DebrisTime.f k bt422.1 bt422.2.1 bt422.2.2.1 bt422.2.2.2.1).bind fun bt449 => (if bt429.2.2 = bt432.2.2 then (if bt429.1 = bt432.1 then (if bt429.2.1 = bt432.2.1 then (if bt435.2.2 = bt438.2.2 then (if bt435.1 = bt438.1 then (if bt435.2.1 = bt438.2.1 then (if bt441.2.2 = bt444.2.2 then (if bt441.1 = bt444.1 then (if bt441.2.1 = bt444.2.1 then (if bt447.2 = bt449.2 then (if bt447.1 = bt449.1 then ((impl_IsShot.f bt422.1 bt422.2.1 bt422.2.2.1 bt422.2.2.2.1).bind fun t451 => (if (t451 != (bt449.2 == 0)) = true then (laws_FnStrips.j0 k l0 bt422.2.2.2.2.1 bt422.2.2.2.2.2 bt429.1 bt429.2.1 bt429.2.2 bt435.1 bt435.2.1 bt441.1 bt441.2.1 true bt422.1 bt422.2.1 bt422.2.2.1 bt422.2.2.2.1) else (if bt435.2.2 = bt429.2.2 then (laws_FnStrips.j0 k l0 bt422.2.2.2.2.1 bt422.2.2.2.2.2 bt429.1 bt429.2.1 bt429.2.2 bt435.1 bt435.2.1 bt441.1 bt441.2.1 (bt441.2.2 != bt429.2.2) bt422.1 bt422.2.1 bt422.2.2.1 bt422.2.2.2.1) else (laws_FnStrips.j0 k l0 bt422.2.2.2.2.1 bt422.2.2.2.2.2 bt429.1 bt429.2.1 bt429.2.2 bt435.1 bt435.2.1 bt441.1 bt441.2.1 true bt422.1 bt422.2.1 bt422.2.2.1 bt422.2.2.2.1)))) else (laws_FnStrips.j0 k l0 bt422.2.2.2.2.1 bt422.2.2.2.2.2 bt429.1 bt429.2.1 bt429.2.2 bt435.1 bt435.2.1 bt441.1 bt441.2.1 true bt422.1 bt422.2.1 bt422.2.2.1 bt422.2.2.2.1)) else (laws_FnStrips.j0 k l0 bt422.2.2.2.2.1 bt422.2.2.2.2.2 bt429.1 bt429.2.1 bt429.2.2 bt435.1 bt435.2.1 bt441.1 bt441.2.1 true bt422.1 bt422.2.1 bt422.2.2.1 bt422.2.2.2.1)) else (laws_FnStrips.j0 k l0 bt422.2.2.2.2.1 bt422.2.2.2.2.2 bt429.1 bt429.2.1 bt429.2.2 bt435.1 bt435.2.1 bt441.1 bt441.2.1 true bt422.1 bt422.2.1 bt422.2.2.1 bt422.2.2.2.1)) else (laws_FnStrips.j0 k l0 bt422.2.2.2.2.1 bt422.2.2.2.2.2 bt429.1 bt429.2.1 bt429.2.2 bt435.1 bt435.2.1 bt441.1 bt441.2.1 true bt422.1 bt422.2.1 bt422.2.2.1 bt422.2.2.2.1)) else (laws_FnStrips.j0 k l0 bt422.2.2.2.2.1 bt422.2.2.2.2.2 bt429.1 bt429.2.1 bt429.2.2 bt435.1 bt435.2.1 bt441.1 bt441.2.1 true bt422.1 bt422.2.1 bt422.2.2.1 bt422.2.2.2.1)) else (laws_FnStrips.j0 k l0 bt422.2.2.2.2.1 bt422.2.2.2.2.2 bt429.1 bt429.2.1 bt429.2.2 bt435.1 bt435.2.1 bt441.1 bt441.2.1 true bt422.1 bt422.2.1 bt422.2.2.1 bt422.2.2.2.1)) else (laws_FnStrips.j0 k l0 bt422.2.2.2.2.1 bt422.2.2.2.2.2 bt429.1 bt429.2.1 bt429.2.2 bt435.1 bt435.2.1 bt441.1 bt441.2.1 true bt422.1 bt422.2.1 bt422.2.2.1 bt422.2.2.2.1)) else (laws_FnStrips.j0 k l0 bt422.2.2.2.2.1 bt422.2.2.2.2.2 bt429.1 bt429.2.1 bt429.2.2 bt435.1 bt435.2.1 bt441.1 bt441.2.1 true bt422.1 bt422.2.1 bt422.2.2.1 bt422.2.2.2.1)) else (laws_FnStrips.j0 k l0 bt422.2.2.2.2.1 bt422.2.2.2.2.2 bt429.1 bt429.2.1 bt429.2.2 bt435.1 bt435.2.1 bt441.1 bt441.2.1 true bt422.1 bt422.2.1 bt422.2.2.1 bt422.2.2.2.1)) else (laws_FnStrips.j0 k l0 bt422.2.2.2.2.1 bt422.2.2.2.2.2 bt429.1 bt429.2.1 bt429.2.2 bt435.1 bt435.2.1 bt441.1 bt441.2.1 true bt422.1 bt422.2.1 bt422.2.2.1 bt422.2.2.2.1)) else (laws_FnStrips.j0 k l0 bt422.2.2.2.2.1 bt422.2.2.2.2.2 bt429.1 bt429.2.1 bt429.2.2 bt435.1 bt435.2.1 bt441.1 bt441.2.1 true bt422.1 bt422.2.1 bt422.2.2.1 bt422.2.2.2.1))))))))))))
theorem laws_FnStrips.mono_l : ∀ k, (∀ y0 y1 y2 y3 y4 y5 y6 y7 y8 y9 y10 y11 y12 y13 y14, LeO (laws_FnStrips.j0 k y0 y1 y2 y3 y4 y5 y6 y7 y8 y9 y10 y11 y12 y13 y14) (laws_FnStrips.j0 (k + 1) y0 y1 y2 y3 y4 y5 y6 y7 y8 y9 y10 y11 y12 y13 y14)) ∧ (∀ y0 y1 y2 y3 y4 y5 y6 y7 y8 y9, LeO (laws_FnStrips.j1 k y0 y1 y2 y3 y4 y5 y6 y7 y8 y9) (laws_FnStrips.j1 (k + 1) y0 y1 y2 y3 y4 y5 y6 y7 y8 y9))
 | 0 => ⟨fun _ _ _ _ _ _ _ _ _ _ _ _ _ _ _ r h => by simp [laws_FnStrips.j0] at h, fun _ _ _ _ _ _ _ _ _ _ r h => by simp [laws_FnStrips.j1] at h⟩
 | k + 1 => by
  obtain ⟨ih0, ih1⟩ := laws_FnStrips.mono_l k
  refine ⟨?_, ?_⟩
  ·intro y0 y1 y2 y3 y4 y5 y6 y7 y8 y9 y10 y11 y12 y13 y14
   unfold laws_FnStrips.j0
   repeat' first
   | (with_reducible exact ih0 _ _ _ _ _ _ _ _ _ _ _ _ _ _ _)
   | (with_reducible exact ih1 _ _ _ _ _ _ _ _ _ _)
   | (with_reducible exact impl_BurstRange.mono _ _ _ _ _ _ _)
   | (with_reducible exact impl_DebrisRange.mono _ _ _ _ _ _ _)
   | (with_reducible exact impl_DebrisTime.mono _ _ _ _ _)
   | (with_reducible exact impl_StripOf.mono _ _ _ _ _ _ _)
   | (with_reducible exact laws_roll.mono _ _ _)
   | (with_reducible exact spec_BurstRange.mono _ _ _ _ _ _ _)
   | (with_reducible exact spec_DebrisRange.mono _ _ _ _ _ _ _)
   | (with_reducible exact spec_DebrisTime.mono _ _ _ _ _)
   | (with_reducible exact spec_DrawStripOf.mono _ _)
   | (with_reducible exact spec_StripOf.mono _ _ _ _ _ _ _)
   | (with_reducible exact LeO.refl _)
   | (with_reducible exact LeO.none _)
   | (with_reducible refine LeO.ite ?_ ?_)
   | (with_reducible refine LeO.bind ?_ (fun _ => ?_))
   | exact ih0 _ _ _ _ _ _ _ _ _ _ _ _ _ _ _
   | exact ih1 _ _ _ _ _ _ _ _ _ _
   | exact impl_BurstRange.mono _ _ _ _ _ _ _
   | exact impl_DebrisRange.mono _ _ _ _ _ _ _
   | exact impl_DebrisTime.mono _ _ _ _ _
   | exact impl_StripOf.mono _ _ _ _ _ _ _
   | exact laws_roll.mono _ _ _
   | exact spec_BurstRange.mono _ _ _ _ _ _ _
   | exact spec_DebrisRange.mono _ _ _ _ _ _ _
   | exact spec_DebrisTime.mono _ _ _ _ _
   | exact spec_DrawStripOf.mono _ _
   | exact spec_StripOf.mono _ _ _ _ _ _ _
   | exact LeO.none _
   | refine LeO.ite ?_ ?_
   | refine LeO.bind ?_ (fun _ => ?_)
  ·intro y0 y1 y2 y3 y4 y5 y6 y7 y8 y9
   unfold laws_FnStrips.j1
   repeat' first
   | (with_reducible exact ih0 _ _ _ _ _ _ _ _ _ _ _ _ _ _ _)
   | (with_reducible exact ih1 _ _ _ _ _ _ _ _ _ _)
   | (with_reducible exact impl_BurstRange.mono _ _ _ _ _ _ _)
   | (with_reducible exact impl_DebrisRange.mono _ _ _ _ _ _ _)
   | (with_reducible exact impl_DebrisTime.mono _ _ _ _ _)
   | (with_reducible exact impl_StripOf.mono _ _ _ _ _ _ _)
   | (with_reducible exact laws_roll.mono _ _ _)
   | (with_reducible exact spec_BurstRange.mono _ _ _ _ _ _ _)
   | (with_reducible exact spec_DebrisRange.mono _ _ _ _ _ _ _)
   | (with_reducible exact spec_DebrisTime.mono _ _ _ _ _)
   | (with_reducible exact spec_DrawStripOf.mono _ _)
   | (with_reducible exact spec_StripOf.mono _ _ _ _ _ _ _)
   | (with_reducible exact LeO.refl _)
   | (with_reducible exact LeO.none _)
   | (with_reducible refine LeO.ite ?_ ?_)
   | (with_reducible refine LeO.bind ?_ (fun _ => ?_))
   | exact ih0 _ _ _ _ _ _ _ _ _ _ _ _ _ _ _
   | exact ih1 _ _ _ _ _ _ _ _ _ _
   | exact impl_BurstRange.mono _ _ _ _ _ _ _
   | exact impl_DebrisRange.mono _ _ _ _ _ _ _
   | exact impl_DebrisTime.mono _ _ _ _ _
   | exact impl_StripOf.mono _ _ _ _ _ _ _
   | exact laws_roll.mono _ _ _
   | exact spec_BurstRange.mono _ _ _ _ _ _ _
   | exact spec_DebrisRange.mono _ _ _ _ _ _ _
   | exact spec_DebrisTime.mono _ _ _ _ _
   | exact spec_DrawStripOf.mono _ _
   | exact spec_StripOf.mono _ _ _ _ _ _ _
   | exact LeO.none _
   | refine LeO.ite ?_ ?_
   | refine LeO.bind ?_ (fun _ => ?_)
theorem laws_FnStrips.mono : ∀ a0 k, LeO (laws_FnStrips.f k a0) (laws_FnStrips.f (k + 1) a0) := by
 intro a0 k
 obtain ⟨ih0, ih1⟩ := laws_FnStrips.mono_l k
 unfold laws_FnStrips.f
 repeat' first
   | (with_reducible exact ih0 _ _ _ _ _ _ _ _ _ _ _ _ _ _ _)
   | (with_reducible exact ih1 _ _ _ _ _ _ _ _ _ _)
   | (with_reducible exact impl_BurstRange.mono _ _ _ _ _ _ _)
   | (with_reducible exact impl_DebrisRange.mono _ _ _ _ _ _ _)
   | (with_reducible exact impl_DebrisTime.mono _ _ _ _ _)
   | (with_reducible exact impl_StripOf.mono _ _ _ _ _ _ _)
   | (with_reducible exact laws_roll.mono _ _ _)
   | (with_reducible exact spec_BurstRange.mono _ _ _ _ _ _ _)
   | (with_reducible exact spec_DebrisRange.mono _ _ _ _ _ _ _)
   | (with_reducible exact spec_DebrisTime.mono _ _ _ _ _)
   | (with_reducible exact spec_DrawStripOf.mono _ _)
   | (with_reducible exact spec_StripOf.mono _ _ _ _ _ _ _)
   | (with_reducible exact LeO.refl _)
   | (with_reducible exact LeO.none _)
   | (with_reducible refine LeO.ite ?_ ?_)
   | (with_reducible refine LeO.bind ?_ (fun _ => ?_))
   | exact ih0 _ _ _ _ _ _ _ _ _ _ _ _ _ _ _
   | exact ih1 _ _ _ _ _ _ _ _ _ _
   | exact impl_BurstRange.mono _ _ _ _ _ _ _
   | exact impl_DebrisRange.mono _ _ _ _ _ _ _
   | exact impl_DebrisTime.mono _ _ _ _ _
   | exact impl_StripOf.mono _ _ _ _ _ _ _
   | exact laws_roll.mono _ _ _
   | exact spec_BurstRange.mono _ _ _ _ _ _ _
   | exact spec_DebrisRange.mono _ _ _ _ _ _ _
   | exact spec_DebrisTime.mono _ _ _ _ _
   | exact spec_DrawStripOf.mono _ _
   | exact spec_StripOf.mono _ _ _ _ _ _ _
   | exact LeO.none _
   | refine LeO.ite ?_ ?_
   | refine LeO.bind ?_ (fun _ => ?_)
def laws_FnStrips.T19 : Bool × List (List Nat × List Nat) := (true, [([], []), ([], []), ([], []), ([], []), ([3], [3]), ([4], [4]), ([2, 5], [2, 5]), ([1, 6], [1, 6]), ([], []), ([], []), ([], []), ([10], [10]), ([11], [11]), ([9, 12, 6], [9, 12]), ([8, 13], [8, 13]), ([0, 7, 14, 13], [0, 7, 14]), ([15], [15]), ([16], [16]), ([16], [16]), ([16], [16]), ([17, 15, 0, 1, 2, 3, 4, 5, 6, 7, 8, 9, 10, 11, 12, 13, 14, 15, 16, 17], [17]), ([18, 20, 0, 1, 2, 3, 4, 5, 6, 7, 8, 9, 10, 11, 12, 13, 14, 15, 16, 17, 18, 20], [18]), ([19, 21, 0, 1, 2, 3, 4, 5, 6, 7, 8, 9, 10, 11, 12, 13, 14, 15, 16, 17, 18, 19, 20, 21], [19])])
def laws_FnStrips.B19 : List Nat := [0, 0, 0, 0, 8, 24, 60, 126, 0, 0, 0, 1024, 3072, 7804, 16252, 32767, 65535, 131071, 131071, 131071, 262143, 1572863, 4194303]
theorem laws_FnStrips.tab19 : rtab .any (opsOf Try.f4 19) = laws_FnStrips.T19 := by kernel_rfl
theorem laws_FnStrips.bits19 : waitsOk laws_FnStrips.T19.2 laws_FnStrips.B19 = true := by kernel_rfl
theorem laws_FnStrips.j0_true (k : Nat) (x0 : List Int) (x4 : Int) (x5 : Int) (x6 : Int) (x7 : Int) (x8 : Int) (x12 : Int) (x13 : Int) (x18 : Int) (x19 : Int) (x429000 : Int) (x429001 : Int) (x429002 : Int) (x429003 : Int) : ¬ laws_FnStrips.j0 k x0 x4 x5 x6 x7 x8 x12 x13 x18 x19 true x429000 x429001 x429002 x429003 = some true := by
 cases k with
 | zero => simp [laws_FnStrips.j0]
 | succ k => simp [laws_FnStrips.j0]
theorem laws_FnStrips.j1_true (k : Nat) (x0 : List Int) (x4 : Int) (x5 : Int) (x6 : Int) (x7 : Int) (x429000 : Int) (x429001 : Int) (x429002 : Int) (x429003 : Int) : ¬ laws_FnStrips.j1 k x0 x4 x5 x6 x7 true x429000 x429001 x429002 x429003 = some true := by
 cases k with
 | zero => simp [laws_FnStrips.j1]
 | succ k => simp [laws_FnStrips.j1]
set_option maxHeartbeats 8000000 in
set_option maxRecDepth 100000 in
theorem laws_FnStrips.calls (k : Nat) (A0 : Option Addr) (c0 : Nat) (l0 : List Int) (r : Bool) (w : World) (hr0 : Kd.C (Kd.int .u8) w A0 l0.length l0) (hc0 : l0.length ≤ c0) (h : laws_FnStrips.f k l0 = some r) (hr_ : r = true) :
  Calls Try.prog 4 #[.slice A0 l0.length c0] w fun e w' => e = .returned (.bool r) ∧ Below w.heap.size w w' := by
 have HR_ := Aside0.mk hr_
 clear hr_
 have hu25 := Try.underlying25
 have HR0 := Aside0.mk hr0
 have HC0 := Aside0.mk hc0
 clear hr0 hc0
 have HB := Aside0.mk (Below.refl w.heap.size w)
 have H : ((laws_big.f l0).bind fun t421 => (if t421 = true then (some true) else ((spec_DrawStripOf.f k l0).bind fun bt422 => ((impl_StripOf.f k bt422.1 bt422.2.1 bt422.2.2.1 bt422.2.2.2.1 bt422.2.2.2.2.1 bt422.2.2.2.2.2).bind fun bt429 => ((spec_StripOf.f k bt422.1 bt422.2.1 bt422.2.2.1 bt422.2.2.2.1 bt422.2.2.2.2.1 bt422.2.2.2.2.2).bind fun bt432 => ((impl_DebrisRange.f k bt422.1 bt422.2.1 bt422.2.2.1 bt422.2.2.2.1 bt422.2.2.2.2.1 bt422.2.2.2.2.2).bind fun bt435 => ((spec_DebrisRange.f k bt422.1 bt422.2.1 bt422.2.2.1 bt422.2.2.2.1 bt422.2.2.2.2.1 bt422.2.2.2.2.2).bind fun bt438 => ((impl_BurstRange.f k bt422.1 bt422.2.1 bt422.2.2.1 bt422.2.2.2.1 bt422.2.2.2.2.1 bt422.2.2.2.2.2).bind fun bt441 => ((spec_BurstRange.f k bt422.1 bt422.2.1 bt422.2.2.1 bt422.2.2.2.1 bt422.2.2.2.2.1 bt422.2.2.2.2.2).bind fun bt444 => ((impl_DebrisTime.f k bt422.1 bt422.2.1 bt422.2.2.1 bt422.2.2.2.1).bind fun bt447 => ((spec_DebrisTime.f k bt422.1 bt422.2.1 bt422.2.2.1 bt422.2.2.2.1).bind fun bt449 => (if bt429.2.2 = bt432.2.2 then (if bt429.1 = bt432.1 then (if bt429.2.1 = bt432.2.1 then (if bt435.2.2 = bt438.2.2 then (if bt435.1 = bt438.1 then (if bt435.2.1 = bt438.2.1 then (if bt441.2.2 = bt444.2.2 then (if bt441.1 = bt444.1 then (if bt441.2.1 = bt444.2.1 then (if bt447.2 = bt449.2 then (if bt447.1 = bt449.1 then ((impl_IsShot.f bt422.1 bt422.2.1 bt422.2.2.1 bt422.2.2.2.1).bind fun t451 => (if (t451 != (bt449.2 == 0)) = true then (laws_FnStrips.j0 k l0 bt422.2.2.2.2.1 bt422.2.2.2.2.2 bt429.1 bt429.2.1 bt429.2.2 bt435.1 bt435.2.1 bt441.1 bt441.2.1 true bt422.1 bt422.2.1 bt422.2.2.1 bt422.2.2.2.1) else (if bt435.2.2 = bt429.2.2 then (laws_FnStrips.j0 k l0 bt422.2.2.2.2.1 bt422.2.2.2.2.2 bt429.1 bt429.2.1 bt429.2.2 bt435.1 bt435.2.1 bt441.1 bt441.2.1 (bt441.2.2 != bt429.2.2) bt422.1 bt422.2.1 bt422.2.2.1 bt422.2.2.2.1) else (laws_FnStrips.j0 k l0 bt422.2.2.2.2.1 bt422.2.2.2.2.2 bt429.1 bt429.2.1 bt429.2.2 bt435.1 bt435.2.1 bt441.1 bt441.2.1 true bt422.1 bt422.2.1 bt422.2.2.1 bt422.2.2.2.1)))) else (laws_FnStrips.j0 k l0 bt422.2.2.2.2.1 bt422.2.2.2.2.2 bt429.1 bt429.2.1 bt429.2.2 bt435.1 bt435.2.1 bt441.1 bt441.2.1 true bt422.1 bt422.2.1 bt422.2.2.1 bt422.2.2.2.1)) else (laws_FnStrips.j0 k l0 bt422.2.2.2.2.1 bt422.2.2.2.2.2 bt429.1 bt429.2.1 bt429.2.2 bt435.1 bt435.2.1 bt441.1 bt441.2.1 true bt422.1 bt422.2.1 bt422.2.2.1 bt422.2.2.2.1)) else (laws_FnStrips.j0 k l0 bt422.2.2.2.2.1 bt422.2.2.2.2.2 bt429.1 bt429.2.1 bt429.2.2 bt435.1 bt435.2.1 bt441.1 bt441.2.1 true bt422.1 bt422.2.1 bt422.2.2.1 bt422.2.2.2.1)) else (laws_FnStrips.j0 k l0 bt422.2.2.2.2.1 bt422.2.2.2.2.2 bt429.1 bt429.2.1 bt429.2.2 bt435.1 bt435.2.1 bt441.1 bt441.2.1 true bt422.1 bt422.2.1 bt422.2.2.1 bt422.2.2.2.1)) else (laws_FnStrips.j0 k l0 bt422.2.2.2.2.1 bt422.2.2.2.2.2 bt429.1 bt429.2.1 bt429.2.2 bt435.1 bt435.2.1 bt441.1 bt441.2.1 true bt422.1 bt422.2.1 bt422.2.2.1 bt422.2.2.2.1)) else (laws_FnStrips.j0 k l0 bt422.2.2.2.2.1 bt422.2.2.2.2.2 bt429.1 bt429.2.1 bt429.2.2 bt435.1 bt435.2.1 bt441.1 bt441.2.1 true bt422.1 bt422.2.1 bt422.2.2.1 bt422.2.2.2.1)) else (laws_FnStrips.j0 k l0 bt422.2.2.2.2.1 bt422.2.2.2.2.2 bt429.1 bt429.2.1 bt429.2.2 bt435.1 bt435.2.1 bt441.1 bt441.2.1 true bt422.1 bt422.2.1 bt422.2.2.1 bt422.2.2.2.1)) else (laws_FnStrips.j0 k l0 bt422.2.2.2.2.1 bt422.2.2.2.2.2 bt429.1 bt429.2.1 bt429.2.2 bt435.1 bt435.2.1 bt441.1 bt441.2.1 true bt422.1 bt422.2.1 bt422.2.2.1 bt422.2.2.2.1)) else (laws_FnStrips.j0 k l0 bt422.2.2.2.2.1 bt422.2.2.2.2.2 bt429.1 bt429.2.1 bt429.2.2 bt435.1 bt435.2.1 bt441.1 bt441.2.1 true bt422.1 bt422.2.1 bt422.2.2.1 bt422.2.2.2.1)) else (laws_FnStrips.j0 k l0 bt422.2.2.2.2.1 bt422.2.2.2.2.2 bt429.1 bt429.2.1 bt429.2.2 bt435.1 bt435.2.1 bt441.1 bt441.2.1 true bt422.1 bt422.2.1 bt422.2.2.1 bt422.2.2.2.1)) else (laws_FnStrips.j0 k l0 bt422.2.2.2.2.1 bt422.2.2.2.2.2 bt429.1 bt429.2.1 bt429.2.2 bt435.1 bt435.2.1 bt441.1 bt441.2.1 true bt422.1 bt422.2.1 bt422.2.2.1 bt422.2.2.2.1))))))))))))) = some r := h
 clear h
 replace H := Option.bind_eq_some_iff.mp H
 obtain ⟨t421, A20, H⟩ := H
 replace H : (if t421 = true then (some true) else ((spec_DrawStripOf.f k l0).bind fun bt422 => ((impl_StripOf.f k bt422.1 bt422.2.1 bt422.2.2.1 bt422.2.2.2.1 bt422.2.2.2.2.1 bt422.2.2.2.2.2).bind fun bt429 => ((spec_StripOf.f k bt422.1 bt422.2.1 bt422.2.2.1 bt422.2.2.2.1 bt422.2.2.2.2.1 bt422.2.2.2.2.2).bind fun bt432 => ((impl_DebrisRange.f k bt422.1 bt422.2.1 bt422.2.2.1 bt422.2.2.2.1 bt422.2.2.2.2.1 bt422.2.2.2.2.2).bind fun bt435 => ((spec_DebrisRange.f k bt422.1 bt422.2.1 bt422.2.2.1 bt422.2.2.2.1 bt422.2.2.2.2.1 bt422.2.2.2.2.2).bind fun bt438 => ((impl_BurstRange.f k bt422.1 bt422.2.1 bt422.2.2.1 bt422.2.2.2.1 bt422.2.2.2.2.1 bt422.2.2.2.2.2).bind fun bt441 => ((spec_BurstRange.f k bt422.1 bt422.2.1 bt422.2.2.1 bt422.2.2.2.1 bt422.2.2.2.2.1 bt422.2.2.2.2.2).bind fun bt444 => ((impl_DebrisTime.f k bt422.1 bt422.2.1 bt422.2.2.1 bt422.2.2.2.1).bind fun bt447 => ((spec_DebrisTime.f k bt422.1 bt422.2.1 bt422.2.2.1 bt422.2.2.2.1).bind fun bt449 => (if bt429.2.2 = bt432.2.2 then (if bt429.1 = bt432.1 then (if bt429.2.1 = bt432.2.1 then (if bt435.2.2 = bt438.2.2 then (if bt435.1 = bt438.1 then (if bt435.2.1 = bt438.2.1 then (if bt441.2.2 = bt444.2.2 then (if bt441.1 = bt444.1 then (if bt441.2.1 = bt444.2.1 then (if bt447.2 = bt449.2 then (if bt447.1 = bt449.1 then ((impl_IsShot.f bt422.1 bt422.2.1 bt422.2.2.1 bt422.2.2.2.1).bind fun t451 => (if (t451 != (bt449.2 == 0)) = true then (laws_FnStrips.j0 k l0 bt422.2.2.2.2.1 bt422.2.2.2.2.2 bt429.1 bt429.2.1 bt429.2.2 bt435.1 bt435.2.1 bt441.1 bt441.2.1 true bt422.1 bt422.2.1 bt422.2.2.1 bt422.2.2.2.1) else (if bt435.2.2 = bt429.2.2 then (laws_FnStrips.j0 k l0 bt422.2.2.2.2.1 bt422.2.2.2.2.2 bt429.1 bt429.2.1 bt429.2.2 bt435.1 bt435.2.1 bt441.1 bt441.2.1 (bt441.2.2 != bt429.2.2) bt422.1 bt422.2.1 bt422.2.2.1 bt422.2.2.2.1) else (laws_FnStrips.j0 k l0 bt422.2.2.2.2.1 bt422.2.2.2.2.2 bt429.1 bt429.2.1 bt429.2.2 bt435.1 bt435.2.1 bt441.1 bt441.2.1 true bt422.1 bt422.2.1 bt422.2.2.1 bt422.2.2.2.1)))) else (laws_FnStrips.j0 k l0 bt422.2.2.2.2.1 bt422.2.2.2.2.2 bt429.1 bt429.2.1 bt429.2.2 bt435.1 bt435.2.1 bt441.1 bt441.2.1 true bt422.1 bt422.2.1 bt422.2.2.1 bt422.2.2.2.1)) else (laws_FnStrips.j0 k l0 bt422.2.2.2.2.1 bt422.2.2.2.2.2 bt429.1 bt429.2.1 bt429.2.2 bt435.1 bt435.2.1 bt441.1 bt441.2.1 true bt422.1 bt422.2.1 bt422.2.2.1 bt422.2.2.2.1)) else (laws_FnStrips.j0 k l0 bt422.2.2.2.2.1 bt422.2.2.2.2.2 bt429.1 bt429.2.1 bt429.2.2 bt435.1 bt435.2.1 bt441.1 bt441.2.1 true bt422.1 bt422.2.1 bt422.2.2.1 bt422.2.2.2.1)) else (laws_FnStrips.j0 k l0 bt422.2.2.2.2.1 bt422.2.2.2.2.2 bt429.1 bt429.2.1 bt429.2.2 bt435.1 bt435.2.1 bt441.1 bt441.2.1 true bt422.1 bt422.2.1 bt422.2.2.1 bt422.2.2.2.1)) else (laws_FnStrips.j0 k l0 bt422.2.2.2.2.1 bt422.2.2.2.2.2 bt429.1 bt429.2.1 bt429.2.2 bt435.1 bt435.2.1 bt441.1 bt441.2.1 true bt422.1 bt422.2.1 bt422.2.2.1 bt422.2.2.2.1)) else (laws_FnStrips.j0 k l0 bt422.2.2.2.2.1 bt422.2.2.2.2.2 bt429.1 bt429.2.1 bt429.2.2 bt435.1 bt435.2.1 bt441.1 bt441.2.1 true bt422.1 bt422.2.1 bt422.2.2.1 bt422.2.2.2.1)) else (laws_FnStrips.j0 k l0 bt422.2.2.2.2.1 bt422.2.2.2.2.2 bt429.1 bt429.2.1 bt429.2.2 bt435.1 bt435.2.1 bt441.1 bt441.2.1 true bt422.1 bt422.2.1 bt422.2.2.1 bt422.2.2.2.1)) else (laws_FnStrips.j0 k l0 bt422.2.2.2.2.1 bt422.2.2.2.2.2 bt429.1 bt429.2.1 bt429.2.2 bt435.1 bt435.2.1 bt441.1 bt441.2.1 true bt422.1 bt422.2.1 bt422.2.2.1 bt422.2.2.2.1)) else (laws_FnStrips.j0 k l0 bt422.2.2.2.2.1 bt422.2.2.2.2.2 bt429.1 bt429.2.1 bt429.2.2 bt435.1 bt435.2.1 bt441.1 bt441.2.1 true bt422.1 bt422.2.1 bt422.2.2.1 bt422.2.2.2.1)) else (laws_FnStrips.j0 k l0 bt422.2.2.2.2.1 bt422.2.2.2.2.2 bt429.1 bt429.2.1 bt429.2.2 bt435.1 bt435.2.1 bt441.1 bt441.2.1 true bt422.1 bt422.2.1 bt422.2.2.1 bt422.2.2.2.1)) else (laws_FnStrips.j0 k l0 bt422.2.2.2.2.1 bt422.2.2.2.2.2 bt429.1 bt429.2.1 bt429.2.2 bt435.1 bt435.2.1 bt441.1 bt441.2.1 true bt422.1 bt422.2.1 bt422.2.2.1 bt422.2.2.2.1)))))))))))) = some r := H
 have A2 := Aside0.mk A20
 clear A20
 by_cases c3 : t421 = true
 ·subst c3
  have H1 : (some true) = some r := by rw [if_pos rfl] at H; exact H
  clear H
  have H := H1
  clear H1
  obtain rfl := Option.some.inj H
  go_enter Try.func4, Try.ntmps4
  go_wp2_with (first | ((with_reducible refine gate_callee (f := 6) rfl ?_); refine goesL_ (some 33) rfl rfl Try.func6 (by kernel_rfl) rfl #[.slice A0 l0.length c0] rfl (by (try simp only [List.map_toArray, List.map_cons, List.map_nil]); first | done | rfl | (simp only [List.length_drop, List.length_take]; rfl)) ?_; (with_reducible refine (laws_big.calls _ _ l0 true _ ?side1 ?side2 A2.out).mono ?_); (case side1 => repeat (first | exact HR0.out | (with_reducible refine Kd.C_alloc ?_ _) | (with_reducible refine Kd.C_drewN ?_ _) | (with_reducible refine Kd.C_drew ?_))); (case side2 => exact HC0.out); rintro e w' ⟨rfl, ⟨nd, rfl⟩⟩; refine ⟨_, rfl, ?_⟩))
  go_ret
  exact ⟨by first | rfl | (simp [errW_none, errW_some] <;> rfl) | (simp [*, errW_none, errW_some] <;> rfl), by repeat (first | (with_reducible first | exact HB.out | apply below_alloc | apply pw_below_drewN | apply below_drew1) | exact HB.out)⟩
 ·replace c3 := Bool.eq_false_iff.mpr c3
  subst c3
  have H1 : ((spec_DrawStripOf.f k l0).bind fun bt422 => ((impl_StripOf.f k bt422.1 bt422.2.1 bt422.2.2.1 bt422.2.2.2.1 bt422.2.2.2.2.1 bt422.2.2.2.2.2).bind fun bt429 => ((spec_StripOf.f k bt422.1 bt422.2.1 bt422.2.2.1 bt422.2.2.2.1 bt422.2.2.2.2.1 bt422.2.2.2.2.2).bind fun bt432 => ((impl_DebrisRange.f k bt422.1 bt422.2.1 bt422.2.2.1 bt422.2.2.2.1 bt422.2.2.2.2.1 bt422.2.2.2.2.2).bind fun bt435 => ((spec_DebrisRange.f k bt422.1 bt422.2.1 bt422.2.2.1 bt422.2.2.2.1 bt422.2.2.2.2.1 bt422.2.2.2.2.2).bind fun bt438 => ((impl_BurstRange.f k bt422.1 bt422.2.1 bt422.2.2.1 bt422.2.2.2.1 bt422.2.2.2.2.1 bt422.2.2.2.2.2).bind fun bt441 => ((spec_BurstRange.f k bt422.1 bt422.2.1 bt422.2.2.1 bt422.2.2.2.1 bt422.2.2.2.2.1 bt422.2.2.2.2.2).bind fun bt444 => ((impl_DebrisTime.f k bt422.1 bt422.2.1 bt422.2.2.1 bt422.2.2.2.1).bind fun bt447 => ((spec_DebrisTime.f k bt422.1 bt422.2.1 bt422.2.2.1 bt422.2.2.2.1).bind fun bt449 => (if bt429.2.2 = bt432.2.2 then (if bt429.1 = bt432.1 then (if bt429.2.1 = bt432.2.1 then (if bt435.2.2 = bt438.2.2 then (if bt435.1 = bt438.1 then (if bt435.2.1 = bt438.2.1 then (if bt441.2.2 = bt444.2.2 then (if bt441.1 = bt444.1 then (if bt441.2.1 = bt444.2.1 then (if bt447.2 = bt449.2 then (if bt447.1 = bt449.1 then ((impl_IsShot.f bt422.1 bt422.2.1 bt422.2.2.1 bt422.2.2.2.1).bind fun t451 => (if (t451 != (bt449.2 == 0)) = true then (laws_FnStrips.j0 k l0 bt422.2.2.2.2.1 bt422.2.2.2.2.2 bt429.1 bt429.2.1 bt429.2.2 bt435.1 bt435.2.1 bt441.1 bt441.2.1 true bt422.1 bt422.2.1 bt422.2.2.1 bt422.2.2.2.1) else (if bt435.2.2 = bt429.2.2 then (laws_FnStrips.j0 k l0 bt422.2.2.2.2.1 bt422.2.2.2.2.2 bt429.1 bt429.2.1 bt429.2.2 bt435.1 bt435.2.1 bt441.1 bt441.2.1 (bt441.2.2 != bt429.2.2) bt422.1 bt422.2.1 bt422.2.2.1 bt422.2.2.2.1) else (laws_FnStrips.j0 k l0 bt422.2.2.2.2.1 bt422.2.2.2.2.2 bt429.1 bt429.2.1 bt429.2.2 bt435.1 bt435.2.1 bt441.1 bt441.2.1 true bt422.1 bt422.2.1 bt422.2.2.1 bt422.2.2.2.1)))) else (laws_FnStrips.j0 k l0 bt422.2.2.2.2.1 bt422.2.2.2.2.2 bt429.1 bt429.2.1 bt429.2.2 bt435.1 bt435.2.1 bt441.1 bt441.2.1 true bt422.1 bt422.2.1 bt422.2.2.1 bt422.2.2.2.1)) else (laws_FnStrips.j0 k l0 bt422.2.2.2.2.1 bt422.2.2.2.2.2 bt429.1 bt429.2.1 bt429.2.2 bt435.1 bt435.2.1 bt441.1 bt441.2.1 true bt422.1 bt422.2.1 bt422.2.2.1 bt422.2.2.2.1)) else (laws_FnStrips.j0 k l0 bt422.2.2.2.2.1 bt422.2.2.2.2.2 bt429.1 bt429.2.1 bt429.2.2 bt435.1 bt435.2.1 bt441.1 bt441.2.1 true bt422.1 bt422.2.1 bt422.2.2.1 bt422.2.2.2.1)) else (laws_FnStrips.j0 k l0 bt422.2.2.2.2.1 bt422.2.2.2.2.2 bt429.1 bt429.2.1 bt429.2.2 bt435.1 bt435.2.1 bt441.1 bt441.2.1 true bt422.1 bt422.2.1 bt422.2.2.1 bt422.2.2.2.1)) else (laws_FnStrips.j0 k l0 bt422.2.2.2.2.1 bt422.2.2.2.2.2 bt429.1 bt429.2.1 bt429.2.2 bt435.1 bt435.2.1 bt441.1 bt441.2.1 true bt422.1 bt422.2.1 bt422.2.2.1 bt422.2.2.2.1)) else (laws_FnStrips.j0 k l0 bt422.2.2.2.2.1 bt422.2.2.2.2.2 bt429.1 bt429.2.1 bt429.2.2 bt435.1 bt435.2.1 bt441.1 bt441.2.1 true bt422.1 bt422.2.1 bt422.2.2.1 bt422.2.2.2.1)) else (laws_FnStrips.j0 k l0 bt422.2.2.2.2.1 bt422.2.2.2.2.2 bt429.1 bt429.2.1 bt429.2.2 bt435.1 bt435.2.1 bt441.1 bt441.2.1 true bt422.1 bt422.2.1 bt422.2.2.1 bt422.2.2.2.1)) else (laws_FnStrips.j0 k l0 bt422.2.2.2.2.1 bt422.2.2.2.2.2 bt429.1 bt429.2.1 bt429.2.2 bt435.1 bt435.2.1 bt441.1 bt441.2.1 true bt422.1 bt422.2.1 bt422.2.2.1 bt422.2.2.2.1)) else (laws_FnStrips.j0 k l0 bt422.2.2.2.2.1 bt422.2.2.2.2.2 bt429.1 bt429.2.1 bt429.2.2 bt435.1 bt435.2.1 bt441.1 bt441.2.1 true bt422.1 bt422.2.1 bt422.2.2.1 bt422.2.2.2.1)) else (laws_FnStrips.j0 k l0 bt422.2.2.2.2.1 bt422.2.2.2.2.2 bt429.1 bt429.2.1 bt429.2.2 bt435.1 bt435.2.1 bt441.1 bt441.2.1 true bt422.1 bt422.2.1 bt422.2.2.1 bt422.2.2.2.1)) else (laws_FnStrips.j0 k l0 bt422.2.2.2.2.1 bt422.2.2.2.2.2 bt429.1 bt429.2.1 bt429.2.2 bt435.1 bt435.2.1 bt441.1 bt441.2.1 true bt422.1 bt422.2.1 bt422.2.2.1 bt422.2.2.2.1))))))))))) = some r := by rw [if_neg (show ¬ (false = true) by decide)] at H; exact H
  clear H
  have H := H1
  clear H1
  replace H := Option.bind_eq_some_iff.mp H
  obtain ⟨⟨t422, t423, t424, t425, t426, t427⟩, A40, H⟩ := H
  replace H : ((impl_StripOf.f k t422 t423 t424 t425 t426 t427).bind fun bt429 => ((spec_StripOf.f k t422 t423 t424 t425 t426 t427).bind fun bt432 => ((impl_DebrisRange.f k t422 t423 t424 t425 t426 t427).bind fun bt435 => ((spec_DebrisRange.f k t422 t423 t424 t425 t426 t427).bind fun bt438 => ((impl_BurstRange.f k t422 t423 t424 t425 t426 t427).bind fun bt441 => ((spec_BurstRange.f k t422 t423 t424 t425 t426 t427).bind fun bt444 => ((impl_DebrisTime.f k t422 t423 t424 t425).bind fun bt447 => ((spec_DebrisTime.f k t422 t423 t424 t425).bind fun bt449 => (if bt429.2.2 = bt432.2.2 then (if bt429.1 = bt432.1 then (if bt429.2.1 = bt432.2.1 then (if bt435.2.2 = bt438.2.2 then (if bt435.1 = bt438.1 then (if bt435.2.1 = bt438.2.1 then (if bt441.2.2 = bt444.2.2 then (if bt441.1 = bt444.1 then (if bt441.2.1 = bt444.2.1 then (if bt447.2 = bt449.2 then (if bt447.1 = bt449.1 then ((impl_IsShot.f t422 t423 t424 t425).bind fun t451 => (if (t451 != (bt449.2 == 0)) = true then (laws_FnStrips.j0 k l0 t426 t427 bt429.1 bt429.2.1 bt429.2.2 bt435.1 bt435.2.1 bt441.1 bt441.2.1 true t422 t423 t424 t425) else (if bt435.2.2 = bt429.2.2 then (laws_FnStrips.j0 k l0 t426 t427 bt429.1 bt429.2.1 bt429.2.2 bt435.1 bt435.2.1 bt441.1 bt441.2.1 (bt441.2.2 != bt429.2.2) t422 t423 t424 t425) else (laws_FnStrips.j0 k l0 t426 t427 bt429.1 bt429.2.1 bt429.2.2 bt435.1 bt435.2.1 bt441.1 bt441.2.1 true t422 t423 t424 t425)))) else (laws_FnStrips.j0 k l0 t426 t427 bt429.1 bt429.2.1 bt429.2.2 bt435.1 bt435.2.1 bt441.1 bt441.2.1 true t422 t423 t424 t425)) else (laws_FnStrips.j0 k l0 t426 t427 bt429.1 bt429.2.1 bt429.2.2 bt435.1 bt435.2.1 bt441.1 bt441.2.1 true t422 t423 t424 t425)) else (laws_FnStrips.j0 k l0 t426 t427 bt429.1 bt429.2.1 bt429.2.2 bt435.1 bt435.2.1 bt441.1 bt441.2.1 true t422 t423 t424 t425)) else (laws_FnStrips.j0 k l0 t426 t427 bt429.1 bt429.2.1 bt429.2.2 bt435.1 bt435.2.1 bt441.1 bt441.2.1 true t422 t423 t424 t425)) else (laws_FnStrips.j0 k l0 t426 t427 bt429.1 bt429.2.1 bt429.2.2 bt435.1 bt435.2.1 bt441.1 bt441.2.1 true t422 t423 t424 t425)) else (laws_FnStrips.j0 k l0 t426 t427 bt429.1 bt429.2.1 bt429.2.2 bt435.1 bt435.2.1 bt441.1 bt441.2.1 true t422 t423 t424 t425)) else (laws_FnStrips.j0 k l0 t426 t427 bt429.1 bt429.2.1 bt429.2.2 bt435.1 bt435.2.1 bt441.1 bt441.2.1 true t422 t423 t424 t425)) else (laws_FnStrips.j0 k l0 t426 t427 bt429.1 bt429.2.1 bt429.2.2 bt435.1 bt435.2.1 bt441.1 bt441.2.1 true t422 t423 t424 t425)) else (laws_FnStrips.j0 k l0 t426 t427 bt429.1 bt429.2.1 bt429.2.2 bt435.1 bt435.2.1 bt441.1 bt441.2.1 true t422 t423 t424 t425)) else (laws_FnStrips.j0 k l0 t426 t427 bt429.1 bt429.2.1 bt429.2.2 bt435.1 bt435.2.1 bt441.1 bt441.2.1 true t422 t423 t424 t425)) else (laws_FnStrips.j0 k l0 t426 t427 bt429.1 bt429.2.1 bt429.2.2 bt435.1 bt435.2.1 bt441.1 bt441.2.1 true t422 t423 t424 t425)))))))))) = some r := H
  have A4 := Aside0.mk A40
  clear A40
  replace H := Option.bind_eq_some_iff.mp H
  obtain ⟨⟨t429, t430, t431⟩, A50, H⟩ := H
  replace H : ((spec_StripOf.f k t422 t423 t424 t425 t426 t427).bind fun bt432 => ((impl_DebrisRange.f k t422 t423 t424 t425 t426 t427).bind fun bt435 => ((spec_DebrisRange.f k t422 t423 t424 t425 t426 t427).bind fun bt438 => ((impl_BurstRange.f k t422 t423 t424 t425 t426 t427).bind fun bt441 => ((spec_BurstRange.f k t422 t423 t424 t425 t426 t427).bind fun bt444 => ((impl_DebrisTime.f k t422 t423 t424 t425).bind fun bt447 => ((spec_DebrisTime.f k t422 t423 t424 t425).bind fun bt449 => (if t431 = bt432.2.2 then (if t429 = bt432.1 then (if t430 = bt432.2.1 then (if bt435.2.2 = bt438.2.2 then (if bt435.1 = bt438.1 then (if bt435.2.1 = bt438.2.1 then (if bt441.2.2 = bt444.2.2 then (if bt441.1 = bt444.1 then (if bt441.2.1 = bt444.2.1 then (if bt447.2 = bt449.2 then (if bt447.1 = bt449.1 then ((impl_IsShot.f t422 t423 t424 t425).bind fun t451 => (if (t451 != (bt449.2 == 0)) = true then (laws_FnStrips.j0 k l0 t426 t427 t429 t430 t431 bt435.1 bt435.2.1 bt441.1 bt441.2.1 true t422 t423 t424 t425) else (if bt435.2.2 = t431 then (laws_FnStrips.j0 k l0 t426 t427 t429 t430 t431 bt435.1 bt435.2.1 bt441.1 bt441.2.1 (bt441.2.2 != t431) t422 t423 t424 t425) else (laws_FnStrips.j0 k l0 t426 t427 t429 t430 t431 bt435.1 bt435.2.1 bt441.1 bt441.2.1 true t422 t423 t424 t425)))) else (laws_FnStrips.j0 k l0 t426 t427 t429 t430 t431 bt435.1 bt435.2.1 bt441.1 bt441.2.1 true t422 t423 t424 t425)) else (laws_FnStrips.j0 k l0 t426 t427 t429 t430 t431 bt435.1 bt435.2.1 bt441.1 bt441.2.1 true t422 t423 t424 t425)) else (laws_FnStrips.j0 k l0 t426 t427 t429 t430 t431 bt435.1 bt435.2.1 bt441.1 bt441.2.1 true t422 t423 t424 t425)) else (laws_FnStrips.j0 k l0 t426 t427 t429 t430 t431 bt435.1 bt435.2.1 bt441.1 bt441.2.1 true t422 t423 t424 t425)) else (laws_FnStrips.j0 k l0 t426 t427 t429 t430 t431 bt435.1 bt435.2.1 bt441.1 bt441.2.1 true t422 t423 t424 t425)) else (laws_FnStrips.j0 k l0 t426 t427 t429 t430 t431 bt435.1 bt435.2.1 bt441.1 bt441.2.1 true t422 t423 t424 t425)) else (laws_FnStrips.j0 k l0 t426 t427 t429 t430 t431 bt435.1 bt435.2.1 bt441.1 bt441.2.1 true t422 t423 t424 t425)) else (laws_FnStrips.j0 k l0 t426 t427 t429 t430 t431 bt435.1 bt435.2.1 bt441.1 bt441.2.1 true t422 t423 t424 t425)) else (laws_FnStrips.j0 k l0 t426 t427 t429 t430 t431 bt435.1 bt435.2.1 bt441.1 bt441.2.1 true t422 t423 t424 t425)) else (laws_FnStrips.j0 k l0 t426 t427 t429 t430 t431 bt435.1 bt435.2.1 bt441.1 bt441.2.1 true t422 t423 t424 t425)) else (laws_FnStrips.j0 k l0 t426 t427 t429 t430 t431 bt435.1 bt435.2.1 bt441.1 bt441.2.1 true t422 t423 t424 t425))))))))) = some r := H
  have A5 := Aside0.mk A50
  clear A50
  replace H := Option.bind_eq_some_iff.mp H
  obtain ⟨⟨t432, t433, t434⟩, A60, H⟩ := H
  replace H : ((impl_DebrisRange.f k t422 t423 t424 t425 t426 t427).bind fun bt435 => ((spec_DebrisRange.f k t422 t423 t424 t425 t426 t427).bind fun bt438 => ((impl_BurstRange.f k t422 t423 t424 t425 t426 t427).bind fun bt441 => ((spec_BurstRange.f k t422 t423 t424 t425 t426 t427).bind fun bt444 => ((impl_DebrisTime.f k t422 t423 t424 t425).bind fun bt447 => ((spec_DebrisTime.f k t422 t423 t424 t425).bind fun bt449 => (if t431 = t434 then (if t429 = t432 then (if t430 = t433 then (if bt435.2.2 = bt438.2.2 then (if bt435.1 = bt438.1 then (if bt435.2.1 = bt438.2.1 then (if bt441.2.2 = bt444.2.2 then (if bt441.1 = bt444.1 then (if bt441.2.1 = bt444.2.1 then (if bt447.2 = bt449.2 then (if bt447.1 = bt449.1 then ((impl_IsShot.f t422 t423 t424 t425).bind fun t451 => (if (t451 != (bt449.2 == 0)) = true then (laws_FnStrips.j0 k l0 t426 t427 t429 t430 t431 bt435.1 bt435.2.1 bt441.1 bt441.2.1 true t422 t423 t424 t425) else (if bt435.2.2 = t431 then (laws_FnStrips.j0 k l0 t426 t427 t429 t430 t431 bt435.1 bt435.2.1 bt441.1 bt441.2.1 (bt441.2.2 != t431) t422 t423 t424 t425) else (laws_FnStrips.j0 k l0 t426 t427 t429 t430 t431 bt435.1 bt435.2.1 bt441.1 bt441.2.1 true t422 t423 t424 t425)))) else (laws_FnStrips.j0 k l0 t426 t427 t429 t430 t431 bt435.1 bt435.2.1 bt441.1 bt441.2.1 true t422 t423 t424 t425)) else (laws_FnStrips.j0 k l0 t426 t427 t429 t430 t431 bt435.1 bt435.2.1 bt441.1 bt441.2.1 true t422 t423 t424 t425)) else (laws_FnStrips.j0 k l0 t426 t427 t429 t430 t431 bt435.1 bt435.2.1 bt441.1 bt441.2.1 true t422 t423 t424 t425)) else (laws_FnStrips.j0 k l0 t426 t427 t429 t430 t431 bt435.1 bt435.2.1 bt441.1 bt441.2.1 true t422 t423 t424 t425)) else (laws_FnStrips.j0 k l0 t426 t427 t429 t430 t431 bt435.1 bt435.2.1 bt441.1 bt441.2.1 true t422 t423 t424 t425)) else (laws_FnStrips.j0 k l0 t426 t427 t429 t430 t431 bt435.1 bt435.2.1 bt441.1 bt441.2.1 true t422 t423 t424 t425)) else (laws_FnStrips.j0 k l0 t426 t427 t429 t430 t431 bt435.1 bt435.2.1 bt441.1 bt441.2.1 true t422 t423 t424 t425)) else (laws_FnStrips.j0 k l0 t426 t427 t429 t430 t431 bt435.1 bt435.2.1 bt441.1 bt441.2.1 true t422 t423 t424 t425)) else (laws_FnStrips.j0 k l0 t426 t427 t429 t430 t431 bt435.1 bt435.2.1 bt441.1 bt441.2.1 true t422 t423 t424 t425)) else (laws_FnStrips.j0 k l0 t426 t427 t429 t430 t431 bt435.1 bt435.2.1 bt441.1 bt441.2.1 true t422 t423 t424 t425)) else (laws_FnStrips.j0 k l0 t426 t427 t429 t430 t431 bt435.1 bt435.2.1 bt441.1 bt441.2.1 true t422 t423 t424 t425)))))))) = some r := H
  have A6 := Aside0.mk A60
  clear A60
  replace H := Option.bind_eq_some_iff.mp H
  obtain ⟨⟨t435, t436, t437⟩, A70, H⟩ := H
  replace H : ((spec_DebrisRange.f k t422 t423 t424 t425 t426 t427).bind fun bt438 => ((impl_BurstRange.f k t422 t423 t424 t425 t426 t427).bind fun bt441 => ((spec_BurstRange.f k t422 t423 t424 t425 t426 t427).bind fun bt444 => ((impl_DebrisTime.f k t422 t423 t424 t425).bind fun bt447 => ((spec_DebrisTime.f k t422 t423 t424 t425).bind fun bt449 => (if t431 = t434 then (if t429 = t432 then (if t430 = t433 then (if t437 = bt438.2.2 then (if t435 = bt438.1 then (if t436 = bt438.2.1 then (if bt441.2.2 = bt444.2.2 then (if bt441.1 = bt444.1 then (if bt441.2.1 = bt444.2.1 then (if bt447.2 = bt449.2 then (if bt447.1 = bt449.1 then ((impl_IsShot.f t422 t423 t424 t425).bind fun t451 => (if (t451 != (bt449.2 == 0)) = true then (laws_FnStrips.j0 k l0 t426 t427 t429 t430 t431 t435 t436 bt441.1 bt441.2.1 true t422 t423 t424 t425) else (if t437 = t431 then (laws_FnStrips.j0 k l0 t426 t427 t429 t430 t431 t435 t436 bt441.1 bt441.2.1 (bt441.2.2 != t431) t422 t423 t424 t425) else (laws_FnStrips.j0 k l0 t426 t427 t429 t430 t431 t435 t436 bt441.1 bt441.2.1 true t422 t423 t424 t425)))) else (laws_FnStrips.j0 k l0 t426 t427 t429 t430 t431 t435 t436 bt441.1 bt441.2.1 true t422 t423 t424 t425)) else (laws_FnStrips.j0 k l0 t426 t427 t429 t430 t431 t435 t436 bt441.1 bt441.2.1 true t422 t423 t424 t425)) else (laws_FnStrips.j0 k l0 t426 t427 t429 t430 t431 t435 t436 bt441.1 bt441.2.1 true t422 t423 t424 t425)) else (laws_FnStrips.j0 k l0 t426 t427 t429 t430 t431 t435 t436 bt441.1 bt441.2.1 true t422 t423 t424 t425)) else (laws_FnStrips.j0 k l0 t426 t427 t429 t430 t431 t435 t436 bt441.1 bt441.2.1 true t422 t423 t424 t425)) else (laws_FnStrips.j0 k l0 t426 t427 t429 t430 t431 t435 t436 bt441.1 bt441.2.1 true t422 t423 t424 t425)) else (laws_FnStrips.j0 k l0 t426 t427 t429 t430 t431 t435 t436 bt441.1 bt441.2.1 true t422 t423 t424 t425)) else (laws_FnStrips.j0 k l0 t426 t427 t429 t430 t431 t435 t436 bt441.1 bt441.2.1 true t422 t423 t424 t425)) else (laws_FnStrips.j0 k l0 t426 t427 t429 t430 t431 t435 t436 bt441.1 bt441.2.1 true t422 t423 t424 t425)) else (laws_FnStrips.j0 k l0 t426 t427 t429 t430 t431 t435 t436 bt441.1 bt441.2.1 true t422 t423 t424 t425)) else (laws_FnStrips.j0 k l0 t426 t427 t429 t430 t431 t435 t436 bt441.1 bt441.2.1 true t422 t423 t424 t425))))))) = some r := H
  have A7 := Aside0.mk A70
  clear A70
  replace H := Option.bind_eq_some_iff.mp H
  obtain ⟨⟨t438, t439, t440⟩, A80, H⟩ := H
  replace H : ((impl_BurstRange.f k t422 t423 t424 t425 t426 t427).bind fun bt441 => ((spec_BurstRange.f k t422 t423 t424 t425 t426 t427).bind fun bt444 => ((impl_DebrisTime.f k t422 t423 t424 t425).bind fun bt447 => ((spec_DebrisTime.f k t422 t423 t424 t425).bind fun bt449 => (if t431 = t434 then (if t429 = t432 then (if t430 = t433 then (if t437 = t440 then (if t435 = t438 then (if t436 = t439 then (if bt441.2.2 = bt444.2.2 then (if bt441.1 = bt444.1 then (if bt441.2.1 = bt444.2.1 then (if bt447.2 = bt449.2 then (if bt447.1 = bt449.1 then ((impl_IsShot.f t422 t423 t424 t425).bind fun t451 => (if (t451 != (bt449.2 == 0)) = true then (laws_FnStrips.j0 k l0 t426 t427 t429 t430 t431 t435 t436 bt441.1 bt441.2.1 true t422 t423 t424 t425) else (if t437 = t431 then (laws_FnStrips.j0 k l0 t426 t427 t429 t430 t431 t435 t436 bt441.1 bt441.2.1 (bt441.2.2 != t431) t422 t423 t424 t425) else (laws_FnStrips.j0 k l0 t426 t427 t429 t430 t431 t435 t436 bt441.1 bt441.2.1 true t422 t423 t424 t425)))) else (laws_FnStrips.j0 k l0 t426 t427 t429 t430 t431 t435 t436 bt441.1 bt441.2.1 true t422 t423 t424 t425)) else (laws_FnStrips.j0 k l0 t426 t427 t429 t430 t431 t435 t436 bt441.1 bt441.2.1 true t422 t423 t424 t425)) else (laws_FnStrips.j0 k l0 t426 t427 t429 t430 t431 t435 t436 bt441.1 bt441.2.1 true t422 t423 t424 t425)) else (laws_FnStrips.j0 k l0 t426 t427 t429 t430 t431 t435 t436 bt441.1 bt441.2.1 true t422 t423 t424 t425)) else (laws_FnStrips.j0 k l0 t426 t427 t429 t430 t431 t435 t436 bt441.1 bt441.2.1 true t422 t423 t424 t425)) else (laws_FnStrips.j0 k l0 t426 t427 t429 t430 t431 t435 t436 bt441.1 bt441.2.1 true t422 t423 t424 t425)) else (laws_FnStrips.j0 k l0 t426 t427 t429 t430 t431 t435 t436 bt441.1 bt441.2.1 true t422 t423 t424 t425)) else (laws_FnStrips.j0 k l0 t426 t427 t429 t430 t431 t435 t436 bt441.1 bt441.2.1 true t422 t423 t424 t425)) else (laws_FnStrips.j0 k l0 t426 t427 t429 t430 t431 t435 t436 bt441.1 bt441.2.1 true t422 t423 t424 t425)) else (laws_FnStrips.j0 k l0 t426 t427 t429 t430 t431 t435 t436 bt441.1 bt441.2.1 true t422 t423 t424 t425)) else (laws_FnStrips.j0 k l0 t426 t427 t429 t430 t431 t435 t436 bt441.1 bt441.2.1 true t422 t423 t424 t425)))))) = some r := H
  have A8 := Aside0.mk A80
  clear A80
  replace H := Option.bind_eq_some_iff.mp H
  obtain ⟨⟨t441, t442, t443⟩, A90, H⟩ := H
  replace H : ((spec_BurstRange.f k t422 t423 t424 t425 t426 t427).bind fun bt444 => ((impl_DebrisTime.f k t422 t423 t424 t425).bind fun bt447 => ((spec_DebrisTime.f k t422 t423 t424 t425).bind fun bt449 => (if t431 = t434 then (if t429 = t432 then (if t430 = t433 then (if t437 = t440 then (if t435 = t438 then (if t436 = t439 then (if t443 = bt444.2.2 then (if t441 = bt444.1 then (if t442 = bt444.2.1 then (if bt447.2 = bt449.2 then (if bt447.1 = bt449.1 then ((impl_IsShot.f t422 t423 t424 t425).bind fun t451 => (if (t451 != (bt449.2 == 0)) = true then (laws_FnStrips.j0 k l0 t426 t427 t429 t430 t431 t435 t436 t441 t442 true t422 t423 t424 t425) else (if t437 = t431 then (laws_FnStrips.j0 k l0 t426 t427 t429 t430 t431 t435 t436 t441 t442 (t443 != t431) t422 t423 t424 t425) else (laws_FnStrips.j0 k l0 t426 t427 t429 t430 t431 t435 t436 t441 t442 true t422 t423 t424 t425)))) else (laws_FnStrips.j0 k l0 t426 t427 t429 t430 t431 t435 t436 t441 t442 true t422 t423 t424 t425)) else (laws_FnStrips.j0 k l0 t426 t427 t429 t430 t431 t435 t436 t441 t442 true t422 t423 t424 t425)) else (laws_FnStrips.j0 k l0 t426 t427 t429 t430 t431 t435 t436 t441 t442 true t422 t423 t424 t425)) else (laws_FnStrips.j0 k l0 t426 t427 t429 t430 t431 t435 t436 t441 t442 true t422 t423 t424 t425)) else (laws_FnStrips.j0 k l0 t426 t427 t429 t430 t431 t435 t436 t441 t442 true t422 t423 t424 t425)) else (laws_FnStrips.j0 k l0 t426 t427 t429 t430 t431 t435 t436 t441 t442 true t422 t423 t424 t425)) else (laws_FnStrips.j0 k l0 t426 t427 t429 t430 t431 t435 t436 t441 t442 true t422 t423 t424 t425)) else (laws_FnStrips.j0 k l0 t426 t427 t429 t430 t431 t435 t436 t441 t442 true t422 t423 t424 t425)) else (laws_FnStrips.j0 k l0 t426 t427 t429 t430 t431 t435 t436 t441 t442 true t422 t423 t424 t425)) else (laws_FnStrips.j0 k l0 t426 t427 t429 t430 t431 t435 t436 t441 t442 true t422 t423 t424 t425)) else (laws_FnStrips.j0 k l0 t426 t427 t429 t430 t431 t435 t436 t441 t442 true t422 t423 t424 t425))))) = some r := H
  have A9 := Aside0.mk A90
  clear A90
  replace H := Option.bind_eq_some_iff.mp H
  obtain ⟨⟨t444, t445, t446⟩, A100, H⟩ := H
  replace H : ((impl_DebrisTime.f k t422 t423 t424 t425).bind fun bt447 => ((spec_DebrisTime.f k t422 t423 t424 t425).bind fun bt449 => (if t431 = t434 then (if t429 = t432 then (if t430 = t433 then (if t437 = t440 then (if t435 = t438 then (if t436 = t439 then (if t443 = t446 then (if t441 = t444 then (if t442 = t445 then (if bt447.2 = bt449.2 then (if bt447.1 = bt449.1 then ((impl_IsShot.f t422 t423 t424 t425).bind fun t451 => (if (t451 != (bt449.2 == 0)) = true then (laws_FnStrips.j0 k l0 t426 t427 t429 t430 t431 t435 t436 t441 t442 true t422 t423 t424 t425) else (if t437 = t431 then (laws_FnStrips.j0 k l0 t426 t427 t429 t430 t431 t435 t436 t441 t442 (t443 != t431) t422 t423 t424 t425) else (laws_FnStrips.j0 k l0 t426 t427 t429 t430 t431 t435 t436 t441 t442 true t422 t423 t424 t425)))) else (laws_FnStrips.j0 k l0 t426 t427 t429 t430 t431 t435 t436 t441 t442 true t422 t423 t424 t425)) else (laws_FnStrips.j0 k l0 t426 t427 t429 t430 t431 t435 t436 t441 t442 true t422 t423 t424 t425)) else (laws_FnStrips.j0 k l0 t426 t427 t429 t430 t431 t435 t436 t441 t442 true t422 t423 t424 t425)) else (laws_FnStrips.j0 k l0 t426 t427 t429 t430 t431 t435 t436 t441 t442 true t422 t423 t424 t425)) else (laws_FnStrips.j0 k l0 t426 t427 t429 t430 t431 t435 t436 t441 t442 true t422 t423 t424 t425)) else (laws_FnStrips.j0 k l0 t426 t427 t429 t430 t431 t435 t436 t441 t442 true t422 t423 t424 t425)) else (laws_FnStrips.j0 k l0 t426 t427 t429 t430 t431 t435 t436 t441 t442 true t422 t423 t424 t425)) else (laws_FnStrips.j0 k l0 t426 t427 t429 t430 t431 t435 t436 t441 t442 true t422 t423 t424 t425)) else (laws_FnStrips.j0 k l0 t426 t427 t429 t430 t431 t435 t436 t441 t442 true t422 t423 t424 t425)) else (laws_FnStrips.j0 k l0 t426 t427 t429 t430 t431 t435 t436 t441 t442 true t422 t423 t424 t425)) else (laws_FnStrips.j0 k l0 t426 t427 t429 t430 t431 t435 t436 t441 t442 true t422 t423 t424 t425)))) = some r := H
  have A10 := Aside0.mk A100
  clear A100
  replace H := Option.bind_eq_some_iff.mp H
  obtain ⟨⟨t447, t448⟩, A110, H⟩ := H
  replace H : ((spec_DebrisTime.f k t422 t423 t424 t425).bind fun bt449 => (if t431 = t434 then (if t429 = t432 then (if t430 = t433 then (if t437 = t440 then (if t435 = t438 then (if t436 = t439 then (if t443 = t446 then (if t441 = t444 then (if t442 = t445 then (if t448 = bt449.2 then (if t447 = bt449.1 then ((impl_IsShot.f t422 t423 t424 t425).bind fun t451 => (if (t451 != (bt449.2 == 0)) = true then (laws_FnStrips.j0 k l0 t426 t427 t429 t430 t431 t435 t436 t441 t442 true t422 t423 t424 t425) else (if t437 = t431 then (laws_FnStrips.j0 k l0 t426 t427 t429 t430 t431 t435 t436 t441 t442 (t443 != t431) t422 t423 t424 t425) else (laws_FnStrips.j0 k l0 t426 t427 t429 t430 t431 t435 t436 t441 t442 true t422 t423 t424 t425)))) else (laws_FnStrips.j0 k l0 t426 t427 t429 t430 t431 t435 t436 t441 t442 true t422 t423 t424 t425)) else (laws_FnStrips.j0 k l0 t426 t427 t429 t430 t431 t435 t436 t441 t442 true t422 t423 t424 t425)) else (laws_FnStrips.j0 k l0 t426 t427 t429 t430 t431 t435 t436 t441 t442 true t422 t423 t424 t425)) else (laws_FnStrips.j0 k l0 t426 t427 t429 t430 t431 t435 t436 t441 t442 true t422 t423 t424 t425)) else (laws_FnStrips.j0 k l0 t426 t427 t429 t430 t431 t435 t436 t441 t442 true t422 t423 t424 t425)) else (laws_FnStrips.j0 k l0 t426 t427 t429 t430 t431 t435 t436 t441 t442 true t422 t423 t424 t425)) else (laws_FnStrips.j0 k l0 t426 t427 t429 t430 t431 t435 t436 t441 t442 true t422 t423 t424 t425)) else (laws_FnStrips.j0 k l0 t426 t427 t429 t430 t431 t435 t436 t441 t442 true t422 t423 t424 t425)) else (laws_FnStrips.j0 k l0 t426 t427 t429 t430 t431 t435 t436 t441 t442 true t422 t423 t424 t425)) else (laws_FnStrips.j0 k l0 t426 t427 t429 t430 t431 t435 t436 t441 t442 true t422 t423 t424 t425)) else (laws_FnStrips.j0 k l0 t426 t427 t429 t430 t431 t435 t436 t441 t442 true t422 t423 t424 t425))) = some r := H
  have A11 := Aside0.mk A110
  clear A110
  replace H := Option.bind_eq_some_iff.mp H
  obtain ⟨⟨t449, t450⟩, A120, H⟩ := H
  replace H : (if t431 = t434 then (if t429 = t432 then (if t430 = t433 then (if t437 = t440 then (if t435 = t438 then (if t436 = t439 then (if t443 = t446 then (if t441 = t444 then (if t442 = t445 then (if t448 = t450 then (if t447 = t449 then ((impl_IsShot.f t422 t423 t424 t425).bind fun t451 => (if (t451 != (t450 == 0)) = true then (laws_FnStrips.j0 k l0 t426 t427 t429 t430 t431 t435 t436 t441 t442 true t422 t423 t424 t425) else (if t437 = t431 then (laws_FnStrips.j0 k l0 t426 t427 t429 t430 t431 t435 t436 t441 t442 (t443 != t431) t422 t423 t424 t425) else (laws_FnStrips.j0 k l0 t426 t427 t429 t430 t431 t435 t436 t441 t442 true t422 t423 t424 t425)))) else (laws_FnStrips.j0 k l0 t426 t427 t429 t430 t431 t435 t436 t441 t442 true t422 t423 t424 t425)) else (laws_FnStrips.j0 k l0 t426 t427 t429 t430 t431 t435 t436 t441 t442 true t422 t423 t424 t425)) else (laws_FnStrips.j0 k l0 t426 t427 t429 t430 t431 t435 t436 t441 t442 true t422 t423 t424 t425)) else (laws_FnStrips.j0 k l0 t426 t427 t429 t430 t431 t435 t436 t441 t442 true t422 t423 t424 t425)) else (laws_FnStrips.j0 k l0 t426 t427 t429 t430 t431 t435 t436 t441 t442 true t422 t423 t424 t425)) else (laws_FnStrips.j0 k l0 t426 t427 t429 t430 t431 t435 t436 t441 t442 true t422 t423 t424 t425)) else (laws_FnStrips.j0 k l0 t426 t427 t429 t430 t431 t435 t436 t441 t442 true t422 t423 t424 t425)) else (laws_FnStrips.j0 k l0 t426 t427 t429 t430 t431 t435 t436 t441 t442 true t422 t423 t424 t425)) else (laws_FnStrips.j0 k l0 t426 t427 t429 t430 t431 t435 t436 t441 t442 true t422 t423 t424 t425)) else (laws_FnStrips.j0 k l0 t426 t427 t429 t430 t431 t435 t436 t441 t442 true t422 t423 t424 t425)) else (laws_FnStrips.j0 k l0 t426 t427 t429 t430 t431 t435 t436 t441 t442 true t422 t423 t424 t425)) = some r := H
  have A12 := Aside0.mk A120
  clear A120
  have HC13 := Aside0.mk H
  clear H
  go_enter Try.func4, Try.ntmps4
  go_upto_region 12 with (first | ((with_reducible refine gate_callee (f := 6) rfl ?_); refine goesL_ (some 33) rfl rfl Try.func6 (by kernel_rfl) rfl #[.slice A0 l0.length c0] rfl (by (try simp only [List.map_toArray, List.map_cons, List.map_nil]); first | done | rfl | (simp only [List.length_drop, List.length_take]; rfl)) ?_; (with_reducible refine (laws_big.calls _ _ l0 false _ ?side1 ?side2 A2.out).mono ?_); (case side1 => repeat (first | exact HR0.out | (with_reducible refine Kd.C_alloc ?_ _) | (with_reducible refine Kd.C_drewN ?_ _) | (with_reducible refine Kd.C_drew ?_))); (case side2 => exact HC0.out); rintro e w' ⟨rfl, ⟨nd, rfl⟩⟩; refine ⟨_, rfl, ?_⟩) | ((with_reducible refine gate_callee (f := 11) rfl ?_); refine goesL_ (some 36) rfl rfl Try.func11 (by kernel_rfl) rfl #[.slice A0 l0.length c0] rfl (by (try simp only [List.map_toArray, List.map_cons, List.map_nil]); first | done | rfl | (simp only [List.length_drop, List.length_take]; rfl)) ?_; (with_reducible refine (spec_DrawStripOf.calls k _ _ l0 t422 t423 t424 t425 t426 t427 _ ?side1 ?side2 A4.out).mono ?_); (case side1 => repeat (first | exact HR0.out | (with_reducible refine Kd.C_alloc ?_ _) | (with_reducible refine Kd.C_drewN ?_ _) | (with_reducible refine Kd.C_drew ?_))); (case side2 => exact HC0.out); rintro e w14 ⟨rfl, hb⟩; refine ⟨_, rfl, ?_⟩; have n0_ := Aside0.mk (below_step (by repeat (first | (with_reducible first | exact HB.out | apply below_alloc | apply pw_below_drewN | apply below_drew1) | exact HB.out)) hb); clear HB; have HB := n0_; clear n0_; (try clear hb); (try clear hb2); (try clear hk); (try clear hi)) | ((with_reducible refine gate_dst (N := 3) rfl ?_); refine box_event ?hg (N := 3) ?hd (cs := #[.int .i64 0, .int .i64 0, .int .i64 0, .int .i64 0]) (t := 25) ?hr ?_; (case hd => rfl); (case hg => rfl); (case hr => first | (go_simp; done) | (go_simp; rfl)); intro gb428 hg w15 hbox hb; have n0_ := Aside0.mk (below_step (by repeat (first | (with_reducible first | exact HB.out | apply below_alloc | apply pw_below_drewN | apply below_drew1) | exact HB.out)) hb); have n1_ := Aside0.mk (hbox); have n2_ := Aside0.mk ((by rw [hg]; exact (below_size (by repeat (first | (with_reducible first | exact HB.out | apply below_alloc | apply pw_below_drewN | apply below_drew1) | exact HB.out))) : w.heap.size ≤ gb428)); have n3_ := Aside0.mk ((by rw [hg]; exact (below_size (by repeat (first | (with_reducible first | exact HB.out | apply below_alloc | apply pw_below_drewN | apply below_drew1) | exact HB.out))) : w.heap.size ≤ gb428)); clear HB; have HB := n0_; have BK428 := n1_; have GW428 := n2_; have GE428 := n3_; clear n0_ n1_ n2_ n3_; clear hb hbox hg; have hcz16_0 : w15.cell? ⟨gb428, 0, none⟩ = some (.int .i64 0) := (blk_cell BK428.out 0).trans rfl; have hcz16_1 : w15.cell? ⟨gb428, 1, none⟩ = some (.int .i64 0) := (blk_cell BK428.out 1).trans rfl; have hcz16_2 : w15.cell? ⟨gb428, 2, none⟩ = some (.int .i64 0) := (blk_cell BK428.out 2).trans rfl; have hcz16_3 : w15.cell? ⟨gb428, 3, none⟩ = some (.int .i64 0) := (blk_cell BK428.out 3).trans rfl; have hfz16_0 := blk_frozen BK428.out 0; have hfz16_1 := blk_frozen BK428.out 1; have hfz16_2 := blk_frozen BK428.out 2; have hfz16_3 := blk_frozen BK428.out 3) | ((with_reducible refine gate_callee (f := 10) rfl ?_); refine goesL_ (some 44) rfl rfl Try.func10 (by kernel_rfl) rfl #[.agg #[.int .i64 t422, .int .i64 t423, .int .i64 t424, .int .i64 t425], .int .i64 t426, .int .i64 t427] rfl (by (try simp only [List.map_toArray, List.map_cons, List.map_nil]); first | done | rfl | (simp only [List.length_drop, List.length_take]; rfl)) ?_; (with_reducible refine (impl_StripOf.calls k t422 t423 t424 t425 t426 t427 t429 t430 t431 _ A5.out).mono ?_); rintro e w17 ⟨rfl, hb⟩; refine ⟨_, rfl, ?_⟩; have n0_ := Aside0.mk (blk_below (g := gb428) (o := .cells #[.int .i64 t422, .int .i64 t423, .int .i64 t424, .int .i64 t425] 25 (0, 0)) (by (with_reducible repeat (first | refine blk_drewN ?_ _ | refine blk_drew ?_ | refine blk_alloc ?_ _)); refine blk_put (cs := #[.int .i64 t422, .int .i64 t423, .int .i64 t424, .int .i64 0]) ?_ 3 _ rfl; (with_reducible repeat (first | refine blk_drewN ?_ _ | refine blk_drew ?_ | refine blk_alloc ?_ _)); refine blk_put (cs := #[.int .i64 t422, .int .i64 t423, .int .i64 0, .int .i64 0]) ?_ 2 _ rfl; (with_reducible repeat (first | refine blk_drewN ?_ _ | refine blk_drew ?_ | refine blk_alloc ?_ _)); refine blk_put (cs := #[.int .i64 t422, .int .i64 0, .int .i64 0, .int .i64 0]) ?_ 1 _ rfl; (with_reducible repeat (first | refine blk_drewN ?_ _ | refine blk_drew ?_ | refine blk_alloc ?_ _)); refine blk_put (cs := #[.int .i64 0, .int .i64 0, .int .i64 0, .int .i64 0]) ?_ 0 _ rfl; (with_reducible repeat (first | refine blk_drewN ?_ _ | refine blk_drew ?_ | refine blk_alloc ?_ _)); exact BK428.out) hb); have n1_ := Aside0.mk (below_step (by repeat (first | (with_reducible first | exact HB.out | apply below_alloc | apply pw_below_drewN | apply below_drew1 | refine below_set ?_ GE428.out) | exact HB.out)) hb); clear BK428; clear HB; have BK428 := n0_; have HB := n1_; clear n0_ n1_; (try clear hb); (try clear hb2); (try clear hk); (try clear hi); have hcz18_0 : w17.cell? ⟨gb428, 0, none⟩ = some (.int .i64 t422) := (blk_cell BK428.out 0).trans rfl; have hcz18_1 : w17.cell? ⟨gb428, 1, none⟩ = some (.int .i64 t423) := (blk_cell BK428.out 1).trans rfl; have hcz18_2 : w17.cell? ⟨gb428, 2, none⟩ = some (.int .i64 t424) := (blk_cell BK428.out 2).trans rfl; have hcz18_3 : w17.cell? ⟨gb428, 3, none⟩ = some (.int .i64 t425) := (blk_cell BK428.out 3).trans rfl; have hfz18_0 := blk_frozen BK428.out 0; have hfz18_1 := blk_frozen BK428.out 1; have hfz18_2 := blk_frozen BK428.out 2; have hfz18_3 := blk_frozen BK428.out 3) | ((with_reducible refine gate_callee (f := 12) rfl ?_); refine goesL_ (some 52) rfl rfl Try.func12 (by kernel_rfl) rfl #[.agg #[.int .i64 t422, .int .i64 t423, .int .i64 t424, .int .i64 t425], .int .i64 t426, .int .i64 t427] rfl (by (try simp only [List.map_toArray, List.map_cons, List.map_nil]); first | done | rfl | (simp only [List.length_drop, List.length_take]; rfl)) ?_; (with_reducible refine (spec_StripOf.calls k t422 t423 t424 t425 t426 t427 t432 t433 t434 _ A6.out).mono ?_); rintro e w19 ⟨rfl, hb⟩; refine ⟨_, rfl, ?_⟩; have n0_ := Aside0.mk (blk_below (g := gb428) (o := .cells #[.int .i64 t422, .int .i64 t423, .int .i64 t424, .int .i64 t425] 25 (0, 0)) (by (with_reducible repeat (first | refine blk_drewN ?_ _ | refine blk_drew ?_ | refine blk_alloc ?_ _)); exact BK428.out) hb); have n1_ := Aside0.mk (below_step (by repeat (first | (with_reducible first | exact HB.out | apply below_alloc | apply pw_below_drewN | apply below_drew1 | refine below_set ?_ GE428.out) | exact HB.out)) hb); clear BK428; clear HB; have BK428 := n0_; have HB := n1_; clear n0_ n1_; (try clear hb); (try clear hb2); (try clear hk); (try clear hi); have hcz20_0 : w19.cell? ⟨gb428, 0, none⟩ = some (.int .i64 t422) := (blk_cell BK428.out 0).trans rfl; have hcz20_1 : w19.cell? ⟨gb428, 1, none⟩ = some (.int .i64 t423) := (blk_cell BK428.out 1).trans rfl; have hcz20_2 : w19.cell? ⟨gb428, 2, none⟩ = some (.int .i64 t424) := (blk_cell BK428.out 2).trans rfl; have hcz20_3 : w19.cell? ⟨gb428, 3, none⟩ = some (.int .i64 t425) := (blk_cell BK428.out 3).trans rfl; have hfz20_0 := blk_frozen BK428.out 0; have hfz20_1 := blk_frozen BK428.out 1; have hfz20_2 := blk_frozen BK428.out 2; have hfz20_3 := blk_frozen BK428.out 3) | ((with_reducible refine gate_callee (f := 13) rfl ?_); refine goesL_ (some 60) rfl rfl Try.func13 (by kernel_rfl) rfl #[.agg #[.int .i64 t422, .int .i64 t423, .int .i64 t424, .int .i64 t425], .int .i64 t426, .int .i64 t427] rfl (by (try simp only [List.map_toArray, List.map_cons, List.map_nil]); first | done | rfl | (simp only [List.length_drop, List.length_take]; rfl)) ?_; (with_reducible refine (impl_DebrisRange.calls k t422 t423 t424 t425 t426 t427 t435 t436 t437 _ A7.out).mono ?_); rintro e w21 ⟨rfl, hb⟩; refine ⟨_, rfl, ?_⟩; have n0_ := Aside0.mk (blk_below (g := gb428) (o := .cells #[.int .i64 t422, .int .i64 t423, .int .i64 t424, .int .i64 t425] 25 (0, 0)) (by (with_reducible repeat (first | refine blk_drewN ?_ _ | refine blk_drew ?_ | refine blk_alloc ?_ _)); exact BK428.out) hb); have n1_ := Aside0.mk (below_step (by repeat (first | (with_reducible first | exact HB.out | apply below_alloc | apply pw_below_drewN | apply below_drew1 | refine below_set ?_ GE428.out) | exact HB.out)) hb); clear BK428; clear HB; have BK428 := n0_; have HB := n1_; clear n0_ n1_; (try clear hb); (try clear hb2); (try clear hk); (try clear hi); have hcz22_0 : w21.cell? ⟨gb428, 0, none⟩ = some (.int .i64 t422) := (blk_cell BK428.out 0).trans rfl; have hcz22_1 : w21.cell? ⟨gb428, 1, none⟩ = some (.int .i64 t423) := (blk_cell BK428.out 1).trans rfl; have hcz22_2 : w21.cell? ⟨gb428, 2, none⟩ = some (.int .i64 t424) := (blk_cell BK428.out 2).trans rfl; have hcz22_3 : w21.cell? ⟨gb428, 3, none⟩ = some (.int .i64 t425) := (blk_cell BK428.out 3).trans rfl; have hfz22_0 := blk_frozen BK428.out 0; have hfz22_1 := blk_frozen BK428.out 1; have hfz22_2 := blk_frozen BK428.out 2; have hfz22_3 := blk_frozen BK428.out 3) | ((with_reducible refine gate_callee (f := 14) rfl ?_); refine goesL_ (some 68) rfl rfl Try.func14 (by kernel_rfl) rfl #[.agg #[.int .i64 t422, .int .i64 t423, .int .i64 t424, .int .i64 t425], .int .i64 t426, .int .i64 t427] rfl (by (try simp only [List.map_toArray, List.map_cons, List.map_nil]); first | done | rfl | (simp only [List.length_drop, List.length_take]; rfl)) ?_; (with_reducible refine (spec_DebrisRange.calls k t422 t423 t424 t425 t426 t427 t438 t439 t440 _ A8.out).mono ?_); rintro e w23 ⟨rfl, hb⟩; refine ⟨_, rfl, ?_⟩; have n0_ := Aside0.mk (blk_below (g := gb428) (o := .cells #[.int .i64 t422, .int .i64 t423, .int .i64 t424, .int .i64 t425] 25 (0, 0)) (by (with_reducible repeat (first | refine blk_drewN ?_ _ | refine blk_drew ?_ | refine blk_alloc ?_ _)); exact BK428.out) hb); have n1_ := Aside0.mk (below_step (by repeat (first | (with_reducible first | exact HB.out | apply below_alloc | apply pw_below_drewN | apply below_drew1 | refine below_set ?_ GE428.out) | exact HB.out)) hb); clear BK428; clear HB; have BK428 := n0_; have HB := n1_; clear n0_ n1_; (try clear hb); (try clear hb2); (try clear hk); (try clear hi); have hcz24_0 : w23.cell? ⟨gb428, 0, none⟩ = some (.int .i64 t422) := (blk_cell BK428.out 0).trans rfl; have hcz24_1 : w23.cell? ⟨gb428, 1, none⟩ = some (.int .i64 t423) := (blk_cell BK428.out 1).trans rfl; have hcz24_2 : w23.cell? ⟨gb428, 2, none⟩ = some (.int .i64 t424) := (blk_cell BK428.out 2).trans rfl; have hcz24_3 : w23.cell? ⟨gb428, 3, none⟩ = some (.int .i64 t425) := (blk_cell BK428.out 3).trans rfl; have hfz24_0 := blk_frozen BK428.out 0; have hfz24_1 := blk_frozen BK428.out 1; have hfz24_2 := blk_frozen BK428.out 2; have hfz24_3 := blk_frozen BK428.out 3) | ((with_reducible refine gate_callee (f := 15) rfl ?_); refine goesL_ (some 76) rfl rfl Try.func15 (by kernel_rfl) rfl #[.agg #[.int .i64 t422, .int .i64 t423, .int .i64 t424, .int .i64 t425], .int .i64 t426, .int .i64 t427] rfl (by (try simp only [List.map_toArray, List.map_cons, List.map_nil]); first | done | rfl | (simp only [List.length_drop, List.length_take]; rfl)) ?_; (with_reducible refine (impl_BurstRange.calls k t422 t423 t424 t425 t426 t427 t441 t442 t443 _ A9.out).mono ?_); rintro e w25 ⟨rfl, hb⟩; refine ⟨_, rfl, ?_⟩; have n0_ := Aside0.mk (blk_below (g := gb428) (o := .cells #[.int .i64 t422, .int .i64 t423, .int .i64 t424, .int .i64 t425] 25 (0, 0)) (by (with_reducible repeat (first | refine blk_drewN ?_ _ | refine blk_drew ?_ | refine blk_alloc ?_ _)); exact BK428.out) hb); have n1_ := Aside0.mk (below_step (by repeat (first | (with_reducible first | exact HB.out | apply below_alloc | apply pw_below_drewN | apply below_drew1 | refine below_set ?_ GE428.out) | exact HB.out)) hb); clear BK428; clear HB; have BK428 := n0_; have HB := n1_; clear n0_ n1_; (try clear hb); (try clear hb2); (try clear hk); (try clear hi); have hcz26_0 : w25.cell? ⟨gb428, 0, none⟩ = some (.int .i64 t422) := (blk_cell BK428.out 0).trans rfl; have hcz26_1 : w25.cell? ⟨gb428, 1, none⟩ = some (.int .i64 t423) := (blk_cell BK428.out 1).trans rfl; have hcz26_2 : w25.cell? ⟨gb428, 2, none⟩ = some (.int .i64 t424) := (blk_cell BK428.out 2).trans rfl; have hcz26_3 : w25.cell? ⟨gb428, 3, none⟩ = some (.int .i64 t425) := (blk_cell BK428.out 3).trans rfl; have hfz26_0 := blk_frozen BK428.out 0; have hfz26_1 := blk_frozen BK428.out 1; have hfz26_2 := blk_frozen BK428.out 2; have hfz26_3 := blk_frozen BK428.out 3) | ((with_reducible refine gate_callee (f := 16) rfl ?_); refine goesL_ (some 84) rfl rfl Try.func16 (by kernel_rfl) rfl #[.agg #[.int .i64 t422, .int .i64 t423, .int .i64 t424, .int .i64 t425], .int .i64 t426, .int .i64 t427] rfl (by (try simp only [List.map_toArray, List.map_cons, List.map_nil]); first | done | rfl | (simp only [List.length_drop, List.length_take]; rfl)) ?_; (with_reducible refine (spec_BurstRange.calls k t422 t423 t424 t425 t426 t427 t444 t445 t446 _ A10.out).mono ?_); rintro e w27 ⟨rfl, hb⟩; refine ⟨_, rfl, ?_⟩; have n0_ := Aside0.mk (blk_below (g := gb428) (o := .cells #[.int .i64 t422, .int .i64 t423, .int .i64 t424, .int .i64 t425] 25 (0, 0)) (by (with_reducible repeat (first | refine blk_drewN ?_ _ | refine blk_drew ?_ | refine blk_alloc ?_ _)); exact BK428.out) hb); have n1_ := Aside0.mk (below_step (by repeat (first | (with_reducible first | exact HB.out | apply below_alloc | apply pw_below_drewN | apply below_drew1 | refine below_set ?_ GE428.out) | exact HB.out)) hb); clear BK428; clear HB; have BK428 := n0_; have HB := n1_; clear n0_ n1_; (try clear hb); (try clear hb2); (try clear hk); (try clear hi); have hcz28_0 : w27.cell? ⟨gb428, 0, none⟩ = some (.int .i64 t422) := (blk_cell BK428.out 0).trans rfl; have hcz28_1 : w27.cell? ⟨gb428, 1, none⟩ = some (.int .i64 t423) := (blk_cell BK428.out 1).trans rfl; have hcz28_2 : w27.cell? ⟨gb428, 2, none⟩ = some (.int .i64 t424) := (blk_cell BK428.out 2).trans rfl; have hcz28_3 : w27.cell? ⟨gb428, 3, none⟩ = some (.int .i64 t425) := (blk_cell BK428.out 3).trans rfl; have hfz28_0 := blk_frozen BK428.out 0; have hfz28_1 := blk_frozen BK428.out 1; have hfz28_2 := blk_frozen BK428.out 2; have hfz28_3 := blk_frozen BK428.out 3) | ((with_reducible refine gate_callee (f := 17) rfl ?_); refine goesL_ (some 90) rfl rfl Try.func17 (by kernel_rfl) rfl #[.agg #[.int .i64 t422, .int .i64 t423, .int .i64 t424, .int .i64 t425]] rfl (by (try simp only [List.map_toArray, List.map_cons, List.map_nil]); first | done | rfl | (simp only [List.length_drop, List.length_take]; rfl)) ?_; (with_reducible refine (impl_DebrisTime.calls k t422 t423 t424 t425 t447 t448 _ A11.out).mono ?_); rintro e w29 ⟨rfl, hb⟩; refine ⟨_, rfl, ?_⟩; have n0_ := Aside0.mk (blk_below (g := gb428) (o := .cells #[.int .i64 t422, .int .i64 t423, .int .i64 t424, .int .i64 t425] 25 (0, 0)) (by (with_reducible repeat (first | refine blk_drewN ?_ _ | refine blk_drew ?_ | refine blk_alloc ?_ _)); exact BK428.out) hb); have n1_ := Aside0.mk (below_step (by repeat (first | (with_reducible first | exact HB.out | apply below_alloc | apply pw_below_drewN | apply below_drew1 | refine below_set ?_ GE428.out) | exact HB.out)) hb); clear BK428; clear HB; have BK428 := n0_; have HB := n1_; clear n0_ n1_; (try clear hb); (try clear hb2); (try clear hk); (try clear hi); have hcz30_0 : w29.cell? ⟨gb428, 0, none⟩ = some (.int .i64 t422) := (blk_cell BK428.out 0).trans rfl; have hcz30_1 : w29.cell? ⟨gb428, 1, none⟩ = some (.int .i64 t423) := (blk_cell BK428.out 1).trans rfl; have hcz30_2 : w29.cell? ⟨gb428, 2, none⟩ = some (.int .i64 t424) := (blk_cell BK428.out 2).trans rfl; have hcz30_3 : w29.cell? ⟨gb428, 3, none⟩ = some (.int .i64 t425) := (blk_cell BK428.out 3).trans rfl; have hfz30_0 := blk_frozen BK428.out 0; have hfz30_1 := blk_frozen BK428.out 1; have hfz30_2 := blk_frozen BK428.out 2; have hfz30_3 := blk_frozen BK428.out 3) | ((with_reducible refine gate_callee (f := 18) rfl ?_); refine goesL_ (some 95) rfl rfl Try.func18 (by kernel_rfl) rfl #[.agg #[.int .i64 t422, .int .i64 t423, .int .i64 t424, .int .i64 t425]] rfl (by (try simp only [List.map_toArray, List.map_cons, List.map_nil]); first | done | rfl | (simp only [List.length_drop, List.length_take]; rfl)) ?_; (with_reducible refine (spec_DebrisTime.calls k t422 t423 t424 t425 t449 t450 _ A12.out).mono ?_); rintro e w31 ⟨rfl, hb⟩; refine ⟨_, rfl, ?_⟩; have n0_ := Aside0.mk (blk_below (g := gb428) (o := .cells #[.int .i64 t422, .int .i64 t423, .int .i64 t424, .int .i64 t425] 25 (0, 0)) (by (with_reducible repeat (first | refine blk_drewN ?_ _ | refine blk_drew ?_ | refine blk_alloc ?_ _)); exact BK428.out) hb); have n1_ := Aside0.mk (below_step (by repeat (first | (with_reducible first | exact HB.out | apply below_alloc | apply pw_below_drewN | apply below_drew1 | refine below_set ?_ GE428.out) | exact HB.out)) hb); clear BK428; clear HB; have BK428 := n0_; have HB := n1_; clear n0_ n1_; (try clear hb); (try clear hb2); (try clear hk); (try clear hi)))
  (try simp only [Act.put, List.setIfInBounds_toArray, List.set_cons_zero, List.set_cons_succ])
  go_cut [167] (fun v167 wc => ∃ (kq : Nat) (x167_12 : Bool), v167 = .bool x167_12 ∧ Aside0 (laws_FnStrips.j0 kq l0 t426 t427 t429 t430 t431 t435 t436 t441 t442 x167_12 t422 t423 t424 t425 = some r) ∧ Aside0 (kq ≤ k) ∧ Aside0 (wc.heap[gb428]? = some (.cells #[.int .i64 t422, .int .i64 t423, .int .i64 t424, .int .i64 t425] 25 (0, 0))) ∧ Aside0 (Below w.heap.size w wc))
  case first =>
   have H := HC13.out
   clear HC13
   by_cases c32 : t431 = t434
   ·rw [if_pos c32] at H
    have c32b0 : (t431 == t434) = true := beq_iff_eq.mpr c32
    have c32b1 : (t431 != t434) = false := bne_eq_false_iff_eq.mpr c32
    clear c32
    (first | rw [c32b0] | (simp only [i64_w, i32_w]; rw [c32b0]) | skip)
    by_cases c33 : t429 = t432
    ·rw [if_pos c33] at H
     have c33b0 : (t429 == t432) = true := beq_iff_eq.mpr c33
     have c33b1 : (t429 != t432) = false := bne_eq_false_iff_eq.mpr c33
     clear c33
     by_cases c34 : t430 = t433
     ·rw [if_pos c34] at H
      have c34b0 : (t430 == t433) = true := beq_iff_eq.mpr c34
      have c34b1 : (t430 != t433) = false := bne_eq_false_iff_eq.mpr c34
      clear c34
      by_cases c35 : t437 = t440
      ·rw [if_pos c35] at H
       have c35b0 : (t437 == t440) = true := beq_iff_eq.mpr c35
       have c35b1 : (t437 != t440) = false := bne_eq_false_iff_eq.mpr c35
       clear c35
       by_cases c36 : t435 = t438
       ·rw [if_pos c36] at H
        have c36b0 : (t435 == t438) = true := beq_iff_eq.mpr c36
        have c36b1 : (t435 != t438) = false := bne_eq_false_iff_eq.mpr c36
        clear c36
        by_cases c37 : t436 = t439
        ·rw [if_pos c37] at H
         have c37b0 : (t436 == t439) = true := beq_iff_eq.mpr c37
         have c37b1 : (t436 != t439) = false := bne_eq_false_iff_eq.mpr c37
         clear c37
         by_cases c38 : t443 = t446
         ·rw [if_pos c38] at H
          have c38b0 : (t443 == t446) = true := beq_iff_eq.mpr c38
          have c38b1 : (t443 != t446) = false := bne_eq_false_iff_eq.mpr c38
          clear c38
          by_cases c39 : t441 = t444
          ·rw [if_pos c39] at H
           have c39b0 : (t441 == t444) = true := beq_iff_eq.mpr c39
           have c39b1 : (t441 != t444) = false := bne_eq_false_iff_eq.mpr c39
           clear c39
           by_cases c40 : t442 = t445
           ·rw [if_pos c40] at H
            have c40b0 : (t442 == t445) = true := beq_iff_eq.mpr c40
            have c40b1 : (t442 != t445) = false := bne_eq_false_iff_eq.mpr c40
            clear c40
            by_cases c41 : t448 = t450
            ·rw [if_pos c41] at H
             have c41b0 : (t448 == t450) = true := beq_iff_eq.mpr c41
             have c41b1 : (t448 != t450) = false := bne_eq_false_iff_eq.mpr c41
             clear c41
             by_cases c42 : t447 = t449
             ·rw [if_pos c42] at H
              have c42b0 : (t447 == t449) = true := beq_iff_eq.mpr c42
              have c42b1 : (t447 != t449) = false := bne_eq_false_iff_eq.mpr c42
              clear c42
              replace H := Option.bind_eq_some_iff.mp H
              obtain ⟨t451, A430, H⟩ := H
              replace H : (if (t451 != (t450 == 0)) = true then (laws_FnStrips.j0 k l0 t426 t427 t429 t430 t431 t435 t436 t441 t442 true t422 t423 t424 t425) else (if t437 = t431 then (laws_FnStrips.j0 k l0 t426 t427 t429 t430 t431 t435 t436 t441 t442 (t443 != t431) t422 t423 t424 t425) else (laws_FnStrips.j0 k l0 t426 t427 t429 t430 t431 t435 t436 t441 t442 true t422 t423 t424 t425))) = some r := H
              have A43 := Aside0.mk A430
              clear A430
              by_cases c44 : (t451 != (t450 == 0)) = true
              ·rw [if_pos c44] at H
               have c44b0 : (t451 != (t450 == 0)) = true := c44
               (try (have c44b1 : decide (t451 = (t450 == 0)) = false := by simpa using c44))
               (try (have c44b2 : (t451 == (t450 == 0)) = false := by simpa using c44))
               (try (have c44b3 : ¬ (t451 = (t450 == 0)) := by simpa using c44))
               clear c44
               exact absurd (H.trans (congrArg some HR_.out)) (laws_FnStrips.j0_true _ _ _ _ _ _ _ _ _ _ _ _ _ _ _)
              ·rw [if_neg c44] at H
               have c44b0 : (t451 != (t450 == 0)) = false := by simpa using c44
               (try (have c44b1 : decide (t451 = (t450 == 0)) = true := by simpa using c44))
               (try (have c44b2 : (t451 == (t450 == 0)) = true := by simpa using c44))
               clear c44
               by_cases c47 : t437 = t431
               ·rw [if_pos c47] at H
                have c47b0 : (t437 == t431) = true := beq_iff_eq.mpr c47
                have c47b1 : (t437 != t431) = false := bne_eq_false_iff_eq.mpr c47
                clear c47
                have H' := Aside0.mk H
                clear H
                have hcz48_0 : w31.cell? ⟨gb428, 0, none⟩ = some (.int .i64 t422) := (blk_cell BK428.out 0).trans rfl
                have hcz48_1 : w31.cell? ⟨gb428, 1, none⟩ = some (.int .i64 t423) := (blk_cell BK428.out 1).trans rfl
                have hcz48_2 : w31.cell? ⟨gb428, 2, none⟩ = some (.int .i64 t424) := (blk_cell BK428.out 2).trans rfl
                have hcz48_3 : w31.cell? ⟨gb428, 3, none⟩ = some (.int .i64 t425) := (blk_cell BK428.out 3).trans rfl
                have hfz48_0 := blk_frozen BK428.out 0
                have hfz48_1 := blk_frozen BK428.out 1
                have hfz48_2 := blk_frozen BK428.out 2
                have hfz48_3 := blk_frozen BK428.out 3
                go_wp2_with (first | (go_at_call 19; (with_reducible refine (impl_IsShot.calls t422 t423 t424 t425 t451 _ A43.out).mono ?_); rintro e w49 ⟨rfl, hb⟩; have n0_ := Aside0.mk (blk_below (g := gb428) (o := .cells #[.int .i64 t422, .int .i64 t423, .int .i64 t424, .int .i64 t425] 25 (0, 0)) (by (with_reducible repeat (first | refine blk_drewN ?_ _ | refine blk_drew ?_ | refine blk_alloc ?_ _)); exact BK428.out) hb); have n1_ := Aside0.mk (below_step (by repeat (first | (with_reducible first | exact HB.out | apply below_alloc | apply pw_below_drewN | apply below_drew1 | refine below_set ?_ GE428.out) | exact HB.out)) hb); clear BK428; clear HB; have BK428 := n0_; have HB := n1_; clear n0_ n1_; (try clear hb); (try clear hb2); (try clear hk); (try clear hi)))
                go_meet
                case rel => exact ⟨_, ((t443 != t431)), (by first | rfl | (simp; done) | (simp [*]; done)), H', ⟨by first | omega | exact Nat.le_refl _⟩, ⟨by (with_reducible repeat (first | refine blk_drewN ?_ _ | refine blk_drew ?_ | refine blk_alloc ?_ _)); exact BK428.out⟩, ⟨by repeat (first | (with_reducible first | exact HB.out | apply below_alloc | apply pw_below_drewN | apply below_drew1 | refine below_set ?_ GE428.out) | exact HB.out)⟩⟩
               ·rw [if_neg c47] at H
                have c47b0 : (t437 == t431) = false := beq_eq_false_iff_ne.mpr c47
                have c47b1 : (t437 != t431) = true := bne_iff_ne.mpr c47
                exact absurd (H.trans (congrArg some HR_.out)) (laws_FnStrips.j0_true _ _ _ _ _ _ _ _ _ _ _ _ _ _ _)
             ·rw [if_neg c42] at H
              have c42b0 : (t447 == t449) = false := beq_eq_false_iff_ne.mpr c42
              have c42b1 : (t447 != t449) = true := bne_iff_ne.mpr c42
              exact absurd (H.trans (congrArg some HR_.out)) (laws_FnStrips.j0_true _ _ _ _ _ _ _ _ _ _ _ _ _ _ _)
            ·rw [if_neg c41] at H
             have c41b0 : (t448 == t450) = false := beq_eq_false_iff_ne.mpr c41
             have c41b1 : (t448 != t450) = true := bne_iff_ne.mpr c41
             exact absurd (H.trans (congrArg some HR_.out)) (laws_FnStrips.j0_true _ _ _ _ _ _ _ _ _ _ _ _ _ _ _)
           ·rw [if_neg c40] at H
            have c40b0 : (t442 == t445) = false := beq_eq_false_iff_ne.mpr c40
            have c40b1 : (t442 != t445) = true := bne_iff_ne.mpr c40
            exact absurd (H.trans (congrArg some HR_.out)) (laws_FnStrips.j0_true _ _ _ _ _ _ _ _ _ _ _ _ _ _ _)
          ·rw [if_neg c39] at H
           have c39b0 : (t441 == t444) = false := beq_eq_false_iff_ne.mpr c39
           have c39b1 : (t441 != t444) = true := bne_iff_ne.mpr c39
           exact absurd (H.trans (congrArg some HR_.out)) (laws_FnStrips.j0_true _ _ _ _ _ _ _ _ _ _ _ _ _ _ _)
         ·rw [if_neg c38] at H
          have c38b0 : (t443 == t446) = false := beq_eq_false_iff_ne.mpr c38
          have c38b1 : (t443 != t446) = true := bne_iff_ne.mpr c38
          exact absurd (H.trans (congrArg some HR_.out)) (laws_FnStrips.j0_true _ _ _ _ _ _ _ _ _ _ _ _ _ _ _)
        ·rw [if_neg c37] at H
         have c37b0 : (t436 == t439) = false := beq_eq_false_iff_ne.mpr c37
         have c37b1 : (t436 != t439) = true := bne_iff_ne.mpr c37
         exact absurd (H.trans (congrArg some HR_.out)) (laws_FnStrips.j0_true _ _ _ _ _ _ _ _ _ _ _ _ _ _ _)
       ·rw [if_neg c36] at H
        have c36b0 : (t435 == t438) = false := beq_eq_false_iff_ne.mpr c36
        have c36b1 : (t435 != t438) = true := bne_iff_ne.mpr c36
        exact absurd (H.trans (congrArg some HR_.out)) (laws_FnStrips.j0_true _ _ _ _ _ _ _ _ _ _ _ _ _ _ _)
      ·rw [if_neg c35] at H
       have c35b0 : (t437 == t440) = false := beq_eq_false_iff_ne.mpr c35
       have c35b1 : (t437 != t440) = true := bne_iff_ne.mpr c35
       exact absurd (H.trans (congrArg some HR_.out)) (laws_FnStrips.j0_true _ _ _ _ _ _ _ _ _ _ _ _ _ _ _)
     ·rw [if_neg c34] at H
      have c34b0 : (t430 == t433) = false := beq_eq_false_iff_ne.mpr c34
      have c34b1 : (t430 != t433) = true := bne_iff_ne.mpr c34
      exact absurd (H.trans (congrArg some HR_.out)) (laws_FnStrips.j0_true _ _ _ _ _ _ _ _ _ _ _ _ _ _ _)
    ·rw [if_neg c33] at H
     have c33b0 : (t429 == t432) = false := beq_eq_false_iff_ne.mpr c33
     have c33b1 : (t429 != t432) = true := bne_iff_ne.mpr c33
     exact absurd (H.trans (congrArg some HR_.out)) (laws_FnStrips.j0_true _ _ _ _ _ _ _ _ _ _ _ _ _ _ _)
   ·rw [if_neg c32] at H
    have c32b0 : (t431 == t434) = false := beq_eq_false_iff_ne.mpr c32
    have c32b1 : (t431 != t434) = true := bne_iff_ne.mpr c32
    (first | rw [c32b0] | (simp only [i64_w, i32_w]; rw [c32b0]) | skip)
    exact absurd (H.trans (congrArg some HR_.out)) (laws_FnStrips.j0_true _ _ _ _ _ _ _ _ _ _ _ _ _ _ _)
  case rest =>
   clear HC13
   try clear c1
   try clear p2
   try clear c3
   try clear c4
   try clear c6
   try clear c10
   try clear c11
   try clear c12
   try clear c13
   try clear c14
   try clear c15
   try clear c16
   try clear c17
   try clear c18
   try clear c32
   try clear c32b0
   try clear c32b1
   try clear c33
   try clear c33b0
   try clear c33b1
   try clear c34
   try clear c34b0
   try clear c34b1
   try clear c35
   try clear c35b0
   try clear c35b1
   try clear c36
   try clear c36b0
   try clear c36b1
   try clear c37
   try clear c37b0
   try clear c37b1
   try clear c38
   try clear c38b0
   try clear c38b1
   try clear c39
   try clear c39b0
   try clear c39b1
   try clear c40
   try clear c40b0
   try clear c40b1
   try clear c41
   try clear c41b0
   try clear c41b1
   try clear c42
   try clear c42b0
   try clear c42b1
   try clear c44
   try clear c44b0
   try clear c44b1
   try clear c44b2
   try clear c47
   try clear c47b0
   try clear c47b1
   try clear hcz16_0
   try clear hcz16_1
   try clear hcz16_2
   try clear hcz16_3
   try clear hcz18_0
   try clear hcz18_1
   try clear hcz18_2
   try clear hcz18_3
   try clear hcz20_0
   try clear hcz20_1
   try clear hcz20_2
   try clear hcz20_3
   try clear hcz22_0
   try clear hcz22_1
   try clear hcz22_2
   try clear hcz22_3
   try clear hcz24_0
   try clear hcz24_1
   try clear hcz24_2
   try clear hcz24_3
   try clear hcz26_0
   try clear hcz26_1
   try clear hcz26_2
   try clear hcz26_3
   try clear hcz28_0
   try clear hcz28_1
   try clear hcz28_2
   try clear hcz28_3
   try clear hcz30_0
   try clear hcz30_1
   try clear hcz30_2
   try clear hcz30_3
   try clear hcz45_0
   try clear hcz45_1
   try clear hcz45_2
   try clear hcz45_3
   try clear hcz48_0
   try clear hcz48_1
   try clear hcz48_2
   try clear hcz48_3
   try clear hcz50_0
   try clear hcz50_1
   try clear hcz50_2
   try clear hcz50_3
   try clear hfz16_0
   try clear hfz16_1
   try clear hfz16_2
   try clear hfz16_3
   try clear hfz18_0
   try clear hfz18_1
   try clear hfz18_2
   try clear hfz18_3
   try clear hfz20_0
   try clear hfz20_1
   try clear hfz20_2
   try clear hfz20_3
   try clear hfz22_0
   try clear hfz22_1
   try clear hfz22_2
   try clear hfz22_3
   try clear hfz24_0
   try clear hfz24_1
   try clear hfz24_2
   try clear hfz24_3
   try clear hfz26_0
   try clear hfz26_1
   try clear hfz26_2
   try clear hfz26_3
   try clear hfz28_0
   try clear hfz28_1
   try clear hfz28_2
   try clear hfz28_3
   try clear hfz30_0
   try clear hfz30_1
   try clear hfz30_2
   try clear hfz30_3
   try clear hfz45_0
   try clear hfz45_1
   try clear hfz45_2
   try clear hfz45_3
   try clear hfz48_0
   try clear hfz48_1
   try clear hfz48_2
   try clear hfz48_3
   try clear hfz50_0
   try clear hfz50_1
   try clear hfz50_2
   try clear hfz50_3
   obtain ⟨kq, x167_12, rfl, HA, HJ12, BK428, HB⟩ := hcut
   cases kq with
   | zero => exact absurd HA.out (by simp [laws_FnStrips.j0])
   | succ kj12 =>
    have H := HA.out
    clear HA
    simp only [laws_FnStrips.j0] at H
    by_cases c52 : x167_12 = true
    ·subst c52
     have H1 : (some false) = some r := by rw [if_pos rfl] at H; exact H
     clear H
     have H := H1
     clear H1
     exact absurd ((Option.some.inj H).trans HR_.out) (by decide)
    ·replace c52 := Bool.eq_false_iff.mpr c52
     subst c52
     have H1 : (if t431 = 0 then (if t429 > 0 then (laws_FnStrips.j1 kj12 l0 t426 t427 t429 t430 true t422 t423 t424 t425) else (if t430 < 0 then (laws_FnStrips.j1 kj12 l0 t426 t427 t429 t430 true t422 t423 t424 t425) else (if t429 > t435 then (laws_FnStrips.j1 kj12 l0 t426 t427 t429 t430 true t422 t423 t424 t425) else (if t430 < t436 then (laws_FnStrips.j1 kj12 l0 t426 t427 t429 t430 true t422 t423 t424 t425) else (laws_FnStrips.j1 kj12 l0 t426 t427 t429 t430 (decide ((wrap64 (t436 - t435)) < (wrap64 ((wrap64 (t442 - t441)) + (wrap64 (2 * t425)))))) t422 t423 t424 t425))))) else (some true)) = some r := by rw [if_neg (show ¬ (false = true) by decide)] at H; exact H
     clear H
     have H := H1
     clear H1
     by_cases c53 : t431 = 0
     ·rw [if_pos c53] at H
      have c53b0 : (t431 == 0) = true := beq_iff_eq.mpr c53
      have c53b1 : (t431 != 0) = false := bne_eq_false_iff_eq.mpr c53
      clear c53
      have HC54 := Aside0.mk H
      clear H
      go_upto_region 16 with (fail)
      go_cut [198] (fun v198 wc => ∃ (kq : Nat) (x198_53 : Bool), v198 = .bool x198_53 ∧ Aside0 (laws_FnStrips.j1 kq l0 t426 t427 t429 t430 x198_53 t422 t423 t424 t425 = some r) ∧ Aside0 (kq ≤ kj12) ∧ Aside0 (wc.heap[gb428]? = some (.cells #[.int .i64 t422, .int .i64 t423, .int .i64 t424, .int .i64 t425] 25 (0, 0))) ∧ Aside0 (Below w.heap.size w wc))
      case first =>
       have H := HC54.out
       clear HC54
       by_cases c55 : t429 > 0
       ·rw [if_pos c55] at H
        have c55b0 : decide (0 < t429) = true := decide_eq_true c55
        clear c55
        (first | rw [c55b0] | (simp only [i64_w, i32_w]; rw [c55b0]) | skip)
        exact absurd (H.trans (congrArg some HR_.out)) (laws_FnStrips.j1_true _ _ _ _ _ _ _ _ _ _)
       ·rw [if_neg c55] at H
        have c55b0 : decide (0 < t429) = false := decide_eq_false c55
        clear c55
        (first | rw [c55b0] | (simp only [i64_w, i32_w]; rw [c55b0]) | skip)
        by_cases c56 : t430 < 0
        ·rw [if_pos c56] at H
         have c56b0 : decide (t430 < 0) = true := decide_eq_true c56
         clear c56
         exact absurd (H.trans (congrArg some HR_.out)) (laws_FnStrips.j1_true _ _ _ _ _ _ _ _ _ _)
        ·rw [if_neg c56] at H
         have c56b0 : decide (t430 < 0) = false := decide_eq_false c56
         clear c56
         by_cases c57 : t429 > t435
         ·rw [if_pos c57] at H
          have c57b0 : decide (t435 < t429) = true := decide_eq_true c57
          clear c57
          exact absurd (H.trans (congrArg some HR_.out)) (laws_FnStrips.j1_true _ _ _ _ _ _ _ _ _ _)
         ·rw [if_neg c57] at H
          have c57b0 : decide (t435 < t429) = false := decide_eq_false c57
          clear c57
          by_cases c58 : t430 < t436
          ·rw [if_pos c58] at H
           have c58b0 : decide (t430 < t436) = true := decide_eq_true c58
           clear c58
           exact absurd (H.trans (congrArg some HR_.out)) (laws_FnStrips.j1_true _ _ _ _ _ _ _ _ _ _)
          ·rw [if_neg c58] at H
           have c58b0 : decide (t430 < t436) = false := decide_eq_false c58
           clear c58
           have H' := Aside0.mk H
           clear H
           have hcz59_0 : wc.cell? ⟨gb428, 0, none⟩ = some (.int .i64 t422) := (blk_cell BK428.out 0).trans rfl
           have hcz59_1 : wc.cell? ⟨gb428, 1, none⟩ = some (.int .i64 t423) := (blk_cell BK428.out 1).trans rfl
           have hcz59_2 : wc.cell? ⟨gb428, 2, none⟩ = some (.int .i64 t424) := (blk_cell BK428.out 2).trans rfl
           have hcz59_3 : wc.cell? ⟨gb428, 3, none⟩ = some (.int .i64 t425) := (blk_cell BK428.out 3).trans rfl
           have hfz59_0 := blk_frozen BK428.out 0
           have hfz59_1 := blk_frozen BK428.out 1
           have hfz59_2 := blk_frozen BK428.out 2
           have hfz59_3 := blk_frozen BK428.out 3
           go_wp2
           go_meet
           case rel => exact ⟨_, (decide ((wrap64 (t436 - t435)) < (wrap64 ((wrap64 (t442 - t441)) + (wrap64 (2 * t425)))))), (by first | rfl | (simp; done) | (simp [*]; done)), H', ⟨by have := HJ12.out; first | omega | exact Nat.le_refl _⟩, ⟨by (with_reducible repeat (first | refine blk_drewN ?_ _ | refine blk_drew ?_ | refine blk_alloc ?_ _)); exact BK428.out⟩, ⟨by repeat (first | (with_reducible first | exact HB.out | apply below_alloc | apply pw_below_drewN | apply below_drew1 | refine below_set ?_ GE428.out) | exact HB.out)⟩⟩
      case rest =>
       clear HC54
       try clear c1
       try clear p2
       try clear c3
       try clear c4
       try clear c5
       try clear c6
       try clear p6
       try clear c10
       try clear c11
       try clear c12
       try clear c13
       try clear c14
       try clear c15
       try clear c16
       try clear c17
       try clear c18
       try clear c32
       try clear c32b0
       try clear c32b1
       try clear c33
       try clear c33b0
       try clear c33b1
       try clear c34
       try clear c34b0
       try clear c34b1
       try clear c35
       try clear c35b0
       try clear c35b1
       try clear c36
       try clear c36b0
       try clear c36b1
       try clear c37
       try clear c37b0
       try clear c37b1
       try clear c38
       try clear c38b0
       try clear c38b1
       try clear c39
       try clear c39b0
       try clear c39b1
       try clear c40
       try clear c40b0
       try clear c40b1
       try clear c41
       try clear c41b0
       try clear c41b1
       try clear c42
       try clear c42b0
       try clear c42b1
       try clear c44
       try clear c44b0
       try clear c44b1
       try clear c44b2
       try clear c47
       try clear c47b0
       try clear c47b1
       try clear c52
       try clear c53
       try clear c53b0
       try clear c53b1
       try clear c55
       try clear c55b0
       try clear c56
       try clear c56b0
       try clear c57
       try clear c57b0
       try clear c58
       try clear c58b0
       try clear hcz16_0
       try clear hcz16_1
       try clear hcz16_2
       try clear hcz16_3
       try clear hcz18_0
       try clear hcz18_1
       try clear hcz18_2
       try clear hcz18_3
       try clear hcz20_0
       try clear hcz20_1
       try clear hcz20_2
       try clear hcz20_3
       try clear hcz22_0
       try clear hcz22_1
       try clear hcz22_2
       try clear hcz22_3
       try clear hcz24_0
       try clear hcz24_1
       try clear hcz24_2
       try clear hcz24_3
       try clear hcz26_0
       try clear hcz26_1
       try clear hcz26_2
       try clear hcz26_3
       try clear hcz28_0
       try clear hcz28_1
       try clear hcz28_2
       try clear hcz28_3
       try clear hcz30_0
       try clear hcz30_1
       try clear hcz30_2
       try clear hcz30_3
       try clear hcz45_0
       try clear hcz45_1
       try clear hcz45_2
       try clear hcz45_3
       try clear hcz48_0
       try clear hcz48_1
       try clear hcz48_2
       try clear hcz48_3
       try clear hcz50_0
       try clear hcz50_1
       try clear hcz50_2
       try clear hcz50_3
       try clear hcz59_0
       try clear hcz59_1
       try clear hcz59_2
       try clear hcz59_3
       try clear hfz16_0
       try clear hfz16_1
       try clear hfz16_2
       try clear hfz16_3
       try clear hfz18_0
       try clear hfz18_1
       try clear hfz18_2
       try clear hfz18_3
       try clear hfz20_0
       try clear hfz20_1
       try clear hfz20_2
       try clear hfz20_3
       try clear hfz22_0
       try clear hfz22_1
       try clear hfz22_2
       try clear hfz22_3
       try clear hfz24_0
       try clear hfz24_1
       try clear hfz24_2
       try clear hfz24_3
       try clear hfz26_0
       try clear hfz26_1
       try clear hfz26_2
       try clear hfz26_3
       try clear hfz28_0
       try clear hfz28_1
       try clear hfz28_2
       try clear hfz28_3
       try clear hfz30_0
       try clear hfz30_1
       try clear hfz30_2
       try clear hfz30_3
       try clear hfz45_0
       try clear hfz45_1
       try clear hfz45_2
       try clear hfz45_3
       try clear hfz48_0
       try clear hfz48_1
       try clear hfz48_2
       try clear hfz48_3
       try clear hfz50_0
       try clear hfz50_1
       try clear hfz50_2
       try clear hfz50_3
       try clear hfz59_0
       try clear hfz59_1
       try clear hfz59_2
       try clear hfz59_3
       try clear p2
       obtain ⟨kq, x198_53, rfl, HA, HJ53, BK428, HB⟩ := hcut
       cases kq with
       | zero => exact absurd HA.out (by simp [laws_FnStrips.j1])
       | succ kj53 =>
        have H := HA.out
        clear HA
        simp only [laws_FnStrips.j1] at H
        by_cases c60 : x198_53 = true
        ·subst c60
         have H1 : (some false) = some r := by rw [if_pos rfl] at H; exact H
         clear H
         have H := H1
         clear H1
         exact absurd ((Option.some.inj H).trans HR_.out) (by decide)
        ·replace c60 := Bool.eq_false_iff.mpr c60
         subst c60
         have H1 : ((laws_roll.f kj53 l0 601).bind fun bt452 => ((laws_dice_below.f bt452.1 bt452.2.1 bt452.2.2 (wrap64 ((wrap64 (t426 + 50000)) + 1))).bind fun bt456 => ((laws_dice_below.f bt452.1 bt456.2.1 bt456.2.2 (wrap64 ((wrap64 (50000 - t427)) + 1))).bind fun bt459 => ((impl_StripOf.f kj53 t422 t423 t424 t425 (wrap64 (t426 - bt456.1)) (wrap64 (t427 + bt459.1))).bind fun bt462 => (if bt462.2.2 = 0 then (if bt462.1 ≤ t429 then (some (decide (t430 ≤ bt462.2.1))) else (some false)) else (some false)))))) = some r := by rw [if_neg (show ¬ (false = true) by decide)] at H; exact H
         clear H
         have H := H1
         clear H1
         replace H := Option.bind_eq_some_iff.mp H
         obtain ⟨⟨t452, t453, t454⟩, A610, H⟩ := H
         replace H : ((laws_dice_below.f t452 t453 t454 (wrap64 ((wrap64 (t426 + 50000)) + 1))).bind fun bt456 => ((laws_dice_below.f t452 bt456.2.1 bt456.2.2 (wrap64 ((wrap64 (50000 - t427)) + 1))).bind fun bt459 => ((impl_StripOf.f kj53 t422 t423 t424 t425 (wrap64 (t426 - bt456.1)) (wrap64 (t427 + bt459.1))).bind fun bt462 => (if bt462.2.2 = 0 then (if bt462.1 ≤ t429 then (some (decide (t430 ≤ bt462.2.1))) else (some false)) else (some false))))) = some r := H
         have A61 := Aside0.mk A610
         clear A610
         replace H := Option.bind_eq_some_iff.mp H
         obtain ⟨⟨t456, t457, t458⟩, A620, H⟩ := H
         replace H : ((laws_dice_below.f t452 t457 t458 (wrap64 ((wrap64 (50000 - t427)) + 1))).bind fun bt459 => ((impl_StripOf.f kj53 t422 t423 t424 t425 (wrap64 (t426 - t456)) (wrap64 (t427 + bt459.1))).bind fun bt462 => (if bt462.2.2 = 0 then (if bt462.1 ≤ t429 then (some (decide (t430 ≤ bt462.2.1))) else (some false)) else (some false)))) = some r := H
         have A62 := Aside0.mk A620
         clear A620
         replace H := Option.bind_eq_some_iff.mp H
         obtain ⟨⟨t459, t460, t461⟩, A630, H⟩ := H
         replace H : ((impl_StripOf.f kj53 t422 t423 t424 t425 (wrap64 (t426 - t456)) (wrap64 (t427 + t459))).bind fun bt462 => (if bt462.2.2 = 0 then (if bt462.1 ≤ t429 then (some (decide (t430 ≤ bt462.2.1))) else (some false)) else (some false))) = some r := H
         have A63 := Aside0.mk A630
         clear A630
         replace H := Option.bind_eq_some_iff.mp H
         obtain ⟨⟨t462, t463, t464⟩, A640, H⟩ := H
         replace H : (if t464 = 0 then (if t462 ≤ t429 then (some (decide (t430 ≤ t463))) else (some false)) else (some false)) = some r := H
         have A64 := Aside0.mk A640
         clear A640
         by_cases c65 : t464 = 0
         ·rw [if_pos c65] at H
          have c65b0 : (t464 == 0) = true := beq_iff_eq.mpr c65
          have c65b1 : (t464 != 0) = false := bne_eq_false_iff_eq.mpr c65
          clear c65
          by_cases c66 : t462 ≤ t429
          ·rw [if_pos c66] at H
           have c66b0 : decide (t462 ≤ t429) = true := decide_eq_true c66
           clear c66
           obtain rfl := Option.some.inj H
           try go_wp2_with (first | ((with_reducible refine gate_callee (f := 20) rfl ?_); refine goesL_ (some 200) rfl rfl Try.func20 (by kernel_rfl) rfl #[.slice A0 l0.length c0, .int .u64 601] rfl (by (try simp only [List.map_toArray, List.map_cons, List.map_nil]); first | done | rfl | (simp only [List.length_drop, List.length_take]; rfl)) ?_; (with_reducible refine (laws_roll.calls kj53 _ _ l0 601 t452 t453 t454 w _ ?side1 ?side2 ?side3 A61.out).mono ?_); (case side1 => repeat (first | (with_reducible first | exact HB.out | apply below_alloc | apply pw_below_drewN | apply below_drew1 | refine below_set ?_ GE428.out) | exact HB.out)); (case side2 => exact HR0.out); (case side3 => exact HC0.out); rintro e w67 ⟨g455, rfl, hi, hb, hb2⟩; refine ⟨_, rfl, ?_⟩; have n0_ := Aside0.mk (blk_below (g := gb428) (o := .cells #[.int .i64 t422, .int .i64 t423, .int .i64 t424, .int .i64 t425] 25 (0, 0)) (by (with_reducible repeat (first | refine blk_drewN ?_ _ | refine blk_drew ?_ | refine blk_alloc ?_ _)); exact BK428.out) hb2); have n1_ := Aside0.mk (hb); have n2_ := Aside0.mk (hi); have n3_ := Aside0.mk (IsS60.ne_blk hi (blk_below (g := gb428) (o := .cells #[.int .i64 t422, .int .i64 t423, .int .i64 t424, .int .i64 t425] 25 (0, 0)) (by (with_reducible repeat (first | refine blk_drewN ?_ _ | refine blk_drew ?_ | refine blk_alloc ?_ _)); exact BK428.out) hb2) (by decide)); have n4_ := Aside0.mk (Ne.symm (IsS60.ne_blk hi (blk_below (g := gb428) (o := .cells #[.int .i64 t422, .int .i64 t423, .int .i64 t424, .int .i64 t425] 25 (0, 0)) (by (with_reducible repeat (first | refine blk_drewN ?_ _ | refine blk_drew ?_ | refine blk_alloc ?_ _)); exact BK428.out) hb2) (by decide))); clear BK428; clear HB; have BK428 := n0_; have HB := n1_; have HI455 := n2_; have NB455_428 := n3_; have NB428_455 := n4_; clear n0_ n1_ n2_ n3_ n4_; (try clear hb); (try clear hb2); (try clear hk); (try clear hi)))
           have n0_ := Aside0.mk (blk_drew BK428.out)
           have n1_ := Aside0.mk (IsS60.drew HI455.out)
           have n2_ := Aside0.mk (below_drew1 HB.out)
           clear BK428
           clear HI455
           clear HB
           have BK428 := n0_
           have HI455 := n1_
           have HB := n2_
           clear n0_ n1_ n2_
           refine start_ (n := 23) (S := fun w' => w'.cell? ⟨gb428, 0, none⟩ = some (.int .i64 t422) ∧ w'.cell? ⟨gb428, 1, none⟩ = some (.int .i64 t423) ∧ w'.cell? ⟨gb428, 2, none⟩ = some (.int .i64 t424) ∧ w'.cell? ⟨gb428, 3, none⟩ = some (.int .i64 t425)) (ds := []) #[false, false, false, false, false, false, false, false, false, false, false, false, false, false, false, false, false, false, false, false, false, false, false] (by kernel_rfl) rfl rfl ⟨(blk_cell BK428.out 0).trans rfl, (blk_cell BK428.out 1).trans rfl, (blk_cell BK428.out 2).trans rfl, (blk_cell BK428.out 3).trans rfl⟩ (fun hHeld => ?_); refine with_tabW laws_FnStrips.tab19 laws_FnStrips.bits19 (fun HT_ HW_ => ?_)
           generalize w67.drew = w68 at BK428 HI455 HB hHeld ⊢
           refine pure_ (i := 1) (N := some 203) (v := ?_) (a' := ?_) #[false, true, false, false, false, false, false, false, false, false, false, false, false, false, false, false, false, false, false, false, false, false, false] rfl rfl (any_of HT_.out (by kernel_rfl)) (fun _ _ _ h => h) (Or.inl ⟨by rfl, ?_⟩) ?_ ?_
           rotate_left
           ·intro w'
            go_simp
            with_reducible rfl
           rotate_left
           ·simp only [Act.put, List.setIfInBounds_toArray, List.set_cons_zero, List.set_cons_succ, i64_w, i32_w]
            rfl
           refine pure_ (i := 2) (N := some 204) (v := ?_) (a' := ?_) #[false, true, true, false, false, false, false, false, false, false, false, false, false, false, false, false, false, false, false, false, false, false, false] rfl rfl (any_of HT_.out (by kernel_rfl)) (fun _ _ _ h => h) (Or.inl ⟨by rfl, ?_⟩) ?_ ?_
           rotate_left
           ·intro w'
            go_simp
            with_reducible rfl
           rotate_left
           ·simp only [Act.put, List.setIfInBounds_toArray, List.set_cons_zero, List.set_cons_succ, i64_w, i32_w]
            rfl
           refine pure_ (i := 3) (N := some 205) (v := ?_) (a' := ?_) #[false, true, true, true, false, false, false, false, false, false, false, false, false, false, false, false, false, false, false, false, false, false, false] rfl rfl (any_of HT_.out (by kernel_rfl)) (fun _ _ _ h => h) (Or.inl ⟨by rfl, ?_⟩) ?_ ?_
           rotate_left
           ·intro w'
            go_simp
            with_reducible rfl
           rotate_left
           ·simp only [Act.put, List.setIfInBounds_toArray, List.set_cons_zero, List.set_cons_succ, i64_w, i32_w]
            rfl
           refine pure_ (i := 4) (N := some 206) (v := ?_) (a' := ?_) #[false, true, true, true, true, false, false, false, false, false, false, false, false, false, false, false, false, false, false, false, false, false, false] rfl rfl (any_of HT_.out (by kernel_rfl)) (fun _ _ _ h => h) (Or.inl ⟨by rfl, ?_⟩) ?_ ?_
           rotate_left
           ·intro w'
            go_simp
            with_reducible rfl
           rotate_left
           ·simp only [Act.put, List.setIfInBounds_toArray, List.set_cons_zero, List.set_cons_succ, i64_w, i32_w]
            rfl
           refine pure_ (i := 5) (N := some 207) (v := ?_) (a' := ?_) #[false, true, true, true, true, true, false, false, false, false, false, false, false, false, false, false, false, false, false, false, false, false, false] rfl rfl (any_of HT_.out (by kernel_rfl)) (fun _ _ _ h => h) (Or.inl ⟨by rfl, ?_⟩) ?_ ?_
           rotate_left
           ·intro w'
            go_simp
            with_reducible rfl
           rotate_left
           ·simp only [Act.put, List.setIfInBounds_toArray, List.set_cons_zero, List.set_cons_succ, i64_w, i32_w]
            rfl
           refine pure_ (i := 8) (N := some 210) (v := ?_) (a' := ?_) #[false, true, true, true, true, true, false, false, true, false, false, false, false, false, false, false, false, false, false, false, false, false, false] rfl rfl (any_of HT_.out (by kernel_rfl)) (fun _ _ _ h => h) (Or.inl ⟨by rfl, ?_⟩) ?_ ?_
           rotate_left
           ·intro w'
            go_simp
            with_reducible rfl
           rotate_left
           ·simp only [Act.put, List.setIfInBounds_toArray, List.set_cons_zero, List.set_cons_succ, i64_w, i32_w]
            rfl
           refine pure_ (i := 9) (N := some 211) (v := ?_) (a' := ?_) #[false, true, true, true, true, true, false, false, true, true, false, false, false, false, false, false, false, false, false, false, false, false, false] rfl rfl (any_of HT_.out (by kernel_rfl)) (fun _ _ _ h => h) (Or.inl ⟨by rfl, ?_⟩) ?_ ?_
           rotate_left
           ·intro w'
            go_simp
            with_reducible rfl
           rotate_left
           ·simp only [Act.put, List.setIfInBounds_toArray, List.set_cons_zero, List.set_cons_succ, i64_w, i32_w]
            rfl
           refine pure_ (i := 10) (N := some 212) (v := ?_) (a' := ?_) #[false, true, true, true, true, true, false, false, true, true, true, false, false, false, false, false, false, false, false, false, false, false, false] rfl rfl (any_of HT_.out (by kernel_rfl)) (fun _ _ _ h => h) (Or.inl ⟨by rfl, ?_⟩) ?_ ?_
           rotate_left
           ·intro w'
            go_simp
            with_reducible rfl
           rotate_left
           ·simp only [Act.put, List.setIfInBounds_toArray, List.set_cons_zero, List.set_cons_succ, i64_w, i32_w]
            rfl
           refine pure_ (i := 11) (N := some 213) (v := ?_) (a' := ?_) #[false, true, true, true, true, true, false, false, true, true, true, true, false, false, false, false, false, false, false, false, false, false, false] rfl rfl (any_of HT_.out (by kernel_rfl)) (fun _ _ _ h => h) (Or.inl ⟨by rfl, ?_⟩) ?_ ?_
           rotate_left
           ·intro w'
            go_simp
            with_reducible rfl
           rotate_left
           ·simp only [Act.put, List.setIfInBounds_toArray, List.set_cons_zero, List.set_cons_succ, i64_w, i32_w]
            rfl
           refine pure_ (i := 12) (N := some 214) (v := ?_) (a' := ?_) #[false, true, true, true, true, true, false, false, true, true, true, true, true, false, false, false, false, false, false, false, false, false, false] rfl rfl (any_of HT_.out (by kernel_rfl)) (fun _ _ _ h => h) (Or.inl ⟨by rfl, ?_⟩) ?_ ?_
           rotate_left
           ·intro w'
            go_simp
            with_reducible rfl
           rotate_left
           ·simp only [Act.put, List.setIfInBounds_toArray, List.set_cons_zero, List.set_cons_succ, i64_w, i32_w]
            rfl
           refine take_ (i := 0) (N := some 202) (v := ?_) (a' := ?_) #[true, true, true, true, true, true, false, false, true, true, true, true, true, false, false, false, false, false, false, false, false, false, false] rfl rfl (take_ofW HT_.out HW_.out (by kernel_rfl)) (fun _ _ _ h => h) (Or.inl ⟨by rfl, ?_⟩) hHeld ?_ ?_
           rotate_left
           ·rintro w' ⟨s0, s1, s2, s3⟩
            go_simp
            with_reducible rfl
           rotate_left
           ·simp only [Act.put, List.setIfInBounds_toArray, List.set_cons_zero, List.set_cons_succ, i64_w, i32_w]
            rfl
           refine one_ (i := 6) (N := some 208) #[true, true, true, true, true, true, true, false, true, true, true, true, true, false, false, false, false, false, false, false, false, false, false] rfl rfl (one_of HT_.out (by kernel_rfl)) (by decide) (fun K hK => ?_)
           refine goes_ Try.func21 (by kernel_rfl) rfl #[.pointer (some ⟨g455, 0, none⟩), .int .i64 (wrap64 ((wrap64 (t426 + 50000)) + 1))] (by rfl) rfl rfl (by (try simp only [List.map_toArray, List.map_cons, List.map_nil]); first | done | rfl | (simp only [List.length_drop, List.length_take]; rfl)) ?_
           with_reducible refine (laws_dice_below.calls g455 t452 t453 t454 (wrap64 ((wrap64 (t426 + 50000)) + 1)) t456 t457 t458 w _ ?side1 ?side2 A62.out).mono ?_
           (case side1 => repeat (first | (with_reducible first | exact HI455.out | apply IsS60.alloc | apply IsS60.drewN | apply IsS60.drew | apply IsS60.set_1 | apply IsS60.set_2 | refine IsS60.far ?_ NB455_428.out _) | exact HI455.out))
           (case side2 => repeat (first | (with_reducible first | exact HB.out | apply below_alloc | apply pw_below_drewN | apply below_drew1 | refine below_set ?_ (IsS60.ge HI455.out) | refine below_set ?_ GE428.out) | exact HB.out))
           rintro e w69 ⟨rfl, hi, hb, hk⟩
           refine ⟨_, rfl, ?_⟩
           have n0_ := Aside0.mk (KeepBut.blk hk (g' := gb428) (o := .cells #[.int .i64 t422, .int .i64 t423, .int .i64 t424, .int .i64 t425] 25 (0, 0)) (by (with_reducible repeat (first | refine blk_drewN ?_ _ | refine blk_drew ?_ | refine blk_alloc ?_ _)); exact BK428.out) NB428_455.out (by simp))
           have n1_ := Aside0.mk (hb)
           have n2_ := Aside0.mk (hi)
           clear BK428
           clear HB
           clear HI455
           have BK428 := n0_
           have HB := n1_
           have HI455 := n2_
           clear n0_ n1_ n2_
           (try clear hb)
           (try clear hb2)
           (try clear hk)
           (try clear hi)
           refine hK.out _ _ ⟨(blk_cell BK428.out 0).trans rfl, (blk_cell BK428.out 1).trans rfl, (blk_cell BK428.out 2).trans rfl, (blk_cell BK428.out 3).trans rfl⟩ (fun hHeld => ?_)
           clear hK K
           refine norm_ (a' := ?_) ?_ ?_
           rotate_left
           ·show Act.put _ (some 208) _ = _
            simp only [Act.put, List.setIfInBounds_toArray, List.set_cons_zero, List.set_cons_succ, i64_w, i32_w]
            rfl
           refine pure_ (i := 7) (N := some 209) (v := ?_) (a' := ?_) #[true, true, true, true, true, true, true, true, true, true, true, true, true, false, false, false, false, false, false, false, false, false, false] rfl rfl (any_of HT_.out (by kernel_rfl)) (fun _ _ _ h => h) (Or.inl ⟨by rfl, ?_⟩) ?_ ?_
           rotate_left
           ·intro w'
            go_simp
            with_reducible rfl
           rotate_left
           ·simp only [Act.put, List.setIfInBounds_toArray, List.set_cons_zero, List.set_cons_succ, i64_w, i32_w]
            rfl
           refine one_ (i := 13) (N := some 215) #[true, true, true, true, true, true, true, true, true, true, true, true, true, true, false, false, false, false, false, false, false, false, false] rfl rfl (one_of HT_.out (by kernel_rfl)) (by decide) (fun K hK => ?_)
           refine goes_ Try.func21 (by kernel_rfl) rfl #[.pointer (some ⟨g455, 0, none⟩), .int .i64 (wrap64 ((wrap64 (50000 - t427)) + 1))] (by rfl) rfl rfl (by (try simp only [List.map_toArray, List.map_cons, List.map_nil]); first | done | rfl | (simp only [List.length_drop, List.length_take]; rfl)) ?_
           with_reducible refine (laws_dice_below.calls g455 t452 t457 t458 (wrap64 ((wrap64 (50000 - t427)) + 1)) t459 t460 t461 w _ ?side1 ?side2 A63.out).mono ?_
           (case side1 => repeat (first | (with_reducible first | exact HI455.out | apply IsS60.alloc | apply IsS60.drewN | apply IsS60.drew | apply IsS60.set_1 | apply IsS60.set_2 | refine IsS60.far ?_ NB455_428.out _) | exact HI455.out))
           (case side2 => repeat (first | (with_reducible first | exact HB.out | apply below_alloc | apply pw_below_drewN | apply below_drew1 | refine below_set ?_ (IsS60.ge HI455.out) | refine below_set ?_ GE428.out) | exact HB.out))
           rintro e w70 ⟨rfl, hi, hb, hk⟩
           refine ⟨_, rfl, ?_⟩
           have n0_ := Aside0.mk (KeepBut.blk hk (g' := gb428) (o := .cells #[.int .i64 t422, .int .i64 t423, .int .i64 t424, .int .i64 t425] 25 (0, 0)) (by (with_reducible repeat (first | refine blk_drewN ?_ _ | refine blk_drew ?_ | refine blk_alloc ?_ _)); exact BK428.out) NB428_455.out (by simp))
           have n1_ := Aside0.mk (hb)
           have n2_ := Aside0.mk (hi)
           clear BK428
           clear HB
           clear HI455
           have BK428 := n0_
           have HB := n1_
           have HI455 := n2_
           clear n0_ n1_ n2_
           (try clear hb)
           (try clear hb2)
           (try clear hk)
           (try clear hi)
           refine hK.out _ _ ⟨(blk_cell BK428.out 0).trans rfl, (blk_cell BK428.out 1).trans rfl, (blk_cell BK428.out 2).trans rfl, (blk_cell BK428.out 3).trans rfl⟩ (fun hHeld => ?_)
           clear hK K
           refine norm_ (a' := ?_) ?_ ?_
           rotate_left
           ·show Act.put _ (some 215) _ = _
            simp only [Act.put, List.setIfInBounds_toArray, List.set_cons_zero, List.set_cons_succ, i64_w, i32_w]
            rfl
           refine pure_ (i := 14) (N := some 216) (v := ?_) (a' := ?_) #[true, true, true, true, true, true, true, true, true, true, true, true, true, true, true, false, false, false, false, false, false, false, false] rfl rfl (any_of HT_.out (by kernel_rfl)) (fun _ _ _ h => h) (Or.inl ⟨by rfl, ?_⟩) ?_ ?_
           rotate_left
           ·intro w'
            go_simp
            with_reducible rfl
           rotate_left
           ·simp only [Act.put, List.setIfInBounds_toArray, List.set_cons_zero, List.set_cons_succ, i64_w, i32_w]
            rfl
           refine one_ (i := 15) (N := some 217) #[true, true, true, true, true, true, true, true, true, true, true, true, true, true, true, true, false, false, false, false, false, false, false] rfl rfl (one_of HT_.out (by kernel_rfl)) (by decide) (fun K hK => ?_)
           refine goes_ Try.func10 (by kernel_rfl) rfl #[.agg #[.int .i64 t422, .int .i64 t423, .int .i64 t424, .int .i64 t425], .int .i64 (wrap64 (t426 - t456)), .int .i64 (wrap64 (t427 + t459))] (by rfl) rfl rfl (by (try simp only [List.map_toArray, List.map_cons, List.map_nil]); first | done | rfl | (simp only [List.length_drop, List.length_take]; rfl)) ?_
           with_reducible refine (impl_StripOf.calls kj53 t422 t423 t424 t425 (wrap64 (t426 - t456)) (wrap64 (t427 + t459)) t462 t463 t464 _ A64.out).mono ?_
           rintro e w71 ⟨rfl, hb⟩
           refine ⟨_, rfl, ?_⟩
           have n0_ := Aside0.mk (blk_below (g := gb428) (o := .cells #[.int .i64 t422, .int .i64 t423, .int .i64 t424, .int .i64 t425] 25 (0, 0)) (by (with_reducible repeat (first | refine blk_drewN ?_ _ | refine blk_drew ?_ | refine blk_alloc ?_ _)); exact BK428.out) hb)
           have n1_ := Aside0.mk (IsS60.below (by repeat (first | (with_reducible first | exact HI455.out | apply IsS60.alloc | apply IsS60.drewN | apply IsS60.drew | apply IsS60.set_1 | apply IsS60.set_2 | refine IsS60.far ?_ NB455_428.out _) | exact HI455.out)) hb)
           have n2_ := Aside0.mk (below_step (by repeat (first | (with_reducible first | exact HB.out | apply below_alloc | apply pw_below_drewN | apply below_drew1 | refine below_set ?_ (IsS60.ge HI455.out) | refine below_set ?_ GE428.out) | exact HB.out)) hb)
           clear BK428
           clear HI455
           clear HB
           have BK428 := n0_
           have HI455 := n1_
           have HB := n2_
           clear n0_ n1_ n2_
           (try clear hb)
           (try clear hb2)
           (try clear hk)
           (try clear hi)
           refine hK.out _ _ ⟨(blk_cell BK428.out 0).trans rfl, (blk_cell BK428.out 1).trans rfl, (blk_cell BK428.out 2).trans rfl, (blk_cell BK428.out 3).trans rfl⟩ (fun hHeld => ?_)
           clear hK K
           refine norm_ (a' := ?_) ?_ ?_
           rotate_left
           ·show Act.put _ (some 217) _ = _
            simp only [Act.put, List.setIfInBounds_toArray, List.set_cons_zero, List.set_cons_succ, i64_w, i32_w]
            rfl
           refine pure_ (i := 16) (N := some 201) (v := ?_) (a' := ?_) #[true, true, true, true, true, true, true, true, true, true, true, true, true, true, true, true, true, false, false, false, false, false, false] rfl rfl (any_of HT_.out (by kernel_rfl)) (fun _ _ _ h => h) (Or.inl ⟨by rfl, ?_⟩) ?_ ?_
           rotate_left
           ·intro w'
            go_simp
            with_reducible rfl
           rotate_left
           ·simp only [Act.put, List.setIfInBounds_toArray, List.set_cons_zero, List.set_cons_succ, i64_w, i32_w]
            rfl
           refine pure_ (i := 17) (N := some 218) (v := ?_) (a' := ?_) #[true, true, true, true, true, true, true, true, true, true, true, true, true, true, true, true, true, true, false, false, false, false, false] rfl rfl (any_of HT_.out (by kernel_rfl)) (fun _ _ _ h => h) (Or.inl ⟨by rfl, ?_⟩) ?_ ?_
           rotate_left
           ·intro w'
            go_simp
            with_reducible rfl
           rotate_left
           ·simp only [Act.put, List.setIfInBounds_toArray, List.set_cons_zero, List.set_cons_succ, i64_w, i32_w]
            rfl
           refine pure_ (i := 18) (N := some 219) (v := ?_) (a' := ?_) #[true, true, true, true, true, true, true, true, true, true, true, true, true, true, true, true, true, true, true, false, false, false, false] rfl rfl (any_of HT_.out (by kernel_rfl)) (fun _ _ _ h => h) (Or.inl ⟨by rfl, ?_⟩) ?_ ?_
           rotate_left
           ·intro w'
            go_simp
            with_reducible rfl
           rotate_left
           ·simp only [Act.put, List.setIfInBounds_toArray, List.set_cons_zero, List.set_cons_succ, i64_w, i32_w]
            rfl
           refine pure_ (i := 19) (N := some 220) (v := ?_) (a' := ?_) #[true, true, true, true, true, true, true, true, true, true, true, true, true, true, true, true, true, true, true, true, false, false, false] rfl rfl (any_of HT_.out (by kernel_rfl)) (fun _ _ _ h => h) (Or.inl ⟨by rfl, ?_⟩) ?_ ?_
           rotate_left
           ·intro w'
            go_simp
            with_reducible rfl
           rotate_left
           ·simp only [Act.put, List.setIfInBounds_toArray, List.set_cons_zero, List.set_cons_succ, i64_w, i32_w]
            rfl
           refine pure_ (i := 20) (N := some 29) (v := ?_) (a' := ?_) #[true, true, true, true, true, true, true, true, true, true, true, true, true, true, true, true, true, true, true, true, true, false, false] rfl rfl (any_of HT_.out (by kernel_rfl)) (fun _ _ _ h => h) (Or.inl ⟨by rfl, ?_⟩) ?_ ?_
           rotate_left
           ·intro w'
            go_simp
            with_reducible rfl
           rotate_left
           ·simp only [Act.put, List.setIfInBounds_toArray, List.set_cons_zero, List.set_cons_succ, i64_w, i32_w]
            rfl
           refine pure_ (i := 21) (N := some 30) (v := ?_) (a' := ?_) #[true, true, true, true, true, true, true, true, true, true, true, true, true, true, true, true, true, true, true, true, true, true, false] rfl rfl (any_of HT_.out (by kernel_rfl)) (fun _ _ _ h => h) (Or.inl ⟨by rfl, ?_⟩) ?_ ?_
           rotate_left
           ·intro w'
            go_simp
            with_reducible rfl
           rotate_left
           ·simp only [Act.put, List.setIfInBounds_toArray, List.set_cons_zero, List.set_cons_succ, i64_w, i32_w]
            rfl
           refine pure_ (i := 22) (N := some 31) (v := ?_) (a' := ?_) #[true, true, true, true, true, true, true, true, true, true, true, true, true, true, true, true, true, true, true, true, true, true, true] rfl rfl (any_of HT_.out (by kernel_rfl)) (fun _ _ _ h => h) (Or.inl ⟨by rfl, ?_⟩) ?_ ?_
           rotate_left
           ·intro w'
            go_simp
            with_reducible rfl
           rotate_left
           ·simp only [Act.put, List.setIfInBounds_toArray, List.set_cons_zero, List.set_cons_succ, i64_w, i32_w]
            rfl
           refine done_ (done_of HT_.out (by kernel_rfl)) ?_
           try go_wp2
           go_ret
           exact ⟨by first | rfl | (simp [errW_none, errW_some] <;> rfl) | (simp [*, errW_none, errW_some] <;> rfl), by repeat (first | (with_reducible first | exact HB.out | apply below_alloc | apply pw_below_drewN | apply below_drew1 | refine below_set ?_ (IsS60.ge HI455.out) | refine below_set ?_ GE428.out) | exact HB.out)⟩
          ·rw [if_neg c66] at H
           have c66b0 : decide (t462 ≤ t429) = false := decide_eq_false c66
           clear c66
           exact absurd ((Option.some.inj H).trans HR_.out) (by decide)
         ·rw [if_neg c65] at H
          have c65b0 : (t464 == 0) = false := beq_eq_false_iff_ne.mpr c65
          have c65b1 : (t464 != 0) = true := bne_iff_ne.mpr c65
          exact absurd ((Option.some.inj H).trans HR_.out) (by decide)
     ·rw [if_neg c53] at H
      have c53b0 : (t431 == 0) = false := beq_eq_false_iff_ne.mpr c53
      have c53b1 : (t431 != 0) = true := bne_iff_ne.mpr c53
      obtain rfl := Option.some.inj H
      go_wp2
      go_ret
      exact ⟨by first | rfl | (simp [errW_none, errW_some] <;> rfl) | (simp [*, errW_none, errW_some] <;> rfl), by repeat (first | (with_reducible first | exact HB.out | apply below_alloc | apply pw_below_drewN | apply below_drew1 | refine below_set ?_ GE428.out) | exact HB.out)⟩
def laws_FnStrips.Pure : Prop := ∀ (l0 : List Int), l0.length ≤ maxLen → l0.length * 1 ≤ 140737488351232 → (∀ x ∈ l0, (Lit.int .u8 x).wf = true) → ∃ k, laws_FnStrips.f k l0 = some true
theorem laws_FnStrips.walk (P : laws_FnStrips.Pure) (a0 : Option Addr) (len0 cap0 : Nat) (z0 : List Int) (w : World) (w0 : (a0 = none ∧ len0 = 0 ∧ cap0 = 0 ∧ z0 = []) ∨ ∃ x, a0 = some x ∧ len0 ≤ cap0 ∧ cap0 ≤ maxLen ∧ z0.length = cap0 ∧ (∀ i, i < z0.length → w.cell? (x.add i) = some (.int .u8 (z0.getD i 0))) ∧ ∀ n ∈ z0, (Lit.int .u8 n).wf = true) (y0 : len0 * 1 ≤ 140737488351232) :
  Calls Try.prog 4 #[.slice a0 len0 cap0] w fun e w' => e = .returned (.bool true) ∧ Below w.heap.size w w' := by
 obtain ⟨l0, rfl, hr0, hm0, hw0, hc0⟩ := ReadsInt.ofRowC w0
 obtain ⟨k, h⟩ := P l0 hm0 y0 hw0
 refine (laws_FnStrips.calls k _ _ l0 true w (Kd.C_of_reads (d := (0 : Int)) (h1 := fun _ => rfl) hr0) hc0 h rfl).mono ?_
 rintro e w' ⟨rfl, hd⟩
 exact ⟨rfl, hd⟩
end Go.Proofs.Ytbleliajcbdijaa.F
namespace Go.Proofs.Ytbleliajcbdijaa.F
open Go.RowKit Go.Proofs.YtbleliajcbdijaaW.PrintWords Go.Proofs.YtbleliajcbdijaaW.PrintLast Go.Proofs.YtbleliajcbdijaaW.PrintMore
set_option linter.unusedVariables false
set_option linter.unusedSimpArgs false
def Evt (P : Nat → Prop) : Prop := ∃ K, ∀ k, K ≤ k → P k
theorem Evt.and {P Q : Nat → Prop} (h : Evt P) (h' : Evt Q) : Evt (fun k => P k ∧ Q k) := by
 obtain ⟨K, h⟩ := h
 obtain ⟨K', h'⟩ := h'
 exact ⟨K + K', fun k hk => ⟨h k (by omega), h' k (by omega)⟩⟩
theorem Evt.mono {P Q : Nat → Prop} (h : Evt P) (hq : ∀ k, P k → Q k) : Evt Q := by
 obtain ⟨K, h⟩ := h
 exact ⟨K, fun k hk => hq k (h k hk)⟩
theorem Evt.succ {P : Nat → Prop} (h : Evt (fun k => P (k + 1))) : Evt P := by
 obtain ⟨K, h⟩ := h
 refine ⟨K + 1, fun k hk => ?_⟩
 obtain ⟨m, rfl⟩ : ∃ m, k = m + 1 := ⟨k - 1, by omega⟩
 exact h m (by omega)
theorem w64 {n : Int} (h : -9223372036854775808 ≤ n ∧ n ≤ 9223372036854775807) : wrap64 n = n := by unfold wrap64; omega
def inB (n lo hi : Int) : Bool := decide (lo ≤ n ∧ n ≤ hi)
theorem inB_true {n lo hi : Int} : inB n lo hi = true ↔ lo ≤ n ∧ n ≤ hi := by unfold inB; exact decide_eq_true_iff
theorem inB_false {n lo hi : Int} : inB n lo hi = false ↔ ¬ (lo ≤ n ∧ n ≤ hi) := by unfold inB; exact decide_eq_false_iff_not
end Go.Proofs.Ytbleliajcbdijaa.F
namespace Go.Proofs.Ytbleliajcbdijaa.F
open Go.RowKit Go.Proofs.YtbleliajcbdijaaW.PrintWords Go.Proofs.YtbleliajcbdijaaW.PrintLast Go.Proofs.YtbleliajcbdijaaW.PrintMore
set_option linter.unusedVariables false
set_option linter.unusedSimpArgs false
theorem In_eq (n lo hi : Int) : spec_l01In.f n lo hi = some (inB n lo hi) := by
 unfold spec_l01In.f inB
 by_cases h : n ≥ lo
 ·rw [if_pos h]; congr 1; simp; omega
 ·rw [if_neg h]; congr 1; simp; omega
theorem Wi_eq (n lo hi : Int) : impl_within.f n lo hi = some (inB n lo hi) := by
 unfold impl_within.f inB
 by_cases h : lo ≤ n
 ·rw [if_pos h]; congr 1; simp; omega
 ·rw [if_neg h]; congr 1; simp; omega
end Go.Proofs.Ytbleliajcbdijaa.F
namespace Go.Proofs.Ytbleliajcbdijaa.F
open Go.RowKit Go.Proofs.YtbleliajcbdijaaW.PrintWords Go.Proofs.YtbleliajcbdijaaW.PrintLast Go.Proofs.YtbleliajcbdijaaW.PrintMore
set_option linter.unusedVariables false
set_option linter.unusedSimpArgs false
theorem tdiv_pos {a b : Int} (hb : 0 < b) : (Int.tmod a b < 0 → Int.tdiv a b = a / b + 1) ∧ (¬ Int.tmod a b < 0 → Int.tdiv a b = a / b) := by
 have h1 := Int.emod_nonneg a (show b ≠ 0 by omega)
 have h2 := Int.emod_lt_of_pos a hb
 have h3 : Int.sign b = 1 := Int.sign_eq_one_of_pos hb
 rw [Int.tmod_eq_emod, Int.tdiv_eq_ediv, h3]
 by_cases h : 0 ≤ a ∨ b ∣ a
 ·rw [if_pos h, if_pos h]
  omega
 ·rw [if_neg h, if_neg h]
  omega
theorem ediv_small {a b : Int} (hb : 0 < b) (ha : -4611686018427387904 ≤ a ∧ a ≤ 4611686018427387904) : -4611686018427387904 ≤ a / b ∧ a / b ≤ 4611686018427387904 := by
 constructor
 ·exact (Int.le_ediv_iff_mul_le hb).2 (by
   have : -4611686018427387904 * b ≤ -4611686018427387904 * 1 := Int.mul_le_mul_of_nonpos_left (by omega) (by omega)
   omega)
 ·by_cases h : 0 ≤ a
  ·have := Int.ediv_le_self b h
   omega
  ·have := Int.ediv_neg_of_neg_of_pos (show a < 0 by omega) hb
   omega
theorem Fl_eq {a b : Int} (hb : 0 < b) (ha : -4611686018427387904 ≤ a ∧ a ≤ 4611686018427387904) : impl_floorDiv.f a b = some (a / b) := by
 have h := tdiv_pos (a := a) hb
 have hs := ediv_small hb ha
 unfold impl_floorDiv.f
 rw [if_neg (by omega)]
 by_cases hm : Int.tmod a b < 0
 ·rw [if_pos hm, h.1 hm, w64 (n := a / b + 1) (by omega), w64 (by omega)]
  congr 1; omega
 ·rw [if_neg hm, h.2 hm, w64 (by omega)]
theorem SFl_eq {a b : Int} (hb : 0 < b) (ha : -4611686018427387904 ≤ a ∧ a ≤ 4611686018427387904) : spec_l01Floor.f a b = some (a / b) := by
 have h := tdiv_pos (a := a) hb
 have hs := ediv_small hb ha
 unfold spec_l01Floor.f
 rw [if_neg (by omega), if_neg (by omega)]
 by_cases hm : Int.tmod a b < 0
 ·rw [if_pos hm, h.1 hm, w64 (n := a / b + 1) (by omega), w64 (by omega)]
  congr 1; omega
 ·rw [if_neg hm, h.2 hm, w64 (by omega)]
theorem tdiv_nn {a b : Int} (ha : 0 ≤ a) : Int.tdiv a b = a / b := Int.tdiv_eq_ediv_of_nonneg ha
theorem prod_nn {a b A B : Int} (ha : 0 ≤ a ∧ a ≤ A) (hb : 0 ≤ b ∧ b ≤ B) : 0 ≤ a * b ∧ a * b ≤ A * B := ⟨Int.mul_nonneg ha.1 hb.1, Int.mul_le_mul ha.2 hb.2 hb.1 (by omega)⟩
theorem prod_abs {a b A B : Int} (ha : -A ≤ a ∧ a ≤ A) (hb : 0 ≤ b ∧ b ≤ B) : -(A * B) ≤ a * b ∧ a * b ≤ A * B := by
 have h1 : a * b ≤ A * b := Int.mul_le_mul_of_nonneg_right ha.2 hb.1
 have h2 : (-A) * b ≤ a * b := Int.mul_le_mul_of_nonneg_right ha.1 hb.1
 have h3 : A * b ≤ A * B := Int.mul_le_mul_of_nonneg_left hb.2 (by omega)
 rw [Int.neg_mul] at h2
 omega
end Go.Proofs.Ytbleliajcbdijaa.F
namespace Go.Proofs.Ytbleliajcbdijaa.F
open Go.RowKit Go.Proofs.YtbleliajcbdijaaW.PrintWords Go.Proofs.YtbleliajcbdijaaW.PrintLast Go.Proofs.YtbleliajcbdijaaW.PrintMore
set_option linter.unusedVariables false
set_option linter.unusedSimpArgs false
def gg (up t : Int) : Int := 2000 * up * t - 9810 * t * t
def HH (up t : Int) : Int := gg up t / 2000000
def lastT (up : Int) : Int := 1000 * up / 9810
theorem gg_small {up t : Int} (hu : 0 ≤ up ∧ up ≤ 200000) (ht : 0 ≤ t ∧ t ≤ 60001) : 0 ≤ 2000 * up * t ∧ 2000 * up * t ≤ 24000400000000 ∧ 0 ≤ 9810 * t * t ∧ 9810 * t * t ≤ 35317177209810 := by
 have h1 := prod_nn (a := 2000 * up) (b := t) (A := 400000000) (B := 60001) (by omega) ht
 have h2 := prod_nn (a := 9810 * t) (b := t) (A := 588609810) (B := 60001) (by omega) ht
 omega
theorem H_spec {up t : Int} (hu : 0 ≤ up ∧ up ≤ 200000) (ht : 0 ≤ t ∧ t ≤ 60001) : spec_l04Height.f up t = some (HH up t) := by
 have h := gg_small hu ht
 unfold spec_l04Height.f
 rw [w64 (n := 2000 * up) (by omega), w64 (n := 2000 * up * t) (by omega), w64 (n := 9810 * t) (by omega), w64 (n := 9810 * t * t) (by omega), w64 (n := 2000 * up * t - _) (by omega), SFl_eq (by omega) (by omega)]
 rfl
theorem H_impl {up t : Int} (hu : 0 ≤ up ∧ up ≤ 200000) (ht : 0 ≤ t ∧ t ≤ 60001) : impl_heightAt.f up t = some (HH up t) := by
 have h := gg_small hu ht
 unfold impl_heightAt.f
 rw [w64 (n := 2000 * up) (by omega), w64 (n := 2000 * up * t) (by omega), w64 (n := 9810 * t) (by omega), w64 (n := 9810 * t * t) (by omega), w64 (n := 2000 * up * t - _) (by omega), Fl_eq (by omega) (by omega)]
 rfl
theorem gg_step (up t : Int) : gg up (t + 1) = gg up t + 2000 * up - 9810 * (2 * t + 1) := by
 unfold gg
 rw [Int.mul_add (2000 * up), Int.mul_add 9810, Int.mul_add, Int.add_mul]
 omega
theorem last_le {up : Int} (hu : 0 ≤ up ∧ up ≤ 200000) : 0 ≤ lastT up ∧ lastT up ≤ 20387 ∧ 9810 * lastT up ≤ 1000 * up ∧ 1000 * up < 9810 * lastT up + 9810 := by unfold lastT; omega
theorem HH_of_gg {up s t : Int} (h : gg up s ≤ gg up t) : HH up s ≤ HH up t := Int.ediv_le_ediv (by omega) h
theorem gg_rise {up : Int} (hu : 0 ≤ up ∧ up ≤ 200000) {s : Int} (hs : 0 ≤ s) : ∀ n : Nat, s + n ≤ lastT up → gg up s ≤ gg up (s + n)
 | 0, _ => by rw [Int.natCast_zero, Int.add_zero]; exact Int.le_refl _
 | n + 1, h => by
  have h1 := gg_rise hu hs n (by omega)
  have h2 := gg_step up (s + n)
  have h3 := last_le hu
  rw [show s + ((n + 1 : Nat) : Int) = s + n + 1 by omega]
  omega
theorem H_rise {up s t : Int} (hu : 0 ≤ up ∧ up ≤ 200000) (hs : 0 ≤ s) (hst : s ≤ t) (ht : t ≤ lastT up) : HH up s ≤ HH up t := by
 have := gg_rise hu hs (t - s).toNat (by omega)
 rw [show s + ((t - s).toNat : Int) = t by omega] at this
 exact HH_of_gg this
theorem gg_fall {up : Int} (hu : 0 ≤ up ∧ up ≤ 200000) {s : Int} (hs : lastT up + 1 ≤ s) : ∀ n : Nat, gg up (s + n) ≤ gg up s
 | 0 => by rw [Int.natCast_zero, Int.add_zero]; exact Int.le_refl _
 | n + 1 => by
  have h1 := gg_fall hu hs n
  have h2 := gg_step up (s + n)
  have h3 := last_le hu
  rw [show s + ((n + 1 : Nat) : Int) = s + n + 1 by omega]
  omega
theorem H_fall {up s t : Int} (hu : 0 ≤ up ∧ up ≤ 200000) (hs : lastT up + 1 ≤ s) (hst : s ≤ t) : HH up t ≤ HH up s := by
 have := gg_fall hu hs (t - s).toNat
 rw [show s + ((t - s).toNat : Int) = t by omega] at this
 exact HH_of_gg this
def IsTop (up t top : Int) : Prop := 0 ≤ t ∧ t ≤ lastT up + 1 ∧ HH up t = top ∧ (∀ s, 0 ≤ s → s < t → HH up s < top) ∧ ∀ s, 0 ≤ s → s ≤ lastT up + 1 → HH up s ≤ top
theorem IsTop.unique {up t top t' top' : Int} (h : IsTop up t top) (h' : IsTop up t' top') : t' = t ∧ top' = top := by
 obtain ⟨a, b, c, d, e⟩ := h
 obtain ⟨a', b', c', d', e'⟩ := h'
 have h1 := e t' a' b'
 have h2 := e' t a b
 refine ⟨?_, by omega⟩
 rcases Int.lt_trichotomy t t' with x | x | x
 ·have := d' t a x; omega
 ·exact x.symm
 ·have := d t' a' x; omega
theorem top_all {up top : Int} (hu : 0 ≤ up ∧ up ≤ 200000) (h1 : HH up (lastT up) ≤ top) (h2 : HH up (lastT up + 1) ≤ top) : ∀ s, 0 ≤ s → s ≤ lastT up + 1 → HH up s ≤ top := by
 intro s hs hs2
 by_cases e : s = lastT up + 1
 ·rw [e]; exact h2
 ·exact Int.le_trans (H_rise hu hs (by omega) (Int.le_refl _)) h1
theorem spec_top_loop {up top : Int} (hu : 0 ≤ up ∧ up ≤ 200000) (n : Nat) : ∀ (k : Nat) (t : Int), t = n → t ≤ lastT up → HH up t = top → n < k →
  ∃ r, spec_l04Top.l0 k up t top = some (r, top) ∧ 0 ≤ r ∧ r ≤ lastT up ∧ HH up r = top ∧ ∀ s, 0 ≤ s → s < r → HH up s < top := by
 have hl := last_le hu
 induction n with
 | zero =>
  intro k t ht h1 h2 hk
  obtain ⟨k, rfl⟩ : ∃ m, k = m + 1 := ⟨k - 1, by omega⟩
  refine ⟨t, ?_, by omega, h1, h2, fun s h3 h4 => by omega⟩
  simp only [spec_l04Top.l0]
  rw [if_neg (by omega), H_spec hu (by omega)]
  simp only [Option.bind_some]
  rw [if_neg (by omega)]
 | succ n ih =>
  intro k t ht h1 h2 hk
  obtain ⟨k, rfl⟩ : ∃ m, k = m + 1 := ⟨k - 1, by omega⟩
  simp only [spec_l04Top.l0]
  rw [if_pos (by omega), w64 (by omega), H_spec hu (by omega), H_spec hu (by omega)]
  simp only [Option.bind_some]
  by_cases e : HH up (t - 1) = top
  ·rw [if_pos e]
   exact ih k (t - 1) (by omega) (by omega) e (by omega)
  ·rw [if_neg e, if_neg (by omega)]
   refine ⟨t, rfl, by omega, h1, h2, fun s h3 h4 => ?_⟩
   have h5 := H_rise hu h3 (show s ≤ t - 1 by omega) (by omega)
   have h6 := H_rise hu (show 0 ≤ t - 1 by omega) (show t - 1 ≤ t by omega) h1
   omega
theorem spec_top {up : Int} (hu : 0 ≤ up ∧ up ≤ 200000) (k : Nat) (hk : 30000 ≤ k) : ∃ t top, spec_l04Top.f k up = some (t, top) ∧ IsTop up t top := by
 have hl := last_le hu
 unfold spec_l04Top.f
 rw [w64 (n := 1000 * up) (by omega), tdiv_nn (by omega)]
 show ∃ t top, ((spec_l04Height.f up (wrap64 (lastT up))).bind fun t174 => ((spec_l04Height.f up (wrap64 (wrap64 (lastT up) + 1))).bind fun t175 => spec_l04Top.l0 k up (wrap64 (lastT up)) (mx t174 t175))) = some (t, top) ∧ _
 rw [w64 (n := lastT up) (by omega), w64 (n := lastT up + 1) (by omega), H_spec hu (by omega), H_spec hu (by omega)]
 simp only [Option.bind_some]
 by_cases c : HH up (lastT up) < HH up (lastT up + 1)
 ·have em : mx (HH up (lastT up)) (HH up (lastT up + 1)) = HH up (lastT up + 1) := by unfold mx; rw [if_pos c]
  rw [em]
  obtain ⟨k, rfl⟩ : ∃ m, k = m + 1 := ⟨k - 1, by omega⟩
  refine ⟨lastT up + 1, HH up (lastT up + 1), ?_, by omega, by omega, rfl, fun s h1 h2 => ?_, top_all hu (by omega) (Int.le_refl _)⟩
  ·simp only [spec_l04Top.l0]
   by_cases h0 : lastT up > 0
   ·have h6 := H_rise hu (show 0 ≤ lastT up - 1 by omega) (show lastT up - 1 ≤ lastT up by omega) (Int.le_refl _)
    rw [if_pos h0, w64 (n := lastT up - 1) (by omega), H_spec hu (by omega), H_spec hu (by omega)]
    simp only [Option.bind_some]
    rw [if_neg (by omega), if_pos c, w64 (by omega)]
   ·rw [if_neg h0, H_spec hu (by omega)]
    simp only [Option.bind_some]
    rw [if_pos c, w64 (by omega)]
  ·exact Int.lt_of_le_of_lt (H_rise hu h1 (by omega) (Int.le_refl _)) c
 ·have em : mx (HH up (lastT up)) (HH up (lastT up + 1)) = HH up (lastT up) := by unfold mx; rw [if_neg c]
  rw [em]
  obtain ⟨r, hr, h1, h2, h3, h4⟩ := spec_top_loop (top := HH up (lastT up)) hu (lastT up).toNat k (lastT up) (by omega) (Int.le_refl _) rfl (by omega)
  exact ⟨r, _, hr, h1, by omega, h3, h4, top_all hu (Int.le_refl _) (by omega)⟩
theorem impl_top_loop {up top : Int} (hu : 0 ≤ up ∧ up ≤ 200000) (n : Nat) : ∀ (k : Nat) (lo hi : Int), hi - lo ≤ n → 0 ≤ lo → lo ≤ hi → hi ≤ lastT up → top ≤ HH up hi → (∀ s, 0 ≤ s → s < lo → HH up s < top) → n < k →
  ∃ r, impl_topOf.l0 k up top lo hi = some (r, top) ∧ 0 ≤ r ∧ r ≤ lastT up ∧ top ≤ HH up r ∧ ∀ s, 0 ≤ s → s < r → HH up s < top := by
 have hl := last_le hu
 induction n with
 | zero =>
  intro k lo hi h1 h2 h3 h4 h5 h6 hk
  obtain ⟨k, rfl⟩ : ∃ m, k = m + 1 := ⟨k - 1, by omega⟩
  have e : lo = hi := by omega
  subst e
  refine ⟨lo, ?_, h2, h4, h5, h6⟩
  simp only [impl_topOf.l0]
  rw [if_neg (by omega)]
 | succ n ih =>
  intro k lo hi h1 h2 h3 h4 h5 h6 hk
  obtain ⟨k, rfl⟩ : ∃ m, k = m + 1 := ⟨k - 1, by omega⟩
  simp only [impl_topOf.l0]
  by_cases c : lo < hi
  ·rw [if_pos c, w64 (n := lo + hi) (by omega), tdiv_nn (by omega), w64 (n := (lo + hi) / 2) (by omega), H_impl hu (by omega)]
   simp only [Option.bind_some]
   by_cases d : HH up ((lo + hi) / 2) ≥ top
   ·rw [if_pos d]
    exact ih k lo ((lo + hi) / 2) (by omega) h2 (by omega) (by omega) d h6 (by omega)
   ·rw [if_neg d, w64 (by omega)]
    refine ih k ((lo + hi) / 2 + 1) hi (by omega) (by omega) (by omega) h4 h5 (fun s h7 h8 => ?_) (by omega)
    have := H_rise hu h7 (show s ≤ (lo + hi) / 2 by omega) (by omega)
    omega
  ·rw [if_neg c]
   have e : lo = hi := by omega
   subst e
   exact ⟨lo, rfl, h2, h4, h5, h6⟩
theorem impl_top {up : Int} (hu : 0 ≤ up ∧ up ≤ 200000) (k : Nat) (hk : 30000 ≤ k) : ∃ t top, impl_topOf.f k up = some (t, top) ∧ IsTop up t top := by
 have hl := last_le hu
 unfold impl_topOf.f
 rw [w64 (n := 1000 * up) (by omega), tdiv_nn (by omega)]
 show ∃ t top, ((impl_heightAt.f up (wrap64 (lastT up))).bind fun t202 => ((impl_heightAt.f up (wrap64 (wrap64 (lastT up) + 1))).bind fun t203 => (if t203 > t202 then (some (wrap64 (wrap64 (lastT up) + 1), t203)) else (impl_topOf.l0 k up t202 0 (wrap64 (lastT up)))))) = some (t, top) ∧ _
 rw [w64 (n := lastT up) (by omega), w64 (n := lastT up + 1) (by omega), H_impl hu (by omega), H_impl hu (by omega)]
 simp only [Option.bind_some]
 by_cases c : HH up (lastT up) < HH up (lastT up + 1)
 ·rw [if_pos c]
  exact ⟨_, _, rfl, by omega, by omega, rfl, fun s h1 h2 => Int.lt_of_le_of_lt (H_rise hu h1 (by omega) (Int.le_refl _)) c, top_all hu (by omega) (Int.le_refl _)⟩
 ·rw [if_neg c]
  obtain ⟨r, hr, h1, h2, h3, h4⟩ := impl_top_loop (top := HH up (lastT up)) hu (lastT up).toNat k 0 (lastT up) (by omega) (by omega) (by omega) (Int.le_refl _) (Int.le_refl _) (fun s h1 h2 => by omega) (by omega)
  have h5 := H_rise hu h1 h2 (Int.le_refl _)
  exact ⟨r, _, hr, h1, by omega, by omega, h4, top_all hu (Int.le_refl _) (by omega)⟩
theorem top_both {up : Int} (hu : 0 ≤ up ∧ up ≤ 200000) : ∃ t top, IsTop up t top ∧ (∀ k, 30000 ≤ k → spec_l04Top.f k up = some (t, top)) ∧ ∀ k, 30000 ≤ k → impl_topOf.f k up = some (t, top) := by
 obtain ⟨t, top, _, h⟩ := spec_top hu 30000 (Nat.le_refl _)
 refine ⟨t, top, h, fun k hk => ?_, fun k hk => ?_⟩
 ·obtain ⟨t', top', e, h'⟩ := spec_top hu k hk
  obtain ⟨rfl, rfl⟩ := h.unique h'
  exact e
 ·obtain ⟨t', top', e, h'⟩ := impl_top hu k hk
  obtain ⟨rfl, rfl⟩ := h.unique h'
  exact e
theorem top_range {up t top : Int} (hu : 0 ≤ up ∧ up ≤ 200000) (h : IsTop up t top) : 0 ≤ t ∧ t ≤ 20388 ∧ 0 ≤ top ∧ top ≤ 12000200 := by
 have hl := last_le hu
 obtain ⟨a, b, c, d, e⟩ := h
 have h0 := e 0 (Int.le_refl _) (by omega)
 have h1 : HH up 0 = 0 := by unfold HH gg; rw [Int.mul_zero, Int.mul_zero]; rfl
 have h2 := gg_small hu (show 0 ≤ t ∧ t ≤ 60001 by omega)
 have h3 : HH up t ≤ 24000400000000 / 2000000 := Int.ediv_le_ediv (by omega) (by unfold gg; omega)
 omega
def topPair (up : Int) : Int × Int := (impl_topOf.f 30000 up).getD (0, 0)
def tTop (up : Int) : Int := (topPair up).1
def vTop (up : Int) : Int := (topPair up).2
theorem top_is {up : Int} (hu : 0 ≤ up ∧ up ≤ 200000) : IsTop up (tTop up) (vTop up) ∧ (∀ k, 30000 ≤ k → spec_l04Top.f k up = some (tTop up, vTop up)) ∧ (∀ k, 30000 ≤ k → impl_topOf.f k up = some (tTop up, vTop up)) := by
 obtain ⟨t, top, h, hs, hi⟩ := top_both hu
 have e : topPair up = (t, top) := by unfold topPair; rw [hi 30000 (Nat.le_refl _)]; rfl
 unfold tTop vTop
 rw [e]
 exact ⟨h, hs, hi⟩
theorem tTop_range {up : Int} (hu : 0 ≤ up ∧ up ≤ 200000) : 0 ≤ tTop up ∧ tTop up ≤ 20388 ∧ 0 ≤ vTop up ∧ vTop up ≤ 12000200 := top_range hu (top_is hu).1
end Go.Proofs.Ytbleliajcbdijaa.F
namespace Go.Proofs.Ytbleliajcbdijaa.F
open Go.RowKit Go.Proofs.YtbleliajcbdijaaW.PrintWords Go.Proofs.YtbleliajcbdijaaW.PrintLast Go.Proofs.YtbleliajcbdijaaW.PrintMore
set_option linter.unusedVariables false
set_option linter.unusedSimpArgs false
def isShot (u s f r : Int) : Bool := inB u 0 200000 && (inB s (-50000) 50000 && (inB f 100 10000 && inB r 0 200000))
def areWinds (lo hi : Int) : Bool := inB lo (-50000) 50000 && inB hi lo 50000
theorem spec_shot (u s f r : Int) : spec_IsShot.f u s f r = some (isShot u s f r) := by
 unfold spec_IsShot.f spec_l04Code.f isShot
 simp only [In_eq, Option.bind_some]
 cases inB u 0 200000 <;> cases inB s (-50000) 50000 <;> cases inB f 100 10000 <;> cases inB r 0 200000 <;> rfl
theorem impl_shot (u s f r : Int) : impl_IsShot.f u s f r = some (isShot u s f r) := by
 unfold impl_IsShot.f impl_isUp.f impl_isSide.f isShot
 simp only [Wi_eq, Option.bind_some]
 cases inB u 0 200000 <;> cases inB s (-50000) 50000 <;> cases inB f 100 10000 <;> cases inB r 0 200000 <;> rfl
theorem spec_winds (lo hi : Int) : spec_l06Winds.f lo hi = some (areWinds lo hi) := by
 unfold spec_l06Winds.f areWinds
 simp only [In_eq, Option.bind_some]
 cases inB lo (-50000) 50000 <;> cases inB hi lo 50000 <;> rfl
theorem impl_winds (lo hi : Int) : impl_areWinds.f lo hi = some (areWinds lo hi) := by
 unfold impl_areWinds.f impl_isSide.f areWinds
 simp only [Wi_eq, Option.bind_some]
 cases h : inB lo (-50000) 50000 with
 | false => rfl
 | true =>
  rw [inB_true] at h
  rw [if_pos rfl, Bool.true_and]
  cases h2 : inB hi (-50000) 50000 with
  | false =>
   rw [inB_false] at h2
   rw [inB_false.2 (by omega)]; rfl
  | true =>
   rw [inB_true] at h2
   rw [if_pos rfl]
   congr 1
   rw [Bool.eq_iff_iff, inB_true, decide_eq_true_iff]
   omega
theorem spec_code1 (u s f r lo hi : Int) (k : Nat) (hk : 1 < k) : spec_l06Code.f k [(⟨u, s, f, r⟩ : S25)] lo hi = some (if isShot u s f r = true then (if areWinds lo hi = true then 0 else 2) else 1) := by
 obtain ⟨k, rfl⟩ : ∃ m, k = m + 1 + 1 := ⟨k - 2, by omega⟩
 have e : (([(⟨u, s, f, r⟩ : S25)] : List S25).length : Int) = 1 := rfl
 have e2 : rd_T25 [(⟨u, s, f, r⟩ : S25)] 0 = ⟨u, s, f, r⟩ := rfl
 have e3 : wrap64 (0 + 1) = 1 := by unfold wrap64; omega
 unfold spec_l06Code.f
 simp only [spec_l06Code.l0]
 rw [e, e2, e3]
 simp only [spec_shot, spec_winds, Option.bind_some]
 cases isShot u s f r <;> cases areWinds lo hi <;> simp
def drift (s wnd t : Int) : Int := (s + wnd) * t / 1000
theorem drift_small {s wnd t : Int} (hs : -50000 ≤ s ∧ s ≤ 50000) (hw : -50000 ≤ wnd ∧ wnd ≤ 50000) (ht : 0 ≤ t ∧ t ≤ 60000) : -6000000000 ≤ (s + wnd) * t ∧ (s + wnd) * t ≤ 6000000000 := by
 have := prod_abs (a := s + wnd) (b := t) (A := 100000) (B := 60000) (by omega) ht
 omega
theorem spec_drift {s wnd t : Int} (hs : -50000 ≤ s ∧ s ≤ 50000) (hw : -50000 ≤ wnd ∧ wnd ≤ 50000) (ht : 0 ≤ t ∧ t ≤ 60000) : spec_l04Drift.f s wnd t = some (drift s wnd t) := by
 have h := drift_small hs hw ht
 unfold spec_l04Drift.f
 rw [w64 (n := s + wnd) (by omega), w64 (by omega), SFl_eq (by omega) (by omega)]
 rfl
theorem impl_drift {s wnd t : Int} (hs : -50000 ≤ s ∧ s ≤ 50000) (hw : -50000 ≤ wnd ∧ wnd ≤ 50000) (ht : 0 ≤ t ∧ t ≤ 60000) : impl_driftAt.f s wnd t = some (drift s wnd t) := by
 have h := drift_small hs hw ht
 unfold impl_driftAt.f
 rw [w64 (n := s + wnd) (by omega), w64 (by omega), Fl_eq (by omega) (by omega)]
 rfl
theorem isShot_true {u s f r : Int} (h : isShot u s f r = true) : (0 ≤ u ∧ u ≤ 200000) ∧ (-50000 ≤ s ∧ s ≤ 50000) ∧ (100 ≤ f ∧ f ≤ 10000) ∧ (0 ≤ r ∧ r ≤ 200000) := by
 unfold isShot at h
 simpa only [Bool.and_eq_true, inB_true] using h
theorem areWinds_true {lo hi : Int} (h : areWinds lo hi = true) : (-50000 ≤ lo ∧ lo ≤ 50000) ∧ lo ≤ hi ∧ hi ≤ 50000 := by
 unfold areWinds at h
 simpa only [Bool.and_eq_true, inB_true] using h
end Go.Proofs.Ytbleliajcbdijaa.F
namespace Go.Proofs.Ytbleliajcbdijaa.F
open Go.RowKit Go.Proofs.YtbleliajcbdijaaW.PrintWords Go.Proofs.YtbleliajcbdijaaW.PrintLast Go.Proofs.YtbleliajcbdijaaW.PrintMore
set_option linter.unusedVariables false
set_option linter.unusedSimpArgs false
end Go.Proofs.Ytbleliajcbdijaa.F
namespace Go.Proofs.Ytbleliajcbdijaa.F
open Go.RowKit Go.Proofs.YtbleliajcbdijaaW.PrintWords Go.Proofs.YtbleliajcbdijaaW.PrintLast Go.Proofs.YtbleliajcbdijaaW.PrintMore
set_option linter.unusedVariables false
set_option linter.unusedSimpArgs false
theorem ceil_eq {a b : Int} (hb : 0 < b) : -((-a) / b) = (a + b - 1) / b := by
 have h1 := Int.emod_nonneg (-a) (show b ≠ 0 by omega)
 have h2 := Int.emod_lt_of_pos (-a) hb
 have h3 := Int.mul_ediv_add_emod (-a) b
 have h4 : (a + b - 1) / b = -((-a) / b) ∧ (a + b - 1) % b = b - 1 - (-a) % b := (Int.ediv_emod_unique hb).2 (by
  rw [Int.mul_neg]
  refine ⟨by omega, by omega, by omega⟩)
 exact h4.1.symm
theorem Ce_eq {a b : Int} (hb : 0 < b) (ha : -4611686018427387904 ≤ a ∧ a ≤ 4611686018427387904) : spec_l01Ceil.f a b = some (-((-a) / b)) := by
 have hs := ediv_small (a := -a) hb (by omega)
 unfold spec_l01Ceil.f
 rw [w64 (n := -a) (by omega), SFl_eq hb (by omega)]
 simp only [Option.bind_some]
 rw [w64 (by omega)]
theorem Cd_eq {a b : Int} (hb : 0 < b ∧ b ≤ 1000000) (ha : 0 ≤ a ∧ a ≤ 4611686018427387904) : impl_ceilDiv.f a b = some ((a + b - 1) / b) := by
 have h1 := Int.ediv_le_self b (show 0 ≤ a + b - 1 by omega)
 have h2 := Int.ediv_nonneg (show 0 ≤ a + b - 1 by omega) (show 0 ≤ b by omega)
 unfold impl_ceilDiv.f
 rw [if_neg (by omega), w64 (n := a + b) (by omega), w64 (n := a + b - 1) (by omega), Int.tdiv_eq_ediv_of_nonneg (by omega), w64 (by omega)]
def dTime (u f : Int) : Int := (1000 * vTop u + f - 1) / f
theorem dTime_range {u f : Int} (hu : 0 ≤ u ∧ u ≤ 200000) (hf : 100 ≤ f ∧ f ≤ 10000) : 0 ≤ dTime u f ∧ dTime u f ≤ 120002100 := by
 have ht := tTop_range hu
 unfold dTime
 refine ⟨Int.ediv_nonneg (by omega) (by omega), ?_⟩
 have h1 : (1000 * vTop u + f - 1) / f ≤ (1000 * vTop u + f - 1) / 100 := by
  have a : 100 * ((1000 * vTop u + f - 1) / f) ≤ f * ((1000 * vTop u + f - 1) / f) := Int.mul_le_mul_of_nonneg_right hf.1 (Int.ediv_nonneg (by omega) (by omega))
  have b := Int.mul_ediv_self_le (x := 1000 * vTop u + f - 1) (k := f) (by omega)
  omega
 omega
theorem time_both {u s f r : Int} (h : isShot u s f r = true) : (∀ k, 30000 ≤ k → spec_l06Time.f k u s f r = some (dTime u f)) ∧ (∀ k, 30000 ≤ k → impl_debrisTime.f k u s f r = some (dTime u f)) := by
 obtain ⟨h1, h2, h3, h4⟩ := isShot_true h
 have ht := tTop_range h1
 have hi := top_is h1
 refine ⟨fun k hk => ?_, fun k hk => ?_⟩
 ·unfold spec_l06Time.f
  rw [hi.2.1 k hk]
  simp only [Option.bind_some]
  rw [w64 (n := 1000 * vTop u) (by omega), Ce_eq (by omega) (by omega), ceil_eq (by omega)]; rfl
 ·unfold impl_debrisTime.f
  rw [hi.2.2 k hk]
  simp only [Option.bind_some]
  rw [w64 (n := 1000 * vTop u) (by omega), Cd_eq (by omega) (by omega)]; rfl
def dbLo (u s f r lo : Int) : Int := drift s lo (tTop u) + lo * dTime u f / 1000 - r
def dbHi (u s f r hi : Int) : Int := drift s hi (tTop u) - (-hi) * dTime u f / 1000 + r
theorem burst_is {u s f r lo hi : Int} (h : isShot u s f r = true) (hw : areWinds lo hi = true) : (∀ k, 30000 ≤ k → spec_l06Burst.f k u s f r lo hi = some (drift s lo (tTop u), drift s hi (tTop u))) ∧ ∀ k, 30000 ≤ k → impl_burstRange.f k u s f r lo hi = some (drift s lo (tTop u), drift s hi (tTop u)) := by
 obtain ⟨h1, h2, h3, h4⟩ := isShot_true h
 obtain ⟨w1, w2, w3⟩ := areWinds_true hw
 obtain ⟨_, hs, hi'⟩ := top_is h1
 have hr := tTop_range h1
 refine ⟨fun k hk => ?_, fun k hk => ?_⟩
 ·unfold spec_l06Burst.f
  rw [hs k hk]
  simp only [Option.bind_some]
  rw [spec_drift h2 w1 (by omega), spec_drift h2 (by omega) (by omega)]; rfl
 ·unfold impl_burstRange.f
  rw [hi' k hk]
  simp only [Option.bind_some]
  rw [impl_drift h2 w1 (by omega), impl_drift h2 (by omega) (by omega)]; rfl
theorem drift_range {s wnd t : Int} (hs : -50000 ≤ s ∧ s ≤ 50000) (hw : -50000 ≤ wnd ∧ wnd ≤ 50000) (ht : 0 ≤ t ∧ t ≤ 60000) : -6000000 ≤ drift s wnd t ∧ drift s wnd t ≤ 6000000 := by
 have h := drift_small hs hw ht
 unfold drift
 omega
theorem debris_small {u s f r lo : Int} (h : isShot u s f r = true) (hl : -50000 ≤ lo ∧ lo ≤ 50000) : (-6000105000000 ≤ lo * dTime u f ∧ lo * dTime u f ≤ 6000105000000) ∧ (-6000000 ≤ drift s lo (tTop u) ∧ drift s lo (tTop u) ≤ 6000000) := by
 obtain ⟨h1, h2, h3, h4⟩ := isShot_true h
 have hd := dTime_range h1 h3
 have ht := tTop_range h1
 have := prod_abs (a := lo) (b := dTime u f) (A := 50000) (B := 120002100) hl hd
 exact ⟨by omega, drift_range h2 hl (by omega)⟩
theorem debris_range {u s f r lo hi : Int} (h : isShot u s f r = true) (hw : areWinds lo hi = true) : (-7000000000 ≤ dbLo u s f r lo ∧ dbLo u s f r lo ≤ 7000000000) ∧ (-7000000000 ≤ dbHi u s f r hi ∧ dbHi u s f r hi ≤ 7000000000) := by
 obtain ⟨h1, h2, h3, h4⟩ := isShot_true h
 obtain ⟨w1, w2, w3⟩ := areWinds_true hw
 have a := debris_small h w1
 have b := debris_small h (lo := hi) (by omega)
 unfold dbLo dbHi
 rw [Int.neg_mul]
 omega
theorem debris_is {u s f r lo hi : Int} (h : isShot u s f r = true) (hw : areWinds lo hi = true) : (∀ k, 30000 ≤ k → spec_l06Debris.f k u s f r lo hi = some (dbLo u s f r lo, dbHi u s f r hi)) ∧ ∀ k, 30000 ≤ k → impl_debrisRange.f k u s f r lo hi = some (dbLo u s f r lo, dbHi u s f r hi) := by
 obtain ⟨h1, h2, h3, h4⟩ := isShot_true h
 obtain ⟨w1, w2, w3⟩ := areWinds_true hw
 have a := debris_small h w1
 have b := debris_small h (lo := hi) (by omega)
 obtain ⟨bs, bi⟩ := burst_is h hw
 obtain ⟨ts, ti⟩ := time_both h
 have en : (-hi) * dTime u f = -(hi * dTime u f) := Int.neg_mul _ _
 refine ⟨fun k hk => ?_, fun k hk => ?_⟩
 ·unfold spec_l06Debris.f
  rw [bs k hk, ts k hk]
  simp only [Option.bind_some]
  rw [w64 (n := lo * dTime u f) (by omega), w64 (n := hi * dTime u f) (by omega), SFl_eq (by omega) (by omega), Ce_eq (by omega) (by omega)]
  simp only [Option.bind_some]
  rw [w64 (n := drift s lo (tTop u) + _) (by omega), w64 (n := drift s lo (tTop u) + _ - r) (by omega), w64 (n := drift s hi (tTop u) + _) (by omega), w64 (by omega)]
  unfold dbLo dbHi
  rw [en]
  congr 2 <;> omega
 ·unfold impl_debrisRange.f
  rw [bi k hk, ti k hk]
  simp only [Option.bind_some]
  rw [w64 (n := lo * dTime u f) (by omega), w64 (n := -hi) (by omega), w64 (n := (-hi) * dTime u f) (by omega), Fl_eq (by omega) (by omega), Fl_eq (by omega) (by omega)]
  simp only [Option.bind_some]
  rw [w64 (n := drift s lo (tTop u) + _) (by omega), w64 (n := drift s lo (tTop u) + _ - r) (by omega), w64 (n := drift s hi (tTop u) - _) (by omega), w64 (by omega)]
  rfl
end Go.Proofs.Ytbleliajcbdijaa.F
namespace Go.Proofs.Ytbleliajcbdijaa.F
open Go.RowKit Go.Proofs.YtbleliajcbdijaaW.PrintWords Go.Proofs.YtbleliajcbdijaaW.PrintLast Go.Proofs.YtbleliajcbdijaaW.PrintMore
set_option linter.unusedVariables false
set_option linter.unusedSimpArgs false
theorem HH_end {up : Int} (hu : 0 ≤ up ∧ up ≤ 200000) : HH up 60000 ≤ 0 := by
 unfold HH gg
 omega
def IsFl (up t : Int) : Prop := 1 ≤ t ∧ t ≤ 60000 ∧ HH up t ≤ 0 ∧ ∀ s, 1 ≤ s → s < t → 0 < HH up s
theorem IsFl.unique {up t t' : Int} (h : IsFl up t) (h' : IsFl up t') : t' = t := by
 obtain ⟨a, b, c, d⟩ := h
 obtain ⟨a', b', c', d'⟩ := h'
 rcases Int.lt_trichotomy t t' with x | x | x
 ·have := d' t a x; omega
 ·exact x.symm
 ·have := d t' a' x; omega
theorem pos_rise {up : Int} (hu : 0 ≤ up ∧ up ≤ 200000) (h1 : 0 < HH up 1) : ∀ s, 1 ≤ s → s ≤ lastT up → 0 < HH up s := fun s h2 h3 => by
 have := H_rise hu (show (0 : Int) ≤ 1 by omega) h2 h3
 omega
theorem impl_flight_loop {up : Int} (hu : 0 ≤ up ∧ up ≤ 200000) (n : Nat) : ∀ (k : Nat) (lo hi : Int), hi - lo ≤ n → lastT up + 1 ≤ lo → lo ≤ hi → hi ≤ 60000 → HH up hi ≤ 0 → (∀ s, 1 ≤ s → s < lo → 0 < HH up s) → n < k →
  ∃ r, impl_flightOf.l0 k up lo hi = some r ∧ IsFl up r := by
 have hl := last_le hu
 induction n with
 | zero =>
  intro k lo hi h1 h2 h3 h4 h5 h6 hk
  obtain ⟨k, rfl⟩ : ∃ m, k = m + 1 := ⟨k - 1, by omega⟩
  have e : lo = hi := by omega
  subst e
  refine ⟨lo, ?_, by omega, h4, h5, h6⟩
  simp only [impl_flightOf.l0]
  rw [if_neg (by omega)]
 | succ n ih =>
  intro k lo hi h1 h2 h3 h4 h5 h6 hk
  obtain ⟨k, rfl⟩ : ∃ m, k = m + 1 := ⟨k - 1, by omega⟩
  simp only [impl_flightOf.l0]
  by_cases c : lo < hi
  ·rw [if_pos c, w64 (n := lo + hi) (by omega), tdiv_nn (by omega), w64 (n := (lo + hi) / 2) (by omega), H_impl hu (by omega)]
   simp only [Option.bind_some]
   by_cases d : HH up ((lo + hi) / 2) ≤ 0
   ·rw [if_pos d]
    exact ih k lo ((lo + hi) / 2) (by omega) h2 (by omega) (by omega) d h6 (by omega)
   ·rw [if_neg d, w64 (by omega)]
    refine ih k ((lo + hi) / 2 + 1) hi (by omega) (by omega) (by omega) h4 h5 (fun s h7 h8 => ?_) (by omega)
    by_cases e : s < lo
    ·exact h6 s h7 e
    ·have := H_fall hu (show lastT up + 1 ≤ s by omega) (show s ≤ (lo + hi) / 2 by omega)
     omega
  ·rw [if_neg c]
   have e : lo = hi := by omega
   subst e
   exact ⟨lo, rfl, by omega, h4, h5, h6⟩
theorem impl_flight {up : Int} (hu : 0 ≤ up ∧ up ≤ 200000) (k : Nat) (hk : 150000 ≤ k) : ∃ t, impl_flightOf.f k up = some t ∧ IsFl up t := by
 have hl := last_le hu
 unfold impl_flightOf.f
 rw [H_impl hu (by omega)]
 simp only [Option.bind_some]
 by_cases c : HH up 1 ≤ 0
 ·rw [if_pos c]
  exact ⟨1, rfl, by omega, by omega, c, fun s h1 h2 => by omega⟩
 ·rw [if_neg c, w64 (n := 1000 * up) (by omega), tdiv_nn (by omega)]
  show ∃ t, impl_flightOf.l0 k up (wrap64 (wrap64 (lastT up) + 1)) 60000 = some t ∧ _
  rw [w64 (n := lastT up) (by omega), w64 (n := lastT up + 1) (by omega)]
  exact impl_flight_loop hu 60000 k (lastT up + 1) 60000 (by omega) (by omega) (by omega) (by omega) (HH_end hu) (fun s h1 h2 => pos_rise hu (by omega) s h1 (by omega)) (by omega)
theorem spec_flight0 {up : Int} (hu : 0 ≤ up ∧ up ≤ 200000) (n : Nat) : ∀ (k : Nat) (lo hi : Int), hi - lo ≤ n → (0 ≤ lo ∧ lo ≤ hi) → 1 ≤ hi → hi ≤ 60000 → HH up hi ≤ 0 → n < k →
  ∃ (k' : Nat) (hi' : Int), k ≤ k' + n + 1 ∧ spec_l04Flight.l0 k up lo hi = spec_l04Flight.l1 k' up hi' ∧ 1 ≤ hi' ∧ hi' ≤ 60000 ∧ HH up hi' ≤ 0 := by
 induction n with
 | zero =>
  intro k lo hi h1 h2 h3 h4 h5 hk
  obtain ⟨k, rfl⟩ : ∃ m, k = m + 1 := ⟨k - 1, by omega⟩
  refine ⟨k, hi, by omega, ?_, h3, h4, h5⟩
  simp only [spec_l04Flight.l0]
  rw [w64 (n := lo + 1) (by omega), if_neg (by omega)]
 | succ n ih =>
  intro k lo hi h1 h2 h3 h4 h5 hk
  obtain ⟨k, rfl⟩ : ∃ m, k = m + 1 := ⟨k - 1, by omega⟩
  simp only [spec_l04Flight.l0]
  rw [w64 (n := lo + 1) (by omega)]
  by_cases c : lo + 1 < hi
  ·rw [if_pos c, w64 (n := lo + hi) (by omega), tdiv_nn (by omega), w64 (n := (lo + hi) / 2) (by omega), H_spec hu (by omega)]
   simp only [Option.bind_some]
   by_cases d : HH up ((lo + hi) / 2) ≤ 0
   ·rw [if_pos d]
    obtain ⟨k', hi', e1, e2⟩ := ih k lo ((lo + hi) / 2) (by omega) (by omega) (by omega) (by omega) d (by omega)
    exact ⟨k', hi', by omega, e2⟩
   ·rw [if_neg d]
    obtain ⟨k', hi', e1, e2⟩ := ih k ((lo + hi) / 2) hi (by omega) (by omega) h3 h4 h5 (by omega)
    exact ⟨k', hi', by omega, e2⟩
  ·rw [if_neg c]
   exact ⟨k, hi, by omega, rfl, h3, h4, h5⟩
theorem spec_flight1 {up : Int} (hu : 0 ≤ up ∧ up ≤ 200000) (n : Nat) : ∀ (k : Nat) (hi : Int), hi = n + 1 → hi ≤ 60000 → HH up hi ≤ 0 → n + 1 < k →
  ∃ (k' : Nat) (hi' : Int), k ≤ k' + n + 2 ∧ spec_l04Flight.l1 k up hi = spec_l04Flight.l2 k' up hi' 1 ∧ 1 ≤ hi' ∧ hi' ≤ 60000 ∧ HH up hi' ≤ 0 ∧ (hi' = 1 ∨ 0 < HH up (hi' - 1)) := by
 induction n with
 | zero =>
  intro k hi h1 h2 h3 hk
  obtain ⟨k, rfl⟩ : ∃ m, k = m + 2 := ⟨k - 2, by omega⟩
  refine ⟨k, hi, by omega, ?_, by omega, h2, h3, .inl (by omega)⟩
  simp only [spec_l04Flight.l1, spec_l04Flight.j2]
  rw [if_neg (by omega)]
 | succ n ih =>
  intro k hi h1 h2 h3 hk
  obtain ⟨k, rfl⟩ : ∃ m, k = m + 2 := ⟨k - 2, by omega⟩
  by_cases d : HH up (hi - 1) ≤ 0
  ·obtain ⟨k', hi', e1, e2, e3⟩ := ih (k + 1) (hi - 1) (by omega) (by omega) d (by omega)
   refine ⟨k', hi', by omega, ?_, e3⟩
   rw [← e2]
   simp only [spec_l04Flight.l1, spec_l04Flight.j2]
   rw [if_pos (by omega), w64 (n := hi - 1) (by omega), H_spec hu (by omega)]
   simp only [Option.bind_some]
   rw [if_pos d]
  ·refine ⟨k, hi, by omega, ?_, by omega, h2, h3, .inr (by omega)⟩
   simp only [spec_l04Flight.l1, spec_l04Flight.j2]
   rw [if_pos (by omega), w64 (n := hi - 1) (by omega), H_spec hu (by omega)]
   simp only [Option.bind_some]
   rw [if_neg d]
theorem spec_flight {up : Int} (hu : 0 ≤ up ∧ up ≤ 200000) (k : Nat) (hk : 150000 ≤ k) : ∃ t, spec_l04Flight.f k up = some t ∧ IsFl up t := by
 have hl := last_le hu
 have ht := tTop_range hu
 unfold spec_l04Flight.f
 rw [(top_is hu).2.1 k (by omega)]
 simp only [Option.bind_some]
 obtain ⟨k1, hi, e1, e2, e3, e4, e5⟩ := spec_flight0 hu 60000 k (tTop up) 60000 (by omega) (by omega) (by omega) (by omega) (HH_end hu) (by omega)
 obtain ⟨k2, h, f1, f2, f3, f4, f5, f6⟩ := spec_flight1 hu (hi - 1).toNat k1 hi (by omega) e4 e5 (by omega)
 rw [e2, f2]
 obtain ⟨k3, rfl⟩ : ∃ m, k2 = m + 6 := ⟨k2 - 6, by omega⟩
 clear hk e1 e2 f1 f2 e3 e4 e5
 by_cases c : HH up 1 ≤ 0
 ·refine ⟨1, ?_, by omega, by omega, c, fun s h1 h2 => by omega⟩
  simp only [spec_l04Flight.l2, spec_l04Flight.j4]
  by_cases d : 1 < h
  ·rw [if_pos d, if_pos (by decide), H_spec hu (by omega)]
   simp only [Option.bind_some]
   rw [if_pos c]
  ·rw [if_neg d, if_neg (by decide)]
   congr 1; omega
 ·have hp : ∀ s, 1 ≤ s → s < h → 0 < HH up s := fun s h1 h2 => by
   by_cases e : s ≤ lastT up
   ·exact pos_rise hu (by omega) s h1 e
   ·have := H_fall hu (show lastT up + 1 ≤ s by omega) (show s ≤ h - 1 by omega)
    omega
  refine ⟨h, ?_, f3, f4, f5, hp⟩
  have w2 : wrap64 (1 + 1) = 2 := w64 (by omega)
  have w3 : wrap64 (2 + 1) = 3 := w64 (by omega)
  simp only [spec_l04Flight.l2, spec_l04Flight.j4, w2, w3]
  by_cases d : 1 < h
  ·rw [if_pos d, if_pos (by decide), H_spec hu (by omega)]
   simp only [Option.bind_some]
   rw [if_neg c]
   by_cases d2 : 2 < h
   ·have := hp 2 (by omega) d2
    rw [if_pos d2, if_pos (by decide), H_spec hu (by omega)]
    simp only [Option.bind_some]
    rw [if_neg (by omega)]
    by_cases d3 : 3 < h
    ·rw [if_pos d3, if_neg (by decide)]
    ·rw [if_neg d3, if_neg (by decide)]
   ·rw [if_neg d2, if_neg (by decide)]
  ·rw [if_neg d, if_neg (by decide)]
def flT (up : Int) : Int := (impl_flightOf.f 150000 up).getD 0
theorem flight_is {up : Int} (hu : 0 ≤ up ∧ up ≤ 200000) : IsFl up (flT up) ∧ (∀ k, 150000 ≤ k → spec_l04Flight.f k up = some (flT up)) ∧ ∀ k, 150000 ≤ k → impl_flightOf.f k up = some (flT up) := by
 obtain ⟨t, e, h⟩ := impl_flight hu 150000 (Nat.le_refl _)
 have et : flT up = t := by unfold flT; rw [e]; rfl
 rw [et]
 refine ⟨h, fun k hk => ?_, fun k hk => ?_⟩
 ·obtain ⟨t', e', h'⟩ := spec_flight hu k hk
  rw [h.unique h'] at e'
  exact e'
 ·obtain ⟨t', e', h'⟩ := impl_flight hu k hk
  rw [h.unique h'] at e'
  exact e'
end Go.Proofs.Ytbleliajcbdijaa.F
namespace Go.Proofs.Ytbleliajcbdijaa.F
open Go.RowKit Go.Proofs.YtbleliajcbdijaaW.PrintWords Go.Proofs.YtbleliajcbdijaaW.PrintLast Go.Proofs.YtbleliajcbdijaaW.PrintMore
set_option linter.unusedVariables false
set_option linter.unusedSimpArgs false
theorem mn_is (a b : Int) : mn a b ≤ a ∧ mn a b ≤ b ∧ (mn a b = a ∨ mn a b = b) := by unfold mn; split <;> omega
theorem mx_is (a b : Int) : a ≤ mx a b ∧ b ≤ mx a b ∧ (mx a b = a ∨ mx a b = b) := by unfold mx; split <;> omega
def stLo (u s f r lo : Int) : Int := mn (mn (dbLo u s f r lo) (drift s lo (flT u))) 0
def stHi (u s f r hi : Int) : Int := mx (mx (dbHi u s f r hi) (drift s hi (flT u))) 0
theorem flT_range {up : Int} (hu : 0 ≤ up ∧ up ≤ 200000) : 1 ≤ flT up ∧ flT up ≤ 60000 := ⟨(flight_is hu).1.1, (flight_is hu).1.2.1⟩
theorem strip_is {u s f r lo hi : Int} (h : isShot u s f r = true) (hw : areWinds lo hi = true) : (∀ k, 150000 ≤ k → spec_l06Strip.f k u s f r lo hi = some (stLo u s f r lo, stHi u s f r hi)) ∧ ∀ k, 150000 ≤ k → impl_stripOf.f k u s f r lo hi = some (stLo u s f r lo, stHi u s f r hi) := by
 obtain ⟨h1, h2, h3, h4⟩ := isShot_true h
 obtain ⟨w1, w2, w3⟩ := areWinds_true hw
 obtain ⟨ds, di⟩ := debris_is h hw
 obtain ⟨_, fs, fi⟩ := flight_is h1
 have fr := flT_range h1
 refine ⟨fun k hk => ?_, fun k hk => ?_⟩
 ·unfold spec_l06Strip.f
  rw [ds k (by omega), fs k hk]
  simp only [Option.bind_some]
  rw [spec_drift h2 w1 (by omega), spec_drift h2 (by omega) (by omega)]
  simp only [Option.bind_some]
  have a1 := mn_is 0 (dbLo u s f r lo)
  have a2 := mn_is (mn 0 (dbLo u s f r lo)) (drift s lo (flT u))
  have a3 := mn_is (dbLo u s f r lo) (drift s lo (flT u))
  have a4 := mn_is (mn (dbLo u s f r lo) (drift s lo (flT u))) 0
  have b1 := mx_is 0 (dbHi u s f r hi)
  have b2 := mx_is (mx 0 (dbHi u s f r hi)) (drift s hi (flT u))
  have b3 := mx_is (dbHi u s f r hi) (drift s hi (flT u))
  have b4 := mx_is (mx (dbHi u s f r hi) (drift s hi (flT u))) 0
  unfold stLo stHi
  congr 2 <;> omega
 ·unfold impl_stripOf.f
  rw [di k (by omega), fi k hk]
  simp only [Option.bind_some]
  rw [impl_drift h2 w1 (by omega), impl_drift h2 (by omega) (by omega)]
  rfl
theorem strip_range {u s f r lo hi : Int} (h : isShot u s f r = true) (hw : areWinds lo hi = true) : (-7000000000 ≤ stLo u s f r lo ∧ stLo u s f r lo ≤ 0) ∧ 0 ≤ stHi u s f r hi ∧ stHi u s f r hi ≤ 7000000000 := by
 obtain ⟨h1, h2, h3, h4⟩ := isShot_true h
 obtain ⟨w1, w2, w3⟩ := areWinds_true hw
 have fr := flT_range h1
 have d := debris_range h hw
 have a := drift_range h2 w1 (t := flT u) (by omega)
 have b := drift_range h2 (wnd := hi) (by omega) (t := flT u) (by omega)
 have a3 := mn_is (dbLo u s f r lo) (drift s lo (flT u))
 have a4 := mn_is (mn (dbLo u s f r lo) (drift s lo (flT u))) 0
 have b3 := mx_is (dbHi u s f r hi) (drift s hi (flT u))
 have b4 := mx_is (mx (dbHi u s f r hi) (drift s hi (flT u))) 0
 unfold stLo stHi
 omega
end Go.Proofs.Ytbleliajcbdijaa.F
namespace Go.Proofs.Ytbleliajcbdijaa.F
open Go.RowKit Go.Proofs.YtbleliajcbdijaaW.PrintWords Go.Proofs.YtbleliajcbdijaaW.PrintLast Go.Proofs.YtbleliajcbdijaaW.PrintMore
set_option linter.unusedVariables false
set_option linter.unusedSimpArgs false
def Code (c : List Int) : Prop := c.length ≤ 4096 ∧ ∀ x ∈ c, 0 ≤ x ∧ x ≤ 255
def St (c : List Int) (a s : Int) : Prop := 0 ≤ a ∧ a ≤ (c.length : Int) ∧ 0 ≤ s ∧ s < 2147483647
theorem rd_code {c : List Int} (hc : Code c) (i : Int) : 0 ≤ rd c i ∧ rd c i ≤ 255 := by
 unfold rd
 rw [List.getD_eq_getElem?_getD]
 cases h : c[i.toNat]? with
 | none => exact ⟨Int.le_refl _, by decide⟩
 | some x => exact hc.2 x (List.mem_of_getElem? h)
theorem tmod_nn {a b : Int} (ha : 0 ≤ a) (hb : 0 < b) : 0 ≤ Int.tmod a b ∧ Int.tmod a b < b := by
 rw [Int.tmod_eq_emod_of_nonneg ha]
 exact ⟨Int.emod_nonneg _ (by omega), Int.emod_lt_of_pos _ hb⟩
theorem next_ok {c : List Int} (hc : Code c) {a s : Int} (h : St c a s) (n : Int) (hn : n ≤ 4611686018427387904) : ∃ r a' s', spec_l01Next.f c a s n = some (r, a', s') ∧ St c a' s' ∧ 0 ≤ r ∧ (r < n ∨ (n ≤ 1 ∧ r = 0)) := by
 obtain ⟨h1, h2, h3, h4⟩ := h
 have hl := hc.1
 unfold spec_l01Next.f
 by_cases c1 : n ≤ 1
 ·rw [if_pos c1]
  exact ⟨0, a, s, rfl, ⟨h1, h2, h3, h4⟩, Int.le_refl _, .inr ⟨c1, rfl⟩⟩
 ·have hs := tmod_nn (a := s * 48271 + 29) (b := 2147483647) (by omega) (by omega)
  rw [if_neg c1, w64 (n := s * 48271) (by omega), w64 (n := s * 48271 + 29) (by omega)]
  generalize Int.tmod (s * 48271 + 29) 2147483647 = z at hs ⊢
  have hd : Int.tdiv z 31 = z / 31 := Int.tdiv_eq_ediv_of_nonneg hs.1
  rw [hd]
  have n0 : ¬ n = 0 := by omega
  by_cases c2 : a < (c.length : Int)
  ·have hr := rd_code hc a
   have p := tmod_nn (a := z / 31 + rd c a) (b := n) (by omega) (by omega)
   have q := tmod_nn (a := rd c a) (b := n) (by omega) (by omega)
   simp only [if_neg n0]
   rw [if_pos c2, if_pos h1, w64 (n := a + 1) (by omega), w64 (n := z / 31) (by omega), w64 (n := rd c a) (by omega), w64 (n := z / 31 + rd c a) (by omega), w64 (n := a + 1 - 1) (by omega), show a + 1 - 1 = a by omega, w64 (n := rd c a) (by omega)]
   by_cases c3 : n ≤ 256
   ·rw [if_pos c3]
    by_cases c4 : Int.tmod (a + 1) 2 = 0
    ·rw [if_pos c4, if_pos h1, if_pos c2]
     exact ⟨_, _, _, rfl, ⟨by omega, by omega, hs.1, hs.2⟩, q.1, .inl q.2⟩
    ·rw [if_neg c4]
     exact ⟨_, _, _, rfl, ⟨by omega, by omega, hs.1, hs.2⟩, p.1, .inl p.2⟩
   ·rw [if_neg c3]
    exact ⟨_, _, _, rfl, ⟨by omega, by omega, hs.1, hs.2⟩, p.1, .inl p.2⟩
  ·have p := tmod_nn (a := z / 31) (b := n) (by omega) (by omega)
   simp only [if_neg n0]
   rw [if_neg c2, w64 (n := z / 31) (by omega)]
   exact ⟨_, _, _, rfl, ⟨h1, h2, hs.1, hs.2⟩, p.1, .inl p.2⟩
theorem pick_ok {c : List Int} (hc : Code c) {a s : Int} (h : St c a s) (l : List Int) (hl : 0 < l.length) (hl2 : l.length ≤ 1000) : ∃ r a' s', spec_l01Pick.f c a s l = some (r, a', s') ∧ St c a' s' ∧ r ∈ l := by
 obtain ⟨r, a', s', e, h', h0, h1⟩ := next_ok hc h (l.length : Int) (by omega)
 refine ⟨rd l r, a', s', ?_, h', ?_⟩
 ·unfold spec_l01Pick.f
  rw [e]
  simp only [Option.bind_some]
  rw [if_pos h0, if_pos (by omega)]
 ·have hr : r.toNat < l.length := by omega
  unfold rd
  rw [List.getD_eq_getElem?_getD, List.getElem?_eq_getElem hr]
  exact List.getElem_mem hr
theorem from_ok {c : List Int} (hc : Code c) : ∃ s, (∀ k, 70 ≤ k → spec_l01From.f k c = some (c, 0, s)) ∧ St c 0 s := by
 have loop : ∀ (d : Nat) (i s : Int), 0 ≤ i → i ≤ 64 → 64 - i ≤ d → 0 ≤ s → s < 2147483647 → ∃ s', (∀ k, d < k → spec_l01From.l0 k c i c 0 s = some (c, 0, s')) ∧ St c 0 s' := by
  intro d
  induction d with
  | zero =>
   intro i s h1 h2 h3 h4 h5
   refine ⟨s, fun k hk => ?_, by omega, by omega, h4, h5⟩
   obtain ⟨k, rfl⟩ : ∃ m, k = m + 1 := ⟨k - 1, by omega⟩
   simp only [spec_l01From.l0]
   rw [if_neg (show ¬ i < 64 by omega)]
   split <;> rfl
  | succ d ih =>
   intro i s h1 h2 h3 h4 h5
   by_cases c1 : i < (c.length : Int) ∧ i < 64
   ·have hr := rd_code hc i
    have hm := tmod_nn (a := s * 83 + rd c i) (b := 2147483647) (by omega) (by omega)
    obtain ⟨s', e, hs⟩ := ih (i + 1) (Int.tmod (s * 83 + rd c i) 2147483647) (by omega) (by omega) (by omega) hm.1 hm.2
    refine ⟨s', fun k hk => ?_, hs⟩
    obtain ⟨k, rfl⟩ : ∃ m, k = m + 1 := ⟨k - 1, by omega⟩
    simp only [spec_l01From.l0]
    rw [if_pos c1.1, if_pos c1.2, if_pos h1, w64 (n := i + 1) (by omega), w64 (n := s * 83) (by omega), w64 (n := rd c i) (by omega), w64 (n := s * 83 + rd c i) (by omega)]
    exact e k (by omega)
   ·refine ⟨s, fun k hk => ?_, by omega, by omega, h4, h5⟩
    obtain ⟨k, rfl⟩ : ∃ m, k = m + 1 := ⟨k - 1, by omega⟩
    simp only [spec_l01From.l0]
    by_cases c2 : i < (c.length : Int)
    ·rw [if_pos c2, if_neg (fun x => c1 ⟨c2, x⟩)]
    ·rw [if_neg c2]
 obtain ⟨s', e, hs⟩ := loop 64 0 61043 (by omega) (by omega) (by omega) (by omega) (by omega)
 exact ⟨s', fun k hk => e k (by omega), hs⟩
theorem code_of {l : List Int} (h : ¬ (l.length : Int) > 4096) (hb : ∀ x ∈ l, (Go.Lit.int .u8 x).wf = true) : Code l := ⟨by omega, fun x hx => by
 have h := hb x hx
 simp [Go.Lit.wf, Go.IntKind.min, Go.IntKind.max, Go.IntKind.signed, Go.IntKind.bits] at h
 omega⟩
end Go.Proofs.Ytbleliajcbdijaa.F
namespace Go.Proofs.Ytbleliajcbdijaa.F
open Go.RowKit Go.Proofs.YtbleliajcbdijaaW.PrintWords Go.Proofs.YtbleliajcbdijaaW.PrintLast Go.Proofs.YtbleliajcbdijaaW.PrintMore
set_option linter.unusedVariables false
set_option linter.unusedSimpArgs false
theorem up_ok {c : List Int} (hc : Code c) {a s : Int} (h : St c a s) : ∃ r a' s', spec_l04Up.f c a s = some (r, a', s') ∧ St c a' s' := by
 obtain ⟨r1, a1, s1, e1, h1, _⟩ := next_ok hc h 100000 (by omega)
 obtain ⟨r2, a2, s2, e2, h2, _⟩ := next_ok hc h1 100000 (by omega)
 obtain ⟨r3, a3, s3, e3, h3, _⟩ := next_ok hc h2 100 (by omega)
 obtain ⟨r4, a4, s4, e4, h4, _⟩ := next_ok hc h3 60000 (by omega)
 obtain ⟨r5, a5, s5, e5, h5, _⟩ := next_ok hc h4 60000 (by omega)
 obtain ⟨r6, a6, s6, e6, h6, _⟩ := pick_ok hc h5 [r1, r2, r3, 0, 200000, 200001, r4, r5] (by simp) (by simp)
 refine ⟨r6, a6, s6, ?_, h6⟩
 unfold spec_l04Up.f
 simp only [e1, e2, e3, e4, e5, e6, Option.bind_some]
theorem side_ok {c : List Int} (hc : Code c) {a s : Int} (h : St c a s) : ∃ r a' s', spec_l04Side.f c a s = some (r, a', s') ∧ St c a' s' := by
 obtain ⟨r1, a1, s1, e1, h1, _⟩ := next_ok hc h 20001 (by omega)
 obtain ⟨r2, a2, s2, e2, h2, _⟩ := next_ok hc h1 2001 (by omega)
 obtain ⟨r3, a3, s3, e3, h3, _⟩ := next_ok hc h2 20001 (by omega)
 obtain ⟨r4, a4, s4, e4, h4, _⟩ := pick_ok hc h3 [50000, -50000, 50001] (by simp) (by simp)
 obtain ⟨r5, a5, s5, e5, h5, _⟩ := pick_ok hc h4 [wrap64 (r1 - 10000), wrap64 (r2 - 1000), 0, wrap64 (r3 - 10000), r4] (by simp) (by simp)
 refine ⟨r5, a5, s5, ?_, h5⟩
 unfold spec_l04Side.f
 simp only [e1, e2, e3, e4, e5, Option.bind_some]
theorem shot_ok {c : List Int} (hc : Code c) {a s : Int} (h : St c a s) : ∃ u v f r a' s', spec_l06Draw.f c a s = some (u, v, f, r, a', s') ∧ St c a' s' := by
 obtain ⟨r1, a1, s1, e1, h1, _⟩ := next_ok hc h 70000 (by omega)
 obtain ⟨r2, a2, s2, e2, h2, _⟩ := next_ok hc h1 10001 (by omega)
 obtain ⟨r3, a3, s3, e3, h3, _⟩ := next_ok hc h2 4000 (by omega)
 obtain ⟨r4, a4, s4, e4, h4, _⟩ := next_ok hc h3 60000 (by omega)
 obtain ⟨r5, a5, s5, e5, h5, _⟩ := next_ok hc h4 40 (by omega)
 have g : spec_l06Good.f c a s = some (wrap64 (5000 + r1), wrap64 (r2 - 5000), wrap64 (500 + r3), r4, a4, s4) := by
  unfold spec_l06Good.f
  simp only [e1, e2, e3, e4, Option.bind_some]
 unfold spec_l06Draw.f
 simp only [g, e5, Option.bind_some]
 by_cases c0 : r5 = 0
 ·obtain ⟨r6, a6, s6, e6, h6, _⟩ := pick_ok hc h5 [99, 100, 10000, 10001] (by simp) (by simp)
  rw [if_pos c0, e6]
  exact ⟨_, _, _, _, _, _, rfl, h6⟩
 rw [if_neg c0]
 by_cases c1 : r5 = 1
 ·obtain ⟨r6, a6, s6, e6, h6, _⟩ := pick_ok hc h5 [-1, 0, 200000, 200001] (by simp) (by simp)
  rw [if_pos c1, e6]
  exact ⟨_, _, _, _, _, _, rfl, h6⟩
 rw [if_neg c1]
 by_cases c2 : r5 = 2
 ·obtain ⟨r6, a6, s6, e6, h6⟩ := up_ok hc h5
  rw [if_pos c2, e6]
  exact ⟨_, _, _, _, _, _, rfl, h6⟩
 rw [if_neg c2]
 by_cases c3 : r5 = 3
 ·obtain ⟨r6, a6, s6, e6, h6⟩ := side_ok hc h5
  rw [if_pos c3, e6]
  exact ⟨_, _, _, _, _, _, rfl, h6⟩
 rw [if_neg c3]
 exact ⟨_, _, _, _, _, _, rfl, h5⟩
theorem range_ok {c : List Int} (hc : Code c) {a s : Int} (h : St c a s) : ∃ lo hi a' s', spec_l06Range.f c a s = some (lo, hi, a', s') ∧ St c a' s' := by
 obtain ⟨r1, a1, s1, e1, h1, _⟩ := next_ok hc h 12001 (by omega)
 obtain ⟨r2, a2, s2, e2, h2, _⟩ := next_ok hc h1 16 (by omega)
 unfold spec_l06Range.f
 simp only [e1, e2, Option.bind_some]
 by_cases c0 : r2 = 0
 ·obtain ⟨r3, a3, s3, e3, h3⟩ := side_ok hc h2
  obtain ⟨r4, a4, s4, e4, h4⟩ := side_ok hc h3
  rw [if_pos c0]
  simp only [e3, e4, Option.bind_some]
  exact ⟨_, _, _, _, rfl, h4⟩
 ·obtain ⟨r3, a3, s3, e3, h3, _⟩ := next_ok hc h2 6000 (by omega)
  rw [if_neg c0]
  simp only [e3, Option.bind_some]
  exact ⟨_, _, _, _, rfl, h3⟩
end Go.Proofs.Ytbleliajcbdijaa.F
namespace Go.Proofs.Ytbleliajcbdijaa.F
open Go.RowKit Go.Proofs.YtbleliajcbdijaaW.PrintWords Go.Proofs.YtbleliajcbdijaaW.PrintLast Go.Proofs.YtbleliajcbdijaaW.PrintMore
set_option linter.unusedVariables false
set_option linter.unusedSimpArgs false
theorem wrap_u64 (n : Int) : Go.IntKind.u64.wrap n = n % 18446744073709551616 := by simp [Go.IntKind.wrap, Go.IntKind.bits, Go.IntKind.signed]
theorem mask_ok (x : Int) (h0 : 0 ≤ x) (h1 : x < 2147483648) : 0 ≤ Go.bits .and .u64 x 16777215 ∧ Go.bits .and .u64 x 16777215 ≤ 16777215 := by
 have e := Go.bits_mask .u64 31 (by decide) (fun n a b => by rw [wrap_u64]; exact Int.emod_eq_of_lt a (by omega)) 24 (by decide) x h0 (by omega)
 rw [show (16777215 : Int) = 2 ^ 24 - 1 by decide, e]
 omega
theorem below_ok {c : List Int} (hc : Code c) (i h n : Int) (hi : 0 ≤ i) (hn : 1 ≤ n ∧ n ≤ 4611686018427387904) : ∃ r i' h', laws_dice_below.f c i h n = some (r, i', h') ∧ 0 ≤ i' ∧ 0 ≤ r ∧ r < n := by
 have hl := hc.1
 unfold laws_dice_below.f
 generalize Go.IntKind.u64.wrap (h * 6364136223846793005) + 1442695040888963407 = z
 rw [wrap_u64 z]
 have hb := mask_ok (z % 18446744073709551616 / 8589934592) (by omega) (by omega)
 generalize Go.bits .and .u64 (z % 18446744073709551616 / 8589934592) 16777215 = y at hb ⊢
 have n0 : ¬ n = 0 := by omega
 simp only [if_neg n0]
 by_cases c1 : i < (c.length : Int)
 ·have hr := rd_code hc i
  have p := tmod_nn (a := y + rd c i) (b := n) (by omega) (by omega)
  rw [if_pos c1, if_pos hi, w64 (n := y) (by omega), w64 (n := rd c i) (by omega), w64 (n := y + rd c i) (by omega), w64 (n := i + 1) (by omega)]
  exact ⟨_, _, _, rfl, by omega, p.1, p.2⟩
 ·have p := tmod_nn (a := y) (b := n) (by omega) (by omega)
  rw [if_neg c1, w64 (n := y) (by omega)]
  exact ⟨_, _, _, rfl, hi, p.1, p.2⟩
theorem roll_ok {c : List Int} (hc : Code c) (s : Int) : ∃ h, ∀ k, c.length < k → laws_roll.f k c s = some (c, 0, h) := by
 have hl := hc.1
 have loop : ∀ (d i : Nat) (h : Int), c.length - i = d → i ≤ c.length → ∃ h', ∀ k, d < k → laws_roll.l0 k c (i : Int) c 0 h = some (c, 0, h') := by
  intro d
  induction d with
  | zero =>
   intro i h hd hi
   refine ⟨h, fun k hk => ?_⟩
   obtain ⟨k, rfl⟩ : ∃ m, k = m + 1 := ⟨k - 1, by omega⟩
   simp only [laws_roll.l0]
   rw [if_neg (by omega)]
  | succ d ih =>
   intro i h hd hi
   obtain ⟨h', e⟩ := ih (i + 1) (Go.IntKind.u64.wrap ((Go.IntKind.u64.wrap ((Go.IntKind.u64.wrap (h * 1099511628211)) + (Go.IntKind.u64.wrap (rd c i)))) + 3)) (by omega) (by omega)
   refine ⟨h', fun k hk => ?_⟩
   obtain ⟨k, rfl⟩ : ∃ m, k = m + 1 := ⟨k - 1, by omega⟩
   simp only [laws_roll.l0]
   rw [if_pos (by omega), if_pos (by omega), w64 (n := (i : Int) + 1) (by omega)]
   exact e k (by omega)
 obtain ⟨h', e⟩ := loop c.length 0 _ rfl (Nat.zero_le _)
 exact ⟨h', fun k hk => e k hk⟩
end Go.Proofs.Ytbleliajcbdijaa.F
namespace Go.Proofs.Ytbleliajcbdijaa.F
open Go.RowKit Go.Proofs.YtbleliajcbdijaaW.PrintWords Go.Proofs.YtbleliajcbdijaaW.PrintLast Go.Proofs.YtbleliajcbdijaaW.PrintMore
set_option linter.unusedVariables false
set_option linter.unusedSimpArgs false
theorem draw_ok {c : List Int} (hc : Code c) : ∃ u s f r lo hi, ∀ k, 100 ≤ k → spec_DrawStripOf.f k c = some (u, s, f, r, lo, hi) := by
 obtain ⟨z, e0, h0⟩ := from_ok hc
 obtain ⟨u, s, f, r, a1, s1, e1, h1⟩ := shot_ok hc h0
 obtain ⟨lo, hi, a2, s2, e2, h2⟩ := range_ok hc h1
 refine ⟨u, s, f, r, lo, hi, fun k hk => ?_⟩
 unfold spec_DrawStripOf.f spec_DrawBurstRange.f
 simp only [e0 k (by omega), e1, e2, Option.bind_some]
theorem mul_mono {a b t : Int} (h : a ≤ b) (ht : 0 ≤ t) : a * t / 1000 ≤ b * t / 1000 := Int.ediv_le_ediv (by omega) (Int.mul_le_mul_of_nonneg_right h ht)
theorem st_mono {u s f r lo lo' hi hi' : Int} (h : isShot u s f r = true) (h1 : lo' ≤ lo) (h2 : hi ≤ hi') : stLo u s f r lo' ≤ stLo u s f r lo ∧ stHi u s f r hi ≤ stHi u s f r hi' := by
 obtain ⟨g1, g2, g3, g4⟩ := isShot_true h
 have ft := flT_range g1
 have dt := dTime_range g1 g3
 have tt := tTop_range g1
 have a1 : drift s lo' (flT u) ≤ drift s lo (flT u) := mul_mono (by omega) (by omega)
 have a2 : drift s lo' (tTop u) ≤ drift s lo (tTop u) := mul_mono (by omega) (by omega)
 have a3 : lo' * dTime u f / 1000 ≤ lo * dTime u f / 1000 := mul_mono h1 (by omega)
 have b1 : drift s hi (flT u) ≤ drift s hi' (flT u) := mul_mono (by omega) (by omega)
 have b2 : drift s hi (tTop u) ≤ drift s hi' (tTop u) := mul_mono (by omega) (by omega)
 have b3 : (-hi') * dTime u f / 1000 ≤ (-hi) * dTime u f / 1000 := mul_mono (by omega) (by omega)
 have c1 := mn_is (dbLo u s f r lo) (drift s lo (flT u))
 have c2 := mn_is (mn (dbLo u s f r lo) (drift s lo (flT u))) 0
 have c3 := mn_is (dbLo u s f r lo') (drift s lo' (flT u))
 have c4 := mn_is (mn (dbLo u s f r lo') (drift s lo' (flT u))) 0
 have e1 := mx_is (dbHi u s f r hi) (drift s hi (flT u))
 have e2 := mx_is (mx (dbHi u s f r hi) (drift s hi (flT u))) 0
 have e3 := mx_is (dbHi u s f r hi') (drift s hi' (flT u))
 have e4 := mx_is (mx (dbHi u s f r hi') (drift s hi' (flT u))) 0
 have d1 : dbLo u s f r lo' ≤ dbLo u s f r lo := by unfold dbLo; omega
 have d2 : dbHi u s f r hi ≤ dbHi u s f r hi' := by unfold dbHi; omega
 unfold stLo stHi
 omega
theorem pure_FnStrips : laws_FnStrips.Pure := by
 intro c _ _ hb
 by_cases big : (c.length : Int) > 4096
 ·refine ⟨0, ?_⟩
  unfold laws_FnStrips.f laws_big.f
  simp only [Option.bind_some, decide_eq_true big, if_true]
 have hc : Code c := code_of big hb
 obtain ⟨u, s, f, r, lo, hi, ed⟩ := draw_ok hc
 obtain ⟨k, hk⟩ : ∃ k, k = 200000 := ⟨_, rfl⟩
 refine ⟨k + 2, ?_⟩
 have w0 : areWinds 0 0 = true := rfl
 unfold laws_FnStrips.f laws_big.f
 simp only [Option.bind_some, decide_eq_false big, Bool.false_eq_true, if_false, ed (k + 2) (by omega)]
 unfold impl_StripOf.f spec_StripOf.f impl_DebrisRange.f spec_DebrisRange.f impl_BurstRange.f spec_BurstRange.f impl_DebrisTime.f spec_DebrisTime.f
 rw [spec_code1 u s f r lo hi (k + 2) (by omega), spec_code1 u s f r 0 0 (k + 2) (by omega), impl_shot, w0]
 cases h : isShot u s f r with
 | false =>
  simp only [Option.bind_some, Bool.false_eq_true, if_false, if_true]
  rw [if_neg (show ¬ (1 : Int) = 0 by decide)]
  simp only [Option.bind_some, Bool.false_eq_true, if_false, if_true]
  rfl
 | true =>
  rw [impl_winds]
  have tb := time_both h
  cases hw : areWinds lo hi with
  | false =>
   simp only [Option.bind_some, Bool.false_eq_true, if_false, if_true, tb.1 (k + 2) (by omega), tb.2 (k + 2) (by omega)]
   rw [if_neg (show ¬ (2 : Int) = 0 by decide)]
   simp only [Option.bind_some, Bool.false_eq_true, if_false, if_true]
   rfl
  | true =>
   obtain ⟨g1, g2, g3, g4⟩ := isShot_true h
   obtain ⟨v1, v2, v3⟩ := areWinds_true hw
   obtain ⟨ss, si⟩ := strip_is h hw
   obtain ⟨ds, di⟩ := debris_is h hw
   obtain ⟨bs, bi⟩ := burst_is h hw
   have sr := strip_range h hw
   have dr := debris_range h hw
   have b1 := (debris_small h v1).2
   have b2 := (debris_small h (lo := hi) (by omega)).2
   simp only [Option.bind_some, if_true, ss (k + 2) (by omega), si (k + 2) (by omega), ds (k + 2) (by omega), di (k + 2) (by omega), bs (k + 2) (by omega), bi (k + 2) (by omega), tb.1 (k + 2) (by omega), tb.2 (k + 2) (by omega)]
   have n1 : (true != ((0 : Int) == 0)) = false := rfl
   have n2 : ((0 : Int) != 0) = false := rfl
   simp only [n1, n2, Bool.false_eq_true, if_false]
   have c1 := mn_is (dbLo u s f r lo) (drift s lo (flT u))
   have c2 := mn_is (mn (dbLo u s f r lo) (drift s lo (flT u))) 0
   have e1 := mx_is (dbHi u s f r hi) (drift s hi (flT u))
   have e2 := mx_is (mx (dbHi u s f r hi) (drift s hi (flT u))) 0
   have q1 : stLo u s f r lo ≤ dbLo u s f r lo := by unfold stLo; omega
   have q2 : dbHi u s f r hi ≤ stHi u s f r hi := by unfold stHi; omega
   have q3 : drift s hi (tTop u) - drift s lo (tTop u) + 2 * r ≤ dbHi u s f r hi - dbLo u s f r lo := by
    have dt := dTime_range g1 g3
    have z1 : lo * dTime u f ≤ hi * dTime u f := Int.mul_le_mul_of_nonneg_right v2 dt.1
    have z2 : (-hi) * dTime u f = -(hi * dTime u f) := Int.neg_mul _ _
    unfold dbHi dbLo
    rw [z2]
    omega
   simp only [laws_FnStrips.j0, Bool.false_eq_true, if_false, if_true]
   rw [if_neg (show ¬ stLo u s f r lo > 0 by omega), if_neg (show ¬ stHi u s f r hi < 0 by omega), if_neg (show ¬ stLo u s f r lo > dbLo u s f r lo by omega), if_neg (show ¬ stHi u s f r hi < dbHi u s f r hi by omega), w64 (n := dbHi u s f r hi - dbLo u s f r lo) (by omega), w64 (n := drift s hi (tTop u) - drift s lo (tTop u)) (by omega), w64 (n := 2 * r) (by omega), w64 (n := drift s hi (tTop u) - drift s lo (tTop u) + 2 * r) (by omega), decide_eq_false (show ¬ dbHi u s f r hi - dbLo u s f r lo < drift s hi (tTop u) - drift s lo (tTop u) + 2 * r by omega)]
   obtain ⟨h0, er⟩ := roll_ok hc 601
   obtain ⟨d1, i1, h1, m1, n1, o1, p1⟩ := below_ok hc 0 h0 (lo + 50000 + 1) (Int.le_refl _) (by omega)
   obtain ⟨d2, i2, h2, m2, n2, o2, p2⟩ := below_ok hc i1 h1 (50000 - hi + 1) n1 (by omega)
   have hl := hc.1
   have hw2 : areWinds (lo - d1) (hi + d2) = true := by
    unfold areWinds
    rw [Bool.and_eq_true, inB_true, inB_true]
    omega
   have mo := st_mono h (show lo - d1 ≤ lo by omega) (show hi ≤ hi + d2 by omega)
   simp only [laws_FnStrips.j1, Bool.false_eq_true, if_false]
   rw [er k (by omega)]
   simp only [Option.bind_some]
   rw [w64 (n := lo + 50000) (by omega), w64 (n := lo + 50000 + 1) (by omega), m1]
   simp only [Option.bind_some]
   rw [w64 (n := 50000 - hi) (by omega), w64 (n := 50000 - hi + 1) (by omega), m2]
   simp only [Option.bind_some]
   rw [w64 (n := lo - d1) (by omega), w64 (n := hi + d2) (by omega)]
   unfold impl_StripOf.f
   rw [impl_shot, h, impl_winds, hw2]
   simp only [Option.bind_some, if_true, (strip_is h hw2).2 k (by omega)]
   rw [if_pos mo.1, decide_eq_true mo.2]
end Go.Proofs.Ytbleliajcbdijaa.F
namespace Go.Proofs.Ytbleliajcbdijaa.Pure
theorem FnStrips : Go.Proofs.Ytbleliajcbdijaa.F.laws_FnStrips.Pure := Go.Proofs.Ytbleliajcbdijaa.F.pure_FnStrips
end Go.Proofs.Ytbleliajcbdijaa.Pure
namespace Go.Proofs.Ytbleliajcbdijaa.F
end Go.Proofs.Ytbleliajcbdijaa.F
