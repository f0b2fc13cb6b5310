import Derived.Test.YtigkgihnijaefaaJFnBeats3
import Derived.Below
import Derived.Deep.Draws
import Derived.Deep.AppendLies
import Derived.Maps.AppendAt
import Derived.OwnWalk
import Derived.Laws.BytesArg
import Derived.Laws.MakeOwn
import Derived.Laws.OwnMore
import Derived.Tactics
import Derived.Lib.ConvBytes
import Derived.Laws.Slices
import Derived.WalkKit
import Derived.KernelRfl
import Derived.RowKit3
import Derived.Deep.LoopGhost
import Derived.Deep.QuietTactic
import Derived.BigQuiet
import Derived.WideLaws
import Derived.Deep.DeepCutAuto
import Derived.Deep.CutBlock
import Derived.Deep.RegionHeld3
import Derived.Lib.AppendStr
import Derived.ArgAppend
import Derived.Laws.IdiomCopy
import Derived.RowKit
import Derived.OrdersHeld
import Derived.Laws.BitsLemmas
import Derived.Laws.StructEq
import Derived.Test.YtigkgihnijaefaaProg
namespace Go.Proofs.Ytigkgihnijaefaa.F
open Go.RowKit Go.Proofs.YtigkgihnijaefaaW.PrintWords Go.Proofs.YtigkgihnijaefaaW.PrintLast Go.Proofs.YtigkgihnijaefaaW.PrintMore
attribute [local go_sem] max2_int min2_int max_two min_two max_three min_three max_four min_four   -- for this text's walks alone
set_option linter.unusedVariables false
set_option linter.unusedSimpArgs false
mutual
def laws_FnBeats.j0 : Nat → List Int → List (S56) → Int → Int → Int → Int → List (S56) → Int → Int → Int → Int → List (S56) → Int → Int → Int → Int → Int → Bool → Option (Bool)
 | 0, _, _, _, _, _, _, _, _, _, _, _, _, _, _, _, _, _, _ => none
 | k + 1, x0, x3, x4, x5, x6, x7, x10, x11, x12, x13, x14, x18, x19, x20, x21, x22, x25, x159 => if x159 = true then (some false) else (if x14 = 0 then ((impl_BeatTime.f k x10 x12 x13).bind fun bt449 => (if bt449.2 = 0 then (if bt449.1 > x11 then (some false) else (laws_FnBeats.j1 k x0 x3 x4 x5 x6 x7 x18 x19 x20 x21 x22 x25)) else (some false))) else (laws_FnBeats.j1 k x0 x3 x4 x5 x6 x7 x18 x19 x20 x21 x22 x25))
def laws_FnBeats.j1 : Nat → List Int → List (S56) → Int → Int → Int → Int → List (S56) → Int → Int → Int → Int → Int → Option (Bool)
 | 0, _, _, _, _, _, _, _, _, _, _, _, _ => none
 | k + 1, x0, x3, x4, x5, x6, x7, x18, x19, x20, x21, x22, x25 => if x22 = 0 then ((laws_roll.f k x0 701).bind fun bt451 => ((laws_dice_below.f bt451.1 bt451.2.1 bt451.2.2 (wrap64 ((wrap64 (x20 - x19)) + 1))).bind fun bt455 => ((impl_BeatsBetween.f k x18 x19 (wrap64 (x19 + bt455.1))).bind fun bt458 => ((impl_BeatsBetween.f k x18 (wrap64 (x19 + bt455.1)) x20).bind fun bt460 => (if bt458.2 = 0 then (if bt460.2 = 0 then (laws_FnBeats.j2 k x3 x4 x5 x6 x7 x25 ((wrap64 (bt458.1 + bt460.1)) != x21)) else (laws_FnBeats.j2 k x3 x4 x5 x6 x7 x25 true)) else (laws_FnBeats.j2 k x3 x4 x5 x6 x7 x25 true)))))) else (if x7 = 0 then ((impl_BeatAt.f k x3 x6).bind fun bt465 => (if bt465.2.2 = 0 then (if bt465.1 = x4 then (if bt465.2.1 = x5 then (some (decide (x6 < x25))) else (some false)) else (some false)) else (some false))) else (some true))
def laws_FnBeats.j2 : Nat → List (S56) → Int → Int → Int → Int → Int → Bool → Option (Bool)
 | 0, _, _, _, _, _, _, _ => none
 | k + 1, x3, x4, x5, x6, x7, x25, x213 => if x213 = true then (some false) else (if x7 = 0 then ((impl_BeatAt.f k x3 x6).bind fun bt462 => (if bt462.2.2 = 0 then (if bt462.1 = x4 then (if bt462.2.1 = x5 then (some (decide (x6 < x25))) else (some false)) else (some false)) else (some false))) else (some true))
end
def laws_FnBeats.f (k : Nat) (l0 : List Int) : Option (Bool) := (laws_big.f l0).bind fun t415 => (if t415 = true then (some true) else ((spec_DrawBeatTime.f k l0).bind fun bt416 => ((impl_BeatTime.f k bt416.1 bt416.2.1 bt416.2.2).bind fun bt421 => ((spec_BeatTime.f k bt416.1 bt416.2.1 bt416.2.2).bind fun bt423 => ((spec_DrawBeatAt.f k l0).bind fun bt425 => ((impl_BeatAt.f k bt425.1 bt425.2).bind fun bt429 => ((spec_BeatAt.f k bt425.1 bt425.2).bind fun bt432 => ((spec_DrawBeatsBetween.f k l0).bind fun bt435 => ((impl_BeatsBetween.f k bt435.1 bt435.2.1 bt435.2.2).bind fun bt440 => ((spec_BeatsBetween.f k bt435.1 bt435.2.1 bt435.2.2).bind fun bt442 => ((impl_ScoreEnd.f k bt416.1).bind fun bt444 => ((spec_ScoreEnd.f k bt416.1).bind fun bt446 => (if bt421.2 = bt423.2 then (if bt421.1 = bt423.1 then (if bt429.2.2 = bt432.2.2 then (if bt429.1 = bt432.1 then (if bt429.2.1 = bt432.2.1 then (if bt440.2 = bt442.2 then (if bt440.1 = bt442.1 then (if bt444.2 = bt446.2 then (if bt444.1 = bt446.1 then ((impl_IsScore.f k bt416.1).bind fun t448 => (laws_FnBeats.j0 k l0 bt416.1 bt416.2.1 bt416.2.2 bt421.1 bt421.2 bt425.1 bt425.2 bt429.1 bt429.2.1 bt429.2.2 bt435.1 bt435.2.1 bt435.2.2 bt440.1 bt440.2 bt444.1 (t448 != (bt446.2 == 0)))) else (laws_FnBeats.j0 k l0 bt416.1 bt416.2.1 bt416.2.2 bt421.1 bt421.2 bt425.1 bt425.2 bt429.1 bt429.2.1 bt429.2.2 bt435.1 bt435.2.1 bt435.2.2 bt440.1 bt440.2 bt444.1 true)) else (laws_FnBeats.j0 k l0 bt416.1 bt416.2.1 bt416.2.2 bt421.1 bt421.2 bt425.1 bt425.2 bt429.1 bt429.2.1 bt429.2.2 bt435.1 bt435.2.1 bt435.2.2 bt440.1 bt440.2 bt444.1 true)) else (laws_FnBeats.j0 k l0 bt416.1 bt416.2.1 bt416.2.2 bt421.1 bt421.2 bt425.1 bt425.2 bt429.1 bt429.2.1 bt429.2.2 bt435.1 bt435.2.1 bt435.2.2 bt440.1 bt440.2 bt444.1 true)) else (laws_FnBeats.j0 k l0 bt416.1 bt416.2.1 bt416.2.2 bt421.1 bt421.2 bt425.1 bt425.2 bt429.1 bt429.2.1 bt429.2.2 bt435.1 bt435.2.1 bt435.2.2 bt440.1 bt440.2 bt444.1 true)) else (laws_FnBeats.j0 k l0 bt416.1 bt416.2.1 bt416.2.2 bt421.1 bt421.2 bt425.1 bt425.2 bt429.1 bt429.2.1 bt429.2.2 bt435.1 bt435.2.1 bt435.2.2 bt440.1 bt440.2 bt444.1 true)) else (laws_FnBeats.j0 k l0 bt416.1 bt416.2.1 bt416.2.2 bt421.1 bt421.2 bt425.1 bt425.2 bt429.1 bt429.2.1 bt429.2.2 bt435.1 bt435.2.1 bt435.2.2 bt440.1 bt440.2 bt444.1 true)) else (laws_FnBeats.j0 k l0 bt416.1 bt416.2.1 bt416.2.2 bt421.1 bt421.2 bt425.1 bt425.2 bt429.1 bt429.2.1 bt429.2.2 bt435.1 bt435.2.1 bt435.2.2 bt440.1 bt440.2 bt444.1 true)) else (laws_FnBeats.j0 k l0 bt416.1 bt416.2.1 bt416.2.2 bt421.1 bt421.2 bt425.1 bt425.2 bt429.1 bt429.2.1 bt429.2.2 bt435.1 bt435.2.1 bt435.2.2 bt440.1 bt440.2 bt444.1 true)) else (laws_FnBeats.j0 k l0 bt416.1 bt416.2.1 bt416.2.2 bt421.1 bt421.2 bt425.1 bt425.2 bt429.1 bt429.2.1 bt429.2.2 bt435.1 bt435.2.1 bt435.2.2 bt440.1 bt440.2 bt444.1 true))))))))))))))
theorem laws_FnBeats.mono_l : ∀ k, (∀ y0 y1 y2 y3 y4 y5 y6 y7 y8 y9 y10 y11 y12 y13 y14 y15 y16 y17, LeO (laws_FnBeats.j0 k y0 y1 y2 y3 y4 y5 y6 y7 y8 y9 y10 y11 y12 y13 y14 y15 y16 y17) (laws_FnBeats.j0 (k + 1) y0 y1 y2 y3 y4 y5 y6 y7 y8 y9 y10 y11 y12 y13 y14 y15 y16 y17)) ∧ (∀ y0 y1 y2 y3 y4 y5 y6 y7 y8 y9 y10 y11, LeO (laws_FnBeats.j1 k y0 y1 y2 y3 y4 y5 y6 y7 y8 y9 y10 y11) (laws_FnBeats.j1 (k + 1) y0 y1 y2 y3 y4 y5 y6 y7 y8 y9 y10 y11)) ∧ (∀ y0 y1 y2 y3 y4 y5 y6, LeO (laws_FnBeats.j2 k y0 y1 y2 y3 y4 y5 y6) (laws_FnBeats.j2 (k + 1) y0 y1 y2 y3 y4 y5 y6))
 | 0 => ⟨fun _ _ _ _ _ _ _ _ _ _ _ _ _ _ _ _ _ _ r h => by simp [laws_FnBeats.j0] at h, fun _ _ _ _ _ _ _ _ _ _ _ _ r h => by simp [laws_FnBeats.j1] at h, fun _ _ _ _ _ _ _ r h => by simp [laws_FnBeats.j2] at h⟩
 | k + 1 => by
  obtain ⟨ih0, ih1, ih2⟩ := laws_FnBeats.mono_l k
  refine ⟨?_, ?_, ?_⟩
  ·intro y0 y1 y2 y3 y4 y5 y6 y7 y8 y9 y10 y11 y12 y13 y14 y15 y16 y17
   unfold laws_FnBeats.j0
   repeat' first
   | (with_reducible exact ih0 _ _ _ _ _ _ _ _ _ _ _ _ _ _ _ _ _ _)
   | (with_reducible exact ih1 _ _ _ _ _ _ _ _ _ _ _ _)
   | (with_reducible exact ih2 _ _ _ _ _ _ _)
   | (with_reducible exact impl_BeatAt.mono _ _ _)
   | (with_reducible exact impl_BeatTime.mono _ _ _ _)
   | (with_reducible exact impl_BeatsBetween.mono _ _ _ _)
   | (with_reducible exact impl_IsScore.mono _ _)
   | (with_reducible exact impl_ScoreEnd.mono _ _)
   | (with_reducible exact laws_roll.mono _ _ _)
   | (with_reducible exact spec_BeatAt.mono _ _ _)
   | (with_reducible exact spec_BeatTime.mono _ _ _ _)
   | (with_reducible exact spec_BeatsBetween.mono _ _ _ _)
   | (with_reducible exact spec_DrawBeatAt.mono _ _)
   | (with_reducible exact spec_DrawBeatTime.mono _ _)
   | (with_reducible exact spec_DrawBeatsBetween.mono _ _)
   | (with_reducible exact spec_ScoreEnd.mono _ _)
   | (with_reducible exact LeO.refl _)
   | (with_reducible exact LeO.none _)
   | (with_reducible refine LeO.ite ?_ ?_)
   | (with_reducible refine LeO.bind ?_ (fun _ => ?_))
   | exact ih0 _ _ _ _ _ _ _ _ _ _ _ _ _ _ _ _ _ _
   | exact ih1 _ _ _ _ _ _ _ _ _ _ _ _
   | exact ih2 _ _ _ _ _ _ _
   | exact impl_BeatAt.mono _ _ _
   | exact impl_BeatTime.mono _ _ _ _
   | exact impl_BeatsBetween.mono _ _ _ _
   | exact impl_IsScore.mono _ _
   | exact impl_ScoreEnd.mono _ _
   | exact laws_roll.mono _ _ _
   | exact spec_BeatAt.mono _ _ _
   | exact spec_BeatTime.mono _ _ _ _
   | exact spec_BeatsBetween.mono _ _ _ _
   | exact spec_DrawBeatAt.mono _ _
   | exact spec_DrawBeatTime.mono _ _
   | exact spec_DrawBeatsBetween.mono _ _
   | exact spec_ScoreEnd.mono _ _
   | exact LeO.none _
   | refine LeO.ite ?_ ?_
   | refine LeO.bind ?_ (fun _ => ?_)
  ·intro y0 y1 y2 y3 y4 y5 y6 y7 y8 y9 y10 y11
   unfold laws_FnBeats.j1
   repeat' first
   | (with_reducible exact ih0 _ _ _ _ _ _ _ _ _ _ _ _ _ _ _ _ _ _)
   | (with_reducible exact ih1 _ _ _ _ _ _ _ _ _ _ _ _)
   | (with_reducible exact ih2 _ _ _ _ _ _ _)
   | (with_reducible exact impl_BeatAt.mono _ _ _)
   | (with_reducible exact impl_BeatTime.mono _ _ _ _)
   | (with_reducible exact impl_BeatsBetween.mono _ _ _ _)
   | (with_reducible exact impl_IsScore.mono _ _)
   | (with_reducible exact impl_ScoreEnd.mono _ _)
   | (with_reducible exact laws_roll.mono _ _ _)
   | (with_reducible exact spec_BeatAt.mono _ _ _)
   | (with_reducible exact spec_BeatTime.mono _ _ _ _)
   | (with_reducible exact spec_BeatsBetween.mono _ _ _ _)
   | (with_reducible exact spec_DrawBeatAt.mono _ _)
   | (with_reducible exact spec_DrawBeatTime.mono _ _)
   | (with_reducible exact spec_DrawBeatsBetween.mono _ _)
   | (with_reducible exact spec_ScoreEnd.mono _ _)
   | (with_reducible exact LeO.refl _)
   | (with_reducible exact LeO.none _)
   | (with_reducible refine LeO.ite ?_ ?_)
   | (with_reducible refine LeO.bind ?_ (fun _ => ?_))
   | exact ih0 _ _ _ _ _ _ _ _ _ _ _ _ _ _ _ _ _ _
   | exact ih1 _ _ _ _ _ _ _ _ _ _ _ _
   | exact ih2 _ _ _ _ _ _ _
   | exact impl_BeatAt.mono _ _ _
   | exact impl_BeatTime.mono _ _ _ _
   | exact impl_BeatsBetween.mono _ _ _ _
   | exact impl_IsScore.mono _ _
   | exact impl_ScoreEnd.mono _ _
   | exact laws_roll.mono _ _ _
   | exact spec_BeatAt.mono _ _ _
   | exact spec_BeatTime.mono _ _ _ _
   | exact spec_BeatsBetween.mono _ _ _ _
   | exact spec_DrawBeatAt.mono _ _
   | exact spec_DrawBeatTime.mono _ _
   | exact spec_DrawBeatsBetween.mono _ _
   | exact spec_ScoreEnd.mono _ _
   | exact LeO.none _
   | refine LeO.ite ?_ ?_
   | refine LeO.bind ?_ (fun _ => ?_)
  ·intro y0 y1 y2 y3 y4 y5 y6
   unfold laws_FnBeats.j2
   repeat' first
   | (with_reducible exact ih0 _ _ _ _ _ _ _ _ _ _ _ _ _ _ _ _ _ _)
   | (with_reducible exact ih1 _ _ _ _ _ _ _ _ _ _ _ _)
   | (with_reducible exact ih2 _ _ _ _ _ _ _)
   | (with_reducible exact impl_BeatAt.mono _ _ _)
   | (with_reducible exact impl_BeatTime.mono _ _ _ _)
   | (with_reducible exact impl_BeatsBetween.mono _ _ _ _)
   | (with_reducible exact impl_IsScore.mono _ _)
   | (with_reducible exact impl_ScoreEnd.mono _ _)
   | (with_reducible exact laws_roll.mono _ _ _)
   | (with_reducible exact spec_BeatAt.mono _ _ _)
   | (with_reducible exact spec_BeatTime.mono _ _ _ _)
   | (with_reducible exact spec_BeatsBetween.mono _ _ _ _)
   | (with_reducible exact spec_DrawBeatAt.mono _ _)
   | (with_reducible exact spec_DrawBeatTime.mono _ _)
   | (with_reducible exact spec_DrawBeatsBetween.mono _ _)
   | (with_reducible exact spec_ScoreEnd.mono _ _)
   | (with_reducible exact LeO.refl _)
   | (with_reducible exact LeO.none _)
   | (with_reducible refine LeO.ite ?_ ?_)
   | (with_reducible refine LeO.bind ?_ (fun _ => ?_))
   | exact ih0 _ _ _ _ _ _ _ _ _ _ _ _ _ _ _ _ _ _
   | exact ih1 _ _ _ _ _ _ _ _ _ _ _ _
   | exact ih2 _ _ _ _ _ _ _
   | exact impl_BeatAt.mono _ _ _
   | exact impl_BeatTime.mono _ _ _ _
   | exact impl_BeatsBetween.mono _ _ _ _
   | exact impl_IsScore.mono _ _
   | exact impl_ScoreEnd.mono _ _
   | exact laws_roll.mono _ _ _
   | exact spec_BeatAt.mono _ _ _
   | exact spec_BeatTime.mono _ _ _ _
   | exact spec_BeatsBetween.mono _ _ _ _
   | exact spec_DrawBeatAt.mono _ _
   | exact spec_DrawBeatTime.mono _ _
   | exact spec_DrawBeatsBetween.mono _ _
   | exact spec_ScoreEnd.mono _ _
   | exact LeO.none _
   | refine LeO.ite ?_ ?_
   | refine LeO.bind ?_ (fun _ => ?_)
theorem laws_FnBeats.mono : ∀ a0 k, LeO (laws_FnBeats.f k a0) (laws_FnBeats.f (k + 1) a0) := by
 intro a0 k
 obtain ⟨ih0, ih1, ih2⟩ := laws_FnBeats.mono_l k
 unfold laws_FnBeats.f
 repeat' first
   | (with_reducible exact ih0 _ _ _ _ _ _ _ _ _ _ _ _ _ _ _ _ _ _)
   | (with_reducible exact ih1 _ _ _ _ _ _ _ _ _ _ _ _)
   | (with_reducible exact ih2 _ _ _ _ _ _ _)
   | (with_reducible exact impl_BeatAt.mono _ _ _)
   | (with_reducible exact impl_BeatTime.mono _ _ _ _)
   | (with_reducible exact impl_BeatsBetween.mono _ _ _ _)
   | (with_reducible exact impl_IsScore.mono _ _)
   | (with_reducible exact impl_ScoreEnd.mono _ _)
   | (with_reducible exact laws_roll.mono _ _ _)
   | (with_reducible exact spec_BeatAt.mono _ _ _)
   | (with_reducible exact spec_BeatTime.mono _ _ _ _)
   | (with_reducible exact spec_BeatsBetween.mono _ _ _ _)
   | (with_reducible exact spec_DrawBeatAt.mono _ _)
   | (with_reducible exact spec_DrawBeatTime.mono _ _)
   | (with_reducible exact spec_DrawBeatsBetween.mono _ _)
   | (with_reducible exact spec_ScoreEnd.mono _ _)
   | (with_reducible exact LeO.refl _)
   | (with_reducible exact LeO.none _)
   | (with_reducible refine LeO.ite ?_ ?_)
   | (with_reducible refine LeO.bind ?_ (fun _ => ?_))
   | exact ih0 _ _ _ _ _ _ _ _ _ _ _ _ _ _ _ _ _ _
   | exact ih1 _ _ _ _ _ _ _ _ _ _ _ _
   | exact ih2 _ _ _ _ _ _ _
   | exact impl_BeatAt.mono _ _ _
   | exact impl_BeatTime.mono _ _ _ _
   | exact impl_BeatsBetween.mono _ _ _ _
   | exact impl_IsScore.mono _ _
   | exact impl_ScoreEnd.mono _ _
   | exact laws_roll.mono _ _ _
   | exact spec_BeatAt.mono _ _ _
   | exact spec_BeatTime.mono _ _ _ _
   | exact spec_BeatsBetween.mono _ _ _ _
   | exact spec_DrawBeatAt.mono _ _
   | exact spec_DrawBeatTime.mono _ _
   | exact spec_DrawBeatsBetween.mono _ _
   | exact spec_ScoreEnd.mono _ _
   | exact LeO.none _
   | refine LeO.ite ?_ ?_
   | refine LeO.bind ?_ (fun _ => ?_)
theorem laws_FnBeats.j0_true (k : Nat) (x0 : List Int) (x3 : List (S56)) (x4 : Int) (x5 : Int) (x6 : Int) (x7 : Int) (x10 : List (S56)) (x11 : Int) (x12 : Int) (x13 : Int) (x14 : Int) (x18 : List (S56)) (x19 : Int) (x20 : Int) (x21 : Int) (x22 : Int) (x25 : Int) : ¬ laws_FnBeats.j0 k x0 x3 x4 x5 x6 x7 x10 x11 x12 x13 x14 x18 x19 x20 x21 x22 x25 true = some true := by
 cases k with
 | zero => simp [laws_FnBeats.j0]
 | succ k => simp [laws_FnBeats.j0]
theorem laws_FnBeats.j2_true (k : Nat) (x3 : List (S56)) (x4 : Int) (x5 : Int) (x6 : Int) (x7 : Int) (x25 : Int) : ¬ laws_FnBeats.j2 k x3 x4 x5 x6 x7 x25 true = some true := by
 cases k with
 | zero => simp [laws_FnBeats.j2]
 | succ k => simp [laws_FnBeats.j2]
set_option maxHeartbeats 8000000 in
set_option maxRecDepth 100000 in
theorem laws_FnBeats.calls (k : Nat) (A0 : Option Addr) (c0 : Nat) (l0 : List Int) (r : Bool) (w : World) (hr0 : Kd.C (Kd.int .u8) w A0 l0.length l0) (hc0 : l0.length ≤ c0) (h : laws_FnBeats.f k l0 = some r) (hr_ : r = true) :
  Calls Try.prog 4 #[.slice A0 l0.length c0] w fun e w' => e = .returned (.bool r) ∧ Below w.heap.size w w' := by
 have HR_ := Aside0.mk hr_
 clear hr_
 have HR0 := Aside0.mk hr0
 have HC0 := Aside0.mk hc0
 clear hr0 hc0
 have HB := Aside0.mk (Below.refl w.heap.size w)
 have H : ((laws_big.f l0).bind fun t415 => (if t415 = true then (some true) else ((spec_DrawBeatTime.f k l0).bind fun bt416 => ((impl_BeatTime.f k bt416.1 bt416.2.1 bt416.2.2).bind fun bt421 => ((spec_BeatTime.f k bt416.1 bt416.2.1 bt416.2.2).bind fun bt423 => ((spec_DrawBeatAt.f k l0).bind fun bt425 => ((impl_BeatAt.f k bt425.1 bt425.2).bind fun bt429 => ((spec_BeatAt.f k bt425.1 bt425.2).bind fun bt432 => ((spec_DrawBeatsBetween.f k l0).bind fun bt435 => ((impl_BeatsBetween.f k bt435.1 bt435.2.1 bt435.2.2).bind fun bt440 => ((spec_BeatsBetween.f k bt435.1 bt435.2.1 bt435.2.2).bind fun bt442 => ((impl_ScoreEnd.f k bt416.1).bind fun bt444 => ((spec_ScoreEnd.f k bt416.1).bind fun bt446 => (if bt421.2 = bt423.2 then (if bt421.1 = bt423.1 then (if bt429.2.2 = bt432.2.2 then (if bt429.1 = bt432.1 then (if bt429.2.1 = bt432.2.1 then (if bt440.2 = bt442.2 then (if bt440.1 = bt442.1 then (if bt444.2 = bt446.2 then (if bt444.1 = bt446.1 then ((impl_IsScore.f k bt416.1).bind fun t448 => (laws_FnBeats.j0 k l0 bt416.1 bt416.2.1 bt416.2.2 bt421.1 bt421.2 bt425.1 bt425.2 bt429.1 bt429.2.1 bt429.2.2 bt435.1 bt435.2.1 bt435.2.2 bt440.1 bt440.2 bt444.1 (t448 != (bt446.2 == 0)))) else (laws_FnBeats.j0 k l0 bt416.1 bt416.2.1 bt416.2.2 bt421.1 bt421.2 bt425.1 bt425.2 bt429.1 bt429.2.1 bt429.2.2 bt435.1 bt435.2.1 bt435.2.2 bt440.1 bt440.2 bt444.1 true)) else (laws_FnBeats.j0 k l0 bt416.1 bt416.2.1 bt416.2.2 bt421.1 bt421.2 bt425.1 bt425.2 bt429.1 bt429.2.1 bt429.2.2 bt435.1 bt435.2.1 bt435.2.2 bt440.1 bt440.2 bt444.1 true)) else (laws_FnBeats.j0 k l0 bt416.1 bt416.2.1 bt416.2.2 bt421.1 bt421.2 bt425.1 bt425.2 bt429.1 bt429.2.1 bt429.2.2 bt435.1 bt435.2.1 bt435.2.2 bt440.1 bt440.2 bt444.1 true)) else (laws_FnBeats.j0 k l0 bt416.1 bt416.2.1 bt416.2.2 bt421.1 bt421.2 bt425.1 bt425.2 bt429.1 bt429.2.1 bt429.2.2 bt435.1 bt435.2.1 bt435.2.2 bt440.1 bt440.2 bt444.1 true)) else (laws_FnBeats.j0 k l0 bt416.1 bt416.2.1 bt416.2.2 bt421.1 bt421.2 bt425.1 bt425.2 bt429.1 bt429.2.1 bt429.2.2 bt435.1 bt435.2.1 bt435.2.2 bt440.1 bt440.2 bt444.1 true)) else (laws_FnBeats.j0 k l0 bt416.1 bt416.2.1 bt416.2.2 bt421.1 bt421.2 bt425.1 bt425.2 bt429.1 bt429.2.1 bt429.2.2 bt435.1 bt435.2.1 bt435.2.2 bt440.1 bt440.2 bt444.1 true)) else (laws_FnBeats.j0 k l0 bt416.1 bt416.2.1 bt416.2.2 bt421.1 bt421.2 bt425.1 bt425.2 bt429.1 bt429.2.1 bt429.2.2 bt435.1 bt435.2.1 bt435.2.2 bt440.1 bt440.2 bt444.1 true)) else (laws_FnBeats.j0 k l0 bt416.1 bt416.2.1 bt416.2.2 bt421.1 bt421.2 bt425.1 bt425.2 bt429.1 bt429.2.1 bt429.2.2 bt435.1 bt435.2.1 bt435.2.2 bt440.1 bt440.2 bt444.1 true)) else (laws_FnBeats.j0 k l0 bt416.1 bt416.2.1 bt416.2.2 bt421.1 bt421.2 bt425.1 bt425.2 bt429.1 bt429.2.1 bt429.2.2 bt435.1 bt435.2.1 bt435.2.2 bt440.1 bt440.2 bt444.1 true))))))))))))))) = some r := h
 clear h
 replace H := Option.bind_eq_some_iff.mp H
 obtain ⟨t415, A20, H⟩ := H
 replace H : (if t415 = true then (some true) else ((spec_DrawBeatTime.f k l0).bind fun bt416 => ((impl_BeatTime.f k bt416.1 bt416.2.1 bt416.2.2).bind fun bt421 => ((spec_BeatTime.f k bt416.1 bt416.2.1 bt416.2.2).bind fun bt423 => ((spec_DrawBeatAt.f k l0).bind fun bt425 => ((impl_BeatAt.f k bt425.1 bt425.2).bind fun bt429 => ((spec_BeatAt.f k bt425.1 bt425.2).bind fun bt432 => ((spec_DrawBeatsBetween.f k l0).bind fun bt435 => ((impl_BeatsBetween.f k bt435.1 bt435.2.1 bt435.2.2).bind fun bt440 => ((spec_BeatsBetween.f k bt435.1 bt435.2.1 bt435.2.2).bind fun bt442 => ((impl_ScoreEnd.f k bt416.1).bind fun bt444 => ((spec_ScoreEnd.f k bt416.1).bind fun bt446 => (if bt421.2 = bt423.2 then (if bt421.1 = bt423.1 then (if bt429.2.2 = bt432.2.2 then (if bt429.1 = bt432.1 then (if bt429.2.1 = bt432.2.1 then (if bt440.2 = bt442.2 then (if bt440.1 = bt442.1 then (if bt444.2 = bt446.2 then (if bt444.1 = bt446.1 then ((impl_IsScore.f k bt416.1).bind fun t448 => (laws_FnBeats.j0 k l0 bt416.1 bt416.2.1 bt416.2.2 bt421.1 bt421.2 bt425.1 bt425.2 bt429.1 bt429.2.1 bt429.2.2 bt435.1 bt435.2.1 bt435.2.2 bt440.1 bt440.2 bt444.1 (t448 != (bt446.2 == 0)))) else (laws_FnBeats.j0 k l0 bt416.1 bt416.2.1 bt416.2.2 bt421.1 bt421.2 bt425.1 bt425.2 bt429.1 bt429.2.1 bt429.2.2 bt435.1 bt435.2.1 bt435.2.2 bt440.1 bt440.2 bt444.1 true)) else (laws_FnBeats.j0 k l0 bt416.1 bt416.2.1 bt416.2.2 bt421.1 bt421.2 bt425.1 bt425.2 bt429.1 bt429.2.1 bt429.2.2 bt435.1 bt435.2.1 bt435.2.2 bt440.1 bt440.2 bt444.1 true)) else (laws_FnBeats.j0 k l0 bt416.1 bt416.2.1 bt416.2.2 bt421.1 bt421.2 bt425.1 bt425.2 bt429.1 bt429.2.1 bt429.2.2 bt435.1 bt435.2.1 bt435.2.2 bt440.1 bt440.2 bt444.1 true)) else (laws_FnBeats.j0 k l0 bt416.1 bt416.2.1 bt416.2.2 bt421.1 bt421.2 bt425.1 bt425.2 bt429.1 bt429.2.1 bt429.2.2 bt435.1 bt435.2.1 bt435.2.2 bt440.1 bt440.2 bt444.1 true)) else (laws_FnBeats.j0 k l0 bt416.1 bt416.2.1 bt416.2.2 bt421.1 bt421.2 bt425.1 bt425.2 bt429.1 bt429.2.1 bt429.2.2 bt435.1 bt435.2.1 bt435.2.2 bt440.1 bt440.2 bt444.1 true)) else (laws_FnBeats.j0 k l0 bt416.1 bt416.2.1 bt416.2.2 bt421.1 bt421.2 bt425.1 bt425.2 bt429.1 bt429.2.1 bt429.2.2 bt435.1 bt435.2.1 bt435.2.2 bt440.1 bt440.2 bt444.1 true)) else (laws_FnBeats.j0 k l0 bt416.1 bt416.2.1 bt416.2.2 bt421.1 bt421.2 bt425.1 bt425.2 bt429.1 bt429.2.1 bt429.2.2 bt435.1 bt435.2.1 bt435.2.2 bt440.1 bt440.2 bt444.1 true)) else (laws_FnBeats.j0 k l0 bt416.1 bt416.2.1 bt416.2.2 bt421.1 bt421.2 bt425.1 bt425.2 bt429.1 bt429.2.1 bt429.2.2 bt435.1 bt435.2.1 bt435.2.2 bt440.1 bt440.2 bt444.1 true)) else (laws_FnBeats.j0 k l0 bt416.1 bt416.2.1 bt416.2.2 bt421.1 bt421.2 bt425.1 bt425.2 bt429.1 bt429.2.1 bt429.2.2 bt435.1 bt435.2.1 bt435.2.2 bt440.1 bt440.2 bt444.1 true)))))))))))))) = some r := H
 have A2 := Aside0.mk A20
 clear A20
 by_cases c3 : t415 = true
 ·subst c3
  have H1 : (some true) = some r := by rw [if_pos rfl] at H; exact H
  clear H
  have H := H1
  clear H1
  obtain rfl := Option.some.inj H
  go_enter Try.func4, Try.ntmps4
  go_wp2_with (first | ((with_reducible refine gate_callee (f := 6) rfl ?_); refine goesL_ (some 40) rfl rfl Try.func6 (by kernel_rfl) rfl #[.slice A0 l0.length c0] rfl (by (try simp only [List.map_toArray, List.map_cons, List.map_nil]); first | done | rfl | (simp only [List.length_drop, List.length_take]; rfl)) ?_; (with_reducible refine (laws_big.calls _ _ l0 true _ ?side1 ?side2 A2.out).mono ?_); (case side1 => repeat (first | exact HR0.out | (with_reducible refine Kd.C_alloc ?_ _) | (with_reducible refine Kd.C_drewN ?_ _) | (with_reducible refine Kd.C_drew ?_))); (case side2 => exact HC0.out); rintro e w' ⟨rfl, ⟨nd, rfl⟩⟩; refine ⟨_, rfl, ?_⟩))
  go_ret
  exact ⟨by first | rfl | (simp [errW_none, errW_some] <;> rfl) | (simp [*, errW_none, errW_some] <;> rfl), by repeat (first | (with_reducible first | exact HB.out | apply below_alloc | apply pw_below_drewN | apply below_drew1) | exact HB.out)⟩
 ·replace c3 := Bool.eq_false_iff.mpr c3
  subst c3
  have H1 : ((spec_DrawBeatTime.f k l0).bind fun bt416 => ((impl_BeatTime.f k bt416.1 bt416.2.1 bt416.2.2).bind fun bt421 => ((spec_BeatTime.f k bt416.1 bt416.2.1 bt416.2.2).bind fun bt423 => ((spec_DrawBeatAt.f k l0).bind fun bt425 => ((impl_BeatAt.f k bt425.1 bt425.2).bind fun bt429 => ((spec_BeatAt.f k bt425.1 bt425.2).bind fun bt432 => ((spec_DrawBeatsBetween.f k l0).bind fun bt435 => ((impl_BeatsBetween.f k bt435.1 bt435.2.1 bt435.2.2).bind fun bt440 => ((spec_BeatsBetween.f k bt435.1 bt435.2.1 bt435.2.2).bind fun bt442 => ((impl_ScoreEnd.f k bt416.1).bind fun bt444 => ((spec_ScoreEnd.f k bt416.1).bind fun bt446 => (if bt421.2 = bt423.2 then (if bt421.1 = bt423.1 then (if bt429.2.2 = bt432.2.2 then (if bt429.1 = bt432.1 then (if bt429.2.1 = bt432.2.1 then (if bt440.2 = bt442.2 then (if bt440.1 = bt442.1 then (if bt444.2 = bt446.2 then (if bt444.1 = bt446.1 then ((impl_IsScore.f k bt416.1).bind fun t448 => (laws_FnBeats.j0 k l0 bt416.1 bt416.2.1 bt416.2.2 bt421.1 bt421.2 bt425.1 bt425.2 bt429.1 bt429.2.1 bt429.2.2 bt435.1 bt435.2.1 bt435.2.2 bt440.1 bt440.2 bt444.1 (t448 != (bt446.2 == 0)))) else (laws_FnBeats.j0 k l0 bt416.1 bt416.2.1 bt416.2.2 bt421.1 bt421.2 bt425.1 bt425.2 bt429.1 bt429.2.1 bt429.2.2 bt435.1 bt435.2.1 bt435.2.2 bt440.1 bt440.2 bt444.1 true)) else (laws_FnBeats.j0 k l0 bt416.1 bt416.2.1 bt416.2.2 bt421.1 bt421.2 bt425.1 bt425.2 bt429.1 bt429.2.1 bt429.2.2 bt435.1 bt435.2.1 bt435.2.2 bt440.1 bt440.2 bt444.1 true)) else (laws_FnBeats.j0 k l0 bt416.1 bt416.2.1 bt416.2.2 bt421.1 bt421.2 bt425.1 bt425.2 bt429.1 bt429.2.1 bt429.2.2 bt435.1 bt435.2.1 bt435.2.2 bt440.1 bt440.2 bt444.1 true)) else (laws_FnBeats.j0 k l0 bt416.1 bt416.2.1 bt416.2.2 bt421.1 bt421.2 bt425.1 bt425.2 bt429.1 bt429.2.1 bt429.2.2 bt435.1 bt435.2.1 bt435.2.2 bt440.1 bt440.2 bt444.1 true)) else (laws_FnBeats.j0 k l0 bt416.1 bt416.2.1 bt416.2.2 bt421.1 bt421.2 bt425.1 bt425.2 bt429.1 bt429.2.1 bt429.2.2 bt435.1 bt435.2.1 bt435.2.2 bt440.1 bt440.2 bt444.1 true)) else (laws_FnBeats.j0 k l0 bt416.1 bt416.2.1 bt416.2.2 bt421.1 bt421.2 bt425.1 bt425.2 bt429.1 bt429.2.1 bt429.2.2 bt435.1 bt435.2.1 bt435.2.2 bt440.1 bt440.2 bt444.1 true)) else (laws_FnBeats.j0 k l0 bt416.1 bt416.2.1 bt416.2.2 bt421.1 bt421.2 bt425.1 bt425.2 bt429.1 bt429.2.1 bt429.2.2 bt435.1 bt435.2.1 bt435.2.2 bt440.1 bt440.2 bt444.1 true)) else (laws_FnBeats.j0 k l0 bt416.1 bt416.2.1 bt416.2.2 bt421.1 bt421.2 bt425.1 bt425.2 bt429.1 bt429.2.1 bt429.2.2 bt435.1 bt435.2.1 bt435.2.2 bt440.1 bt440.2 bt444.1 true)) else (laws_FnBeats.j0 k l0 bt416.1 bt416.2.1 bt416.2.2 bt421.1 bt421.2 bt425.1 bt425.2 bt429.1 bt429.2.1 bt429.2.2 bt435.1 bt435.2.1 bt435.2.2 bt440.1 bt440.2 bt444.1 true))))))))))))) = some r := by rw [if_neg (show ¬ (false = true) by decide)] at H; exact H
  clear H
  have H := H1
  clear H1
  replace H := Option.bind_eq_some_iff.mp H
  obtain ⟨⟨t416, t417, t418⟩, A40, H⟩ := H
  replace H : ((impl_BeatTime.f k t416 t417 t418).bind fun bt421 => ((spec_BeatTime.f k t416 t417 t418).bind fun bt423 => ((spec_DrawBeatAt.f k l0).bind fun bt425 => ((impl_BeatAt.f k bt425.1 bt425.2).bind fun bt429 => ((spec_BeatAt.f k bt425.1 bt425.2).bind fun bt432 => ((spec_DrawBeatsBetween.f k l0).bind fun bt435 => ((impl_BeatsBetween.f k bt435.1 bt435.2.1 bt435.2.2).bind fun bt440 => ((spec_BeatsBetween.f k bt435.1 bt435.2.1 bt435.2.2).bind fun bt442 => ((impl_ScoreEnd.f k t416).bind fun bt444 => ((spec_ScoreEnd.f k t416).bind fun bt446 => (if bt421.2 = bt423.2 then (if bt421.1 = bt423.1 then (if bt429.2.2 = bt432.2.2 then (if bt429.1 = bt432.1 then (if bt429.2.1 = bt432.2.1 then (if bt440.2 = bt442.2 then (if bt440.1 = bt442.1 then (if bt444.2 = bt446.2 then (if bt444.1 = bt446.1 then ((impl_IsScore.f k t416).bind fun t448 => (laws_FnBeats.j0 k l0 t416 t417 t418 bt421.1 bt421.2 bt425.1 bt425.2 bt429.1 bt429.2.1 bt429.2.2 bt435.1 bt435.2.1 bt435.2.2 bt440.1 bt440.2 bt444.1 (t448 != (bt446.2 == 0)))) else (laws_FnBeats.j0 k l0 t416 t417 t418 bt421.1 bt421.2 bt425.1 bt425.2 bt429.1 bt429.2.1 bt429.2.2 bt435.1 bt435.2.1 bt435.2.2 bt440.1 bt440.2 bt444.1 true)) else (laws_FnBeats.j0 k l0 t416 t417 t418 bt421.1 bt421.2 bt425.1 bt425.2 bt429.1 bt429.2.1 bt429.2.2 bt435.1 bt435.2.1 bt435.2.2 bt440.1 bt440.2 bt444.1 true)) else (laws_FnBeats.j0 k l0 t416 t417 t418 bt421.1 bt421.2 bt425.1 bt425.2 bt429.1 bt429.2.1 bt429.2.2 bt435.1 bt435.2.1 bt435.2.2 bt440.1 bt440.2 bt444.1 true)) else (laws_FnBeats.j0 k l0 t416 t417 t418 bt421.1 bt421.2 bt425.1 bt425.2 bt429.1 bt429.2.1 bt429.2.2 bt435.1 bt435.2.1 bt435.2.2 bt440.1 bt440.2 bt444.1 true)) else (laws_FnBeats.j0 k l0 t416 t417 t418 bt421.1 bt421.2 bt425.1 bt425.2 bt429.1 bt429.2.1 bt429.2.2 bt435.1 bt435.2.1 bt435.2.2 bt440.1 bt440.2 bt444.1 true)) else (laws_FnBeats.j0 k l0 t416 t417 t418 bt421.1 bt421.2 bt425.1 bt425.2 bt429.1 bt429.2.1 bt429.2.2 bt435.1 bt435.2.1 bt435.2.2 bt440.1 bt440.2 bt444.1 true)) else (laws_FnBeats.j0 k l0 t416 t417 t418 bt421.1 bt421.2 bt425.1 bt425.2 bt429.1 bt429.2.1 bt429.2.2 bt435.1 bt435.2.1 bt435.2.2 bt440.1 bt440.2 bt444.1 true)) else (laws_FnBeats.j0 k l0 t416 t417 t418 bt421.1 bt421.2 bt425.1 bt425.2 bt429.1 bt429.2.1 bt429.2.2 bt435.1 bt435.2.1 bt435.2.2 bt440.1 bt440.2 bt444.1 true)) else (laws_FnBeats.j0 k l0 t416 t417 t418 bt421.1 bt421.2 bt425.1 bt425.2 bt429.1 bt429.2.1 bt429.2.2 bt435.1 bt435.2.1 bt435.2.2 bt440.1 bt440.2 bt444.1 true)))))))))))) = some r := H
  have A4 := Aside0.mk A40
  clear A40
  replace H := Option.bind_eq_some_iff.mp H
  obtain ⟨⟨t421, t422⟩, A50, H⟩ := H
  replace H : ((spec_BeatTime.f k t416 t417 t418).bind fun bt423 => ((spec_DrawBeatAt.f k l0).bind fun bt425 => ((impl_BeatAt.f k bt425.1 bt425.2).bind fun bt429 => ((spec_BeatAt.f k bt425.1 bt425.2).bind fun bt432 => ((spec_DrawBeatsBetween.f k l0).bind fun bt435 => ((impl_BeatsBetween.f k bt435.1 bt435.2.1 bt435.2.2).bind fun bt440 => ((spec_BeatsBetween.f k bt435.1 bt435.2.1 bt435.2.2).bind fun bt442 => ((impl_ScoreEnd.f k t416).bind fun bt444 => ((spec_ScoreEnd.f k t416).bind fun bt446 => (if t422 = bt423.2 then (if t421 = bt423.1 then (if bt429.2.2 = bt432.2.2 then (if bt429.1 = bt432.1 then (if bt429.2.1 = bt432.2.1 then (if bt440.2 = bt442.2 then (if bt440.1 = bt442.1 then (if bt444.2 = bt446.2 then (if bt444.1 = bt446.1 then ((impl_IsScore.f k t416).bind fun t448 => (laws_FnBeats.j0 k l0 t416 t417 t418 t421 t422 bt425.1 bt425.2 bt429.1 bt429.2.1 bt429.2.2 bt435.1 bt435.2.1 bt435.2.2 bt440.1 bt440.2 bt444.1 (t448 != (bt446.2 == 0)))) else (laws_FnBeats.j0 k l0 t416 t417 t418 t421 t422 bt425.1 bt425.2 bt429.1 bt429.2.1 bt429.2.2 bt435.1 bt435.2.1 bt435.2.2 bt440.1 bt440.2 bt444.1 true)) else (laws_FnBeats.j0 k l0 t416 t417 t418 t421 t422 bt425.1 bt425.2 bt429.1 bt429.2.1 bt429.2.2 bt435.1 bt435.2.1 bt435.2.2 bt440.1 bt440.2 bt444.1 true)) else (laws_FnBeats.j0 k l0 t416 t417 t418 t421 t422 bt425.1 bt425.2 bt429.1 bt429.2.1 bt429.2.2 bt435.1 bt435.2.1 bt435.2.2 bt440.1 bt440.2 bt444.1 true)) else (laws_FnBeats.j0 k l0 t416 t417 t418 t421 t422 bt425.1 bt425.2 bt429.1 bt429.2.1 bt429.2.2 bt435.1 bt435.2.1 bt435.2.2 bt440.1 bt440.2 bt444.1 true)) else (laws_FnBeats.j0 k l0 t416 t417 t418 t421 t422 bt425.1 bt425.2 bt429.1 bt429.2.1 bt429.2.2 bt435.1 bt435.2.1 bt435.2.2 bt440.1 bt440.2 bt444.1 true)) else (laws_FnBeats.j0 k l0 t416 t417 t418 t421 t422 bt425.1 bt425.2 bt429.1 bt429.2.1 bt429.2.2 bt435.1 bt435.2.1 bt435.2.2 bt440.1 bt440.2 bt444.1 true)) else (laws_FnBeats.j0 k l0 t416 t417 t418 t421 t422 bt425.1 bt425.2 bt429.1 bt429.2.1 bt429.2.2 bt435.1 bt435.2.1 bt435.2.2 bt440.1 bt440.2 bt444.1 true)) else (laws_FnBeats.j0 k l0 t416 t417 t418 t421 t422 bt425.1 bt425.2 bt429.1 bt429.2.1 bt429.2.2 bt435.1 bt435.2.1 bt435.2.2 bt440.1 bt440.2 bt444.1 true)) else (laws_FnBeats.j0 k l0 t416 t417 t418 t421 t422 bt425.1 bt425.2 bt429.1 bt429.2.1 bt429.2.2 bt435.1 bt435.2.1 bt435.2.2 bt440.1 bt440.2 bt444.1 true))))))))))) = some r := H
  have A5 := Aside0.mk A50
  clear A50
  replace H := Option.bind_eq_some_iff.mp H
  obtain ⟨⟨t423, t424⟩, A60, H⟩ := H
  replace H : ((spec_DrawBeatAt.f k l0).bind fun bt425 => ((impl_BeatAt.f k bt425.1 bt425.2).bind fun bt429 => ((spec_BeatAt.f k bt425.1 bt425.2).bind fun bt432 => ((spec_DrawBeatsBetween.f k l0).bind fun bt435 => ((impl_BeatsBetween.f k bt435.1 bt435.2.1 bt435.2.2).bind fun bt440 => ((spec_BeatsBetween.f k bt435.1 bt435.2.1 bt435.2.2).bind fun bt442 => ((impl_ScoreEnd.f k t416).bind fun bt444 => ((spec_ScoreEnd.f k t416).bind fun bt446 => (if t422 = t424 then (if t421 = t423 then (if bt429.2.2 = bt432.2.2 then (if bt429.1 = bt432.1 then (if bt429.2.1 = bt432.2.1 then (if bt440.2 = bt442.2 then (if bt440.1 = bt442.1 then (if bt444.2 = bt446.2 then (if bt444.1 = bt446.1 then ((impl_IsScore.f k t416).bind fun t448 => (laws_FnBeats.j0 k l0 t416 t417 t418 t421 t422 bt425.1 bt425.2 bt429.1 bt429.2.1 bt429.2.2 bt435.1 bt435.2.1 bt435.2.2 bt440.1 bt440.2 bt444.1 (t448 != (bt446.2 == 0)))) else (laws_FnBeats.j0 k l0 t416 t417 t418 t421 t422 bt425.1 bt425.2 bt429.1 bt429.2.1 bt429.2.2 bt435.1 bt435.2.1 bt435.2.2 bt440.1 bt440.2 bt444.1 true)) else (laws_FnBeats.j0 k l0 t416 t417 t418 t421 t422 bt425.1 bt425.2 bt429.1 bt429.2.1 bt429.2.2 bt435.1 bt435.2.1 bt435.2.2 bt440.1 bt440.2 bt444.1 true)) else (laws_FnBeats.j0 k l0 t416 t417 t418 t421 t422 bt425.1 bt425.2 bt429.1 bt429.2.1 bt429.2.2 bt435.1 bt435.2.1 bt435.2.2 bt440.1 bt440.2 bt444.1 true)) else (laws_FnBeats.j0 k l0 t416 t417 t418 t421 t422 bt425.1 bt425.2 bt429.1 bt429.2.1 bt429.2.2 bt435.1 bt435.2.1 bt435.2.2 bt440.1 bt440.2 bt444.1 true)) else (laws_FnBeats.j0 k l0 t416 t417 t418 t421 t422 bt425.1 bt425.2 bt429.1 bt429.2.1 bt429.2.2 bt435.1 bt435.2.1 bt435.2.2 bt440.1 bt440.2 bt444.1 true)) else (laws_FnBeats.j0 k l0 t416 t417 t418 t421 t422 bt425.1 bt425.2 bt429.1 bt429.2.1 bt429.2.2 bt435.1 bt435.2.1 bt435.2.2 bt440.1 bt440.2 bt444.1 true)) else (laws_FnBeats.j0 k l0 t416 t417 t418 t421 t422 bt425.1 bt425.2 bt429.1 bt429.2.1 bt429.2.2 bt435.1 bt435.2.1 bt435.2.2 bt440.1 bt440.2 bt444.1 true)) else (laws_FnBeats.j0 k l0 t416 t417 t418 t421 t422 bt425.1 bt425.2 bt429.1 bt429.2.1 bt429.2.2 bt435.1 bt435.2.1 bt435.2.2 bt440.1 bt440.2 bt444.1 true)) else (laws_FnBeats.j0 k l0 t416 t417 t418 t421 t422 bt425.1 bt425.2 bt429.1 bt429.2.1 bt429.2.2 bt435.1 bt435.2.1 bt435.2.2 bt440.1 bt440.2 bt444.1 true)))))))))) = some r := H
  have A6 := Aside0.mk A60
  clear A60
  replace H := Option.bind_eq_some_iff.mp H
  obtain ⟨⟨t425, t426⟩, A70, H⟩ := H
  replace H : ((impl_BeatAt.f k t425 t426).bind fun bt429 => ((spec_BeatAt.f k t425 t426).bind fun bt432 => ((spec_DrawBeatsBetween.f k l0).bind fun bt435 => ((impl_BeatsBetween.f k bt435.1 bt435.2.1 bt435.2.2).bind fun bt440 => ((spec_BeatsBetween.f k bt435.1 bt435.2.1 bt435.2.2).bind fun bt442 => ((impl_ScoreEnd.f k t416).bind fun bt444 => ((spec_ScoreEnd.f k t416).bind fun bt446 => (if t422 = t424 then (if t421 = t423 then (if bt429.2.2 = bt432.2.2 then (if bt429.1 = bt432.1 then (if bt429.2.1 = bt432.2.1 then (if bt440.2 = bt442.2 then (if bt440.1 = bt442.1 then (if bt444.2 = bt446.2 then (if bt444.1 = bt446.1 then ((impl_IsScore.f k t416).bind fun t448 => (laws_FnBeats.j0 k l0 t416 t417 t418 t421 t422 t425 t426 bt429.1 bt429.2.1 bt429.2.2 bt435.1 bt435.2.1 bt435.2.2 bt440.1 bt440.2 bt444.1 (t448 != (bt446.2 == 0)))) else (laws_FnBeats.j0 k l0 t416 t417 t418 t421 t422 t425 t426 bt429.1 bt429.2.1 bt429.2.2 bt435.1 bt435.2.1 bt435.2.2 bt440.1 bt440.2 bt444.1 true)) else (laws_FnBeats.j0 k l0 t416 t417 t418 t421 t422 t425 t426 bt429.1 bt429.2.1 bt429.2.2 bt435.1 bt435.2.1 bt435.2.2 bt440.1 bt440.2 bt444.1 true)) else (laws_FnBeats.j0 k l0 t416 t417 t418 t421 t422 t425 t426 bt429.1 bt429.2.1 bt429.2.2 bt435.1 bt435.2.1 bt435.2.2 bt440.1 bt440.2 bt444.1 true)) else (laws_FnBeats.j0 k l0 t416 t417 t418 t421 t422 t425 t426 bt429.1 bt429.2.1 bt429.2.2 bt435.1 bt435.2.1 bt435.2.2 bt440.1 bt440.2 bt444.1 true)) else (laws_FnBeats.j0 k l0 t416 t417 t418 t421 t422 t425 t426 bt429.1 bt429.2.1 bt429.2.2 bt435.1 bt435.2.1 bt435.2.2 bt440.1 bt440.2 bt444.1 true)) else (laws_FnBeats.j0 k l0 t416 t417 t418 t421 t422 t425 t426 bt429.1 bt429.2.1 bt429.2.2 bt435.1 bt435.2.1 bt435.2.2 bt440.1 bt440.2 bt444.1 true)) else (laws_FnBeats.j0 k l0 t416 t417 t418 t421 t422 t425 t426 bt429.1 bt429.2.1 bt429.2.2 bt435.1 bt435.2.1 bt435.2.2 bt440.1 bt440.2 bt444.1 true)) else (laws_FnBeats.j0 k l0 t416 t417 t418 t421 t422 t425 t426 bt429.1 bt429.2.1 bt429.2.2 bt435.1 bt435.2.1 bt435.2.2 bt440.1 bt440.2 bt444.1 true)) else (laws_FnBeats.j0 k l0 t416 t417 t418 t421 t422 t425 t426 bt429.1 bt429.2.1 bt429.2.2 bt435.1 bt435.2.1 bt435.2.2 bt440.1 bt440.2 bt444.1 true))))))))) = some r := H
  have A7 := Aside0.mk A70
  clear A70
  replace H := Option.bind_eq_some_iff.mp H
  obtain ⟨⟨t429, t430, t431⟩, A80, H⟩ := H
  replace H : ((spec_BeatAt.f k t425 t426).bind fun bt432 => ((spec_DrawBeatsBetween.f k l0).bind fun bt435 => ((impl_BeatsBetween.f k bt435.1 bt435.2.1 bt435.2.2).bind fun bt440 => ((spec_BeatsBetween.f k bt435.1 bt435.2.1 bt435.2.2).bind fun bt442 => ((impl_ScoreEnd.f k t416).bind fun bt444 => ((spec_ScoreEnd.f k t416).bind fun bt446 => (if t422 = t424 then (if t421 = t423 then (if t431 = bt432.2.2 then (if t429 = bt432.1 then (if t430 = bt432.2.1 then (if bt440.2 = bt442.2 then (if bt440.1 = bt442.1 then (if bt444.2 = bt446.2 then (if bt444.1 = bt446.1 then ((impl_IsScore.f k t416).bind fun t448 => (laws_FnBeats.j0 k l0 t416 t417 t418 t421 t422 t425 t426 t429 t430 t431 bt435.1 bt435.2.1 bt435.2.2 bt440.1 bt440.2 bt444.1 (t448 != (bt446.2 == 0)))) else (laws_FnBeats.j0 k l0 t416 t417 t418 t421 t422 t425 t426 t429 t430 t431 bt435.1 bt435.2.1 bt435.2.2 bt440.1 bt440.2 bt444.1 true)) else (laws_FnBeats.j0 k l0 t416 t417 t418 t421 t422 t425 t426 t429 t430 t431 bt435.1 bt435.2.1 bt435.2.2 bt440.1 bt440.2 bt444.1 true)) else (laws_FnBeats.j0 k l0 t416 t417 t418 t421 t422 t425 t426 t429 t430 t431 bt435.1 bt435.2.1 bt435.2.2 bt440.1 bt440.2 bt444.1 true)) else (laws_FnBeats.j0 k l0 t416 t417 t418 t421 t422 t425 t426 t429 t430 t431 bt435.1 bt435.2.1 bt435.2.2 bt440.1 bt440.2 bt444.1 true)) else (laws_FnBeats.j0 k l0 t416 t417 t418 t421 t422 t425 t426 t429 t430 t431 bt435.1 bt435.2.1 bt435.2.2 bt440.1 bt440.2 bt444.1 true)) else (laws_FnBeats.j0 k l0 t416 t417 t418 t421 t422 t425 t426 t429 t430 t431 bt435.1 bt435.2.1 bt435.2.2 bt440.1 bt440.2 bt444.1 true)) else (laws_FnBeats.j0 k l0 t416 t417 t418 t421 t422 t425 t426 t429 t430 t431 bt435.1 bt435.2.1 bt435.2.2 bt440.1 bt440.2 bt444.1 true)) else (laws_FnBeats.j0 k l0 t416 t417 t418 t421 t422 t425 t426 t429 t430 t431 bt435.1 bt435.2.1 bt435.2.2 bt440.1 bt440.2 bt444.1 true)) else (laws_FnBeats.j0 k l0 t416 t417 t418 t421 t422 t425 t426 t429 t430 t431 bt435.1 bt435.2.1 bt435.2.2 bt440.1 bt440.2 bt444.1 true)))))))) = some r := H
  have A8 := Aside0.mk A80
  clear A80
  replace H := Option.bind_eq_some_iff.mp H
  obtain ⟨⟨t432, t433, t434⟩, A90, H⟩ := H
  replace H : ((spec_DrawBeatsBetween.f k l0).bind fun bt435 => ((impl_BeatsBetween.f k bt435.1 bt435.2.1 bt435.2.2).bind fun bt440 => ((spec_BeatsBetween.f k bt435.1 bt435.2.1 bt435.2.2).bind fun bt442 => ((impl_ScoreEnd.f k t416).bind fun bt444 => ((spec_ScoreEnd.f k t416).bind fun bt446 => (if t422 = t424 then (if t421 = t423 then (if t431 = t434 then (if t429 = t432 then (if t430 = t433 then (if bt440.2 = bt442.2 then (if bt440.1 = bt442.1 then (if bt444.2 = bt446.2 then (if bt444.1 = bt446.1 then ((impl_IsScore.f k t416).bind fun t448 => (laws_FnBeats.j0 k l0 t416 t417 t418 t421 t422 t425 t426 t429 t430 t431 bt435.1 bt435.2.1 bt435.2.2 bt440.1 bt440.2 bt444.1 (t448 != (bt446.2 == 0)))) else (laws_FnBeats.j0 k l0 t416 t417 t418 t421 t422 t425 t426 t429 t430 t431 bt435.1 bt435.2.1 bt435.2.2 bt440.1 bt440.2 bt444.1 true)) else (laws_FnBeats.j0 k l0 t416 t417 t418 t421 t422 t425 t426 t429 t430 t431 bt435.1 bt435.2.1 bt435.2.2 bt440.1 bt440.2 bt444.1 true)) else (laws_FnBeats.j0 k l0 t416 t417 t418 t421 t422 t425 t426 t429 t430 t431 bt435.1 bt435.2.1 bt435.2.2 bt440.1 bt440.2 bt444.1 true)) else (laws_FnBeats.j0 k l0 t416 t417 t418 t421 t422 t425 t426 t429 t430 t431 bt435.1 bt435.2.1 bt435.2.2 bt440.1 bt440.2 bt444.1 true)) else (laws_FnBeats.j0 k l0 t416 t417 t418 t421 t422 t425 t426 t429 t430 t431 bt435.1 bt435.2.1 bt435.2.2 bt440.1 bt440.2 bt444.1 true)) else (laws_FnBeats.j0 k l0 t416 t417 t418 t421 t422 t425 t426 t429 t430 t431 bt435.1 bt435.2.1 bt435.2.2 bt440.1 bt440.2 bt444.1 true)) else (laws_FnBeats.j0 k l0 t416 t417 t418 t421 t422 t425 t426 t429 t430 t431 bt435.1 bt435.2.1 bt435.2.2 bt440.1 bt440.2 bt444.1 true)) else (laws_FnBeats.j0 k l0 t416 t417 t418 t421 t422 t425 t426 t429 t430 t431 bt435.1 bt435.2.1 bt435.2.2 bt440.1 bt440.2 bt444.1 true)) else (laws_FnBeats.j0 k l0 t416 t417 t418 t421 t422 t425 t426 t429 t430 t431 bt435.1 bt435.2.1 bt435.2.2 bt440.1 bt440.2 bt444.1 true))))))) = some r := H
  have A9 := Aside0.mk A90
  clear A90
  replace H := Option.bind_eq_some_iff.mp H
  obtain ⟨⟨t435, t436, t437⟩, A100, H⟩ := H
  replace H : ((impl_BeatsBetween.f k t435 t436 t437).bind fun bt440 => ((spec_BeatsBetween.f k t435 t436 t437).bind fun bt442 => ((impl_ScoreEnd.f k t416).bind fun bt444 => ((spec_ScoreEnd.f k t416).bind fun bt446 => (if t422 = t424 then (if t421 = t423 then (if t431 = t434 then (if t429 = t432 then (if t430 = t433 then (if bt440.2 = bt442.2 then (if bt440.1 = bt442.1 then (if bt444.2 = bt446.2 then (if bt444.1 = bt446.1 then ((impl_IsScore.f k t416).bind fun t448 => (laws_FnBeats.j0 k l0 t416 t417 t418 t421 t422 t425 t426 t429 t430 t431 t435 t436 t437 bt440.1 bt440.2 bt444.1 (t448 != (bt446.2 == 0)))) else (laws_FnBeats.j0 k l0 t416 t417 t418 t421 t422 t425 t426 t429 t430 t431 t435 t436 t437 bt440.1 bt440.2 bt444.1 true)) else (laws_FnBeats.j0 k l0 t416 t417 t418 t421 t422 t425 t426 t429 t430 t431 t435 t436 t437 bt440.1 bt440.2 bt444.1 true)) else (laws_FnBeats.j0 k l0 t416 t417 t418 t421 t422 t425 t426 t429 t430 t431 t435 t436 t437 bt440.1 bt440.2 bt444.1 true)) else (laws_FnBeats.j0 k l0 t416 t417 t418 t421 t422 t425 t426 t429 t430 t431 t435 t436 t437 bt440.1 bt440.2 bt444.1 true)) else (laws_FnBeats.j0 k l0 t416 t417 t418 t421 t422 t425 t426 t429 t430 t431 t435 t436 t437 bt440.1 bt440.2 bt444.1 true)) else (laws_FnBeats.j0 k l0 t416 t417 t418 t421 t422 t425 t426 t429 t430 t431 t435 t436 t437 bt440.1 bt440.2 bt444.1 true)) else (laws_FnBeats.j0 k l0 t416 t417 t418 t421 t422 t425 t426 t429 t430 t431 t435 t436 t437 bt440.1 bt440.2 bt444.1 true)) else (laws_FnBeats.j0 k l0 t416 t417 t418 t421 t422 t425 t426 t429 t430 t431 t435 t436 t437 bt440.1 bt440.2 bt444.1 true)) else (laws_FnBeats.j0 k l0 t416 t417 t418 t421 t422 t425 t426 t429 t430 t431 t435 t436 t437 bt440.1 bt440.2 bt444.1 true)))))) = some r := H
  have A10 := Aside0.mk A100
  clear A100
  replace H := Option.bind_eq_some_iff.mp H
  obtain ⟨⟨t440, t441⟩, A110, H⟩ := H
  replace H : ((spec_BeatsBetween.f k t435 t436 t437).bind fun bt442 => ((impl_ScoreEnd.f k t416).bind fun bt444 => ((spec_ScoreEnd.f k t416).bind fun bt446 => (if t422 = t424 then (if t421 = t423 then (if t431 = t434 then (if t429 = t432 then (if t430 = t433 then (if t441 = bt442.2 then (if t440 = bt442.1 then (if bt444.2 = bt446.2 then (if bt444.1 = bt446.1 then ((impl_IsScore.f k t416).bind fun t448 => (laws_FnBeats.j0 k l0 t416 t417 t418 t421 t422 t425 t426 t429 t430 t431 t435 t436 t437 t440 t441 bt444.1 (t448 != (bt446.2 == 0)))) else (laws_FnBeats.j0 k l0 t416 t417 t418 t421 t422 t425 t426 t429 t430 t431 t435 t436 t437 t440 t441 bt444.1 true)) else (laws_FnBeats.j0 k l0 t416 t417 t418 t421 t422 t425 t426 t429 t430 t431 t435 t436 t437 t440 t441 bt444.1 true)) else (laws_FnBeats.j0 k l0 t416 t417 t418 t421 t422 t425 t426 t429 t430 t431 t435 t436 t437 t440 t441 bt444.1 true)) else (laws_FnBeats.j0 k l0 t416 t417 t418 t421 t422 t425 t426 t429 t430 t431 t435 t436 t437 t440 t441 bt444.1 true)) else (laws_FnBeats.j0 k l0 t416 t417 t418 t421 t422 t425 t426 t429 t430 t431 t435 t436 t437 t440 t441 bt444.1 true)) else (laws_FnBeats.j0 k l0 t416 t417 t418 t421 t422 t425 t426 t429 t430 t431 t435 t436 t437 t440 t441 bt444.1 true)) else (laws_FnBeats.j0 k l0 t416 t417 t418 t421 t422 t425 t426 t429 t430 t431 t435 t436 t437 t440 t441 bt444.1 true)) else (laws_FnBeats.j0 k l0 t416 t417 t418 t421 t422 t425 t426 t429 t430 t431 t435 t436 t437 t440 t441 bt444.1 true)) else (laws_FnBeats.j0 k l0 t416 t417 t418 t421 t422 t425 t426 t429 t430 t431 t435 t436 t437 t440 t441 bt444.1 true))))) = some r := H
  have A11 := Aside0.mk A110
  clear A110
  replace H := Option.bind_eq_some_iff.mp H
  obtain ⟨⟨t442, t443⟩, A120, H⟩ := H
  replace H : ((impl_ScoreEnd.f k t416).bind fun bt444 => ((spec_ScoreEnd.f k t416).bind fun bt446 => (if t422 = t424 then (if t421 = t423 then (if t431 = t434 then (if t429 = t432 then (if t430 = t433 then (if t441 = t443 then (if t440 = t442 then (if bt444.2 = bt446.2 then (if bt444.1 = bt446.1 then ((impl_IsScore.f k t416).bind fun t448 => (laws_FnBeats.j0 k l0 t416 t417 t418 t421 t422 t425 t426 t429 t430 t431 t435 t436 t437 t440 t441 bt444.1 (t448 != (bt446.2 == 0)))) else (laws_FnBeats.j0 k l0 t416 t417 t418 t421 t422 t425 t426 t429 t430 t431 t435 t436 t437 t440 t441 bt444.1 true)) else (laws_FnBeats.j0 k l0 t416 t417 t418 t421 t422 t425 t426 t429 t430 t431 t435 t436 t437 t440 t441 bt444.1 true)) else (laws_FnBeats.j0 k l0 t416 t417 t418 t421 t422 t425 t426 t429 t430 t431 t435 t436 t437 t440 t441 bt444.1 true)) else (laws_FnBeats.j0 k l0 t416 t417 t418 t421 t422 t425 t426 t429 t430 t431 t435 t436 t437 t440 t441 bt444.1 true)) else (laws_FnBeats.j0 k l0 t416 t417 t418 t421 t422 t425 t426 t429 t430 t431 t435 t436 t437 t440 t441 bt444.1 true)) else (laws_FnBeats.j0 k l0 t416 t417 t418 t421 t422 t425 t426 t429 t430 t431 t435 t436 t437 t440 t441 bt444.1 true)) else (laws_FnBeats.j0 k l0 t416 t417 t418 t421 t422 t425 t426 t429 t430 t431 t435 t436 t437 t440 t441 bt444.1 true)) else (laws_FnBeats.j0 k l0 t416 t417 t418 t421 t422 t425 t426 t429 t430 t431 t435 t436 t437 t440 t441 bt444.1 true)) else (laws_FnBeats.j0 k l0 t416 t417 t418 t421 t422 t425 t426 t429 t430 t431 t435 t436 t437 t440 t441 bt444.1 true)))) = some r := H
  have A12 := Aside0.mk A120
  clear A120
  replace H := Option.bind_eq_some_iff.mp H
  obtain ⟨⟨t444, t445⟩, A130, H⟩ := H
  replace H : ((spec_ScoreEnd.f k t416).bind fun bt446 => (if t422 = t424 then (if t421 = t423 then (if t431 = t434 then (if t429 = t432 then (if t430 = t433 then (if t441 = t443 then (if t440 = t442 then (if t445 = bt446.2 then (if t444 = bt446.1 then ((impl_IsScore.f k t416).bind fun t448 => (laws_FnBeats.j0 k l0 t416 t417 t418 t421 t422 t425 t426 t429 t430 t431 t435 t436 t437 t440 t441 t444 (t448 != (bt446.2 == 0)))) else (laws_FnBeats.j0 k l0 t416 t417 t418 t421 t422 t425 t426 t429 t430 t431 t435 t436 t437 t440 t441 t444 true)) else (laws_FnBeats.j0 k l0 t416 t417 t418 t421 t422 t425 t426 t429 t430 t431 t435 t436 t437 t440 t441 t444 true)) else (laws_FnBeats.j0 k l0 t416 t417 t418 t421 t422 t425 t426 t429 t430 t431 t435 t436 t437 t440 t441 t444 true)) else (laws_FnBeats.j0 k l0 t416 t417 t418 t421 t422 t425 t426 t429 t430 t431 t435 t436 t437 t440 t441 t444 true)) else (laws_FnBeats.j0 k l0 t416 t417 t418 t421 t422 t425 t426 t429 t430 t431 t435 t436 t437 t440 t441 t444 true)) else (laws_FnBeats.j0 k l0 t416 t417 t418 t421 t422 t425 t426 t429 t430 t431 t435 t436 t437 t440 t441 t444 true)) else (laws_FnBeats.j0 k l0 t416 t417 t418 t421 t422 t425 t426 t429 t430 t431 t435 t436 t437 t440 t441 t444 true)) else (laws_FnBeats.j0 k l0 t416 t417 t418 t421 t422 t425 t426 t429 t430 t431 t435 t436 t437 t440 t441 t444 true)) else (laws_FnBeats.j0 k l0 t416 t417 t418 t421 t422 t425 t426 t429 t430 t431 t435 t436 t437 t440 t441 t444 true))) = some r := H
  have A13 := Aside0.mk A130
  clear A130
  replace H := Option.bind_eq_some_iff.mp H
  obtain ⟨⟨t446, t447⟩, A140, H⟩ := H
  replace H : (if t422 = t424 then (if t421 = t423 then (if t431 = t434 then (if t429 = t432 then (if t430 = t433 then (if t441 = t443 then (if t440 = t442 then (if t445 = t447 then (if t444 = t446 then ((impl_IsScore.f k t416).bind fun t448 => (laws_FnBeats.j0 k l0 t416 t417 t418 t421 t422 t425 t426 t429 t430 t431 t435 t436 t437 t440 t441 t444 (t448 != (t447 == 0)))) else (laws_FnBeats.j0 k l0 t416 t417 t418 t421 t422 t425 t426 t429 t430 t431 t435 t436 t437 t440 t441 t444 true)) else (laws_FnBeats.j0 k l0 t416 t417 t418 t421 t422 t425 t426 t429 t430 t431 t435 t436 t437 t440 t441 t444 true)) else (laws_FnBeats.j0 k l0 t416 t417 t418 t421 t422 t425 t426 t429 t430 t431 t435 t436 t437 t440 t441 t444 true)) else (laws_FnBeats.j0 k l0 t416 t417 t418 t421 t422 t425 t426 t429 t430 t431 t435 t436 t437 t440 t441 t444 true)) else (laws_FnBeats.j0 k l0 t416 t417 t418 t421 t422 t425 t426 t429 t430 t431 t435 t436 t437 t440 t441 t444 true)) else (laws_FnBeats.j0 k l0 t416 t417 t418 t421 t422 t425 t426 t429 t430 t431 t435 t436 t437 t440 t441 t444 true)) else (laws_FnBeats.j0 k l0 t416 t417 t418 t421 t422 t425 t426 t429 t430 t431 t435 t436 t437 t440 t441 t444 true)) else (laws_FnBeats.j0 k l0 t416 t417 t418 t421 t422 t425 t426 t429 t430 t431 t435 t436 t437 t440 t441 t444 true)) else (laws_FnBeats.j0 k l0 t416 t417 t418 t421 t422 t425 t426 t429 t430 t431 t435 t436 t437 t440 t441 t444 true)) = some r := H
  have A14 := Aside0.mk A140
  clear A140
  have HC15 := Aside0.mk H
  clear H
  go_enter Try.func4, Try.ntmps4
  go_upto_region 14 with (first | ((with_reducible refine gate_callee (f := 6) rfl ?_); refine goesL_ (some 40) rfl rfl Try.func6 (by kernel_rfl) rfl #[.slice A0 l0.length c0] rfl (by (try simp only [List.map_toArray, List.map_cons, List.map_nil]); first | done | rfl | (simp only [List.length_drop, List.length_take]; rfl)) ?_; (with_reducible refine (laws_big.calls _ _ l0 false _ ?side1 ?side2 A2.out).mono ?_); (case side1 => repeat (first | exact HR0.out | (with_reducible refine Kd.C_alloc ?_ _) | (with_reducible refine Kd.C_drewN ?_ _) | (with_reducible refine Kd.C_drew ?_))); (case side2 => exact HC0.out); rintro e w' ⟨rfl, ⟨nd, rfl⟩⟩; refine ⟨_, rfl, ?_⟩) | ((with_reducible refine gate_callee (f := 15) rfl ?_); refine goesL_ (some 43) rfl rfl Try.func15 (by kernel_rfl) rfl #[.slice A0 l0.length c0] rfl (by (try simp only [List.map_toArray, List.map_cons, List.map_nil]); first | done | rfl | (simp only [List.length_drop, List.length_take]; rfl)) ?_; (with_reducible refine (spec_DrawBeatTime.calls k _ _ l0 t416 t417 t418 _ ?side1 ?side2 A4.out).mono ?_); (case side1 => repeat (first | exact HR0.out | (with_reducible refine Kd.C_alloc ?_ _) | (with_reducible refine Kd.C_drewN ?_ _) | (with_reducible refine Kd.C_drew ?_))); (case side2 => exact HC0.out); rintro e w16 ⟨v419, rfl, ho0, hb⟩; refine ⟨_, rfl, ?_⟩; have n0_ := Aside0.mk (Kd.R_lower ho0 (below_size (by repeat (first | (with_reducible first | exact HB.out | apply below_alloc | apply pw_below_drewN | apply below_drew1) | exact HB.out)))); have n1_ := Aside0.mk (below_step (by repeat (first | (with_reducible first | exact HB.out | apply below_alloc | apply pw_below_drewN | apply below_drew1) | exact HB.out)) hb); clear HB; have HO420 := n0_; have HB := n1_; clear n0_ n1_; (try clear hb); (try clear hb2); (try clear hk); (try clear hi); (try clear ho0); obtain ⟨Ao17, co17, eo17⟩ := Kd.R_slice HO420.out; subst eo17) | ((with_reducible refine gate_callee (f := 16) rfl ?_); refine goesL_ (some 51) rfl rfl Try.func16 (by kernel_rfl) rfl #[.slice Ao17 t416.length co17, .int .i64 t417, .int .i64 t418] rfl (by (try simp only [List.map_toArray, List.map_cons, List.map_nil]); first | done | rfl | (simp only [List.length_drop, List.length_take]; rfl)) ?_; (with_reducible refine (impl_BeatTime.calls k _ _ t416 t417 t418 t421 t422 _ ?side1 ?side2 A5.out).mono ?_); (case side1 => repeat (first | exact (Kd.R_reads' HO420.out).2.2 | (with_reducible refine Kd.C_alloc ?_ _) | (with_reducible refine Kd.C_drewN ?_ _) | (with_reducible refine Kd.C_drew ?_))); (case side2 => exact (Kd.R_reads' HO420.out).2.1); rintro e w18 ⟨rfl, hb⟩; refine ⟨_, rfl, ?_⟩; have n0_ := Aside0.mk (Kd.R_below (by (with_reducible repeat (first | apply Kd.R_alloc | apply Kd.R_drewN | apply Kd.R_drew)); exact HO420.out) hb); have n1_ := Aside0.mk (below_step (by repeat (first | (with_reducible first | exact HB.out | apply below_alloc | apply pw_below_drewN | apply below_drew1) | exact HB.out)) hb); clear HO420; clear HB; have HO420 := n0_; have HB := n1_; clear n0_ n1_; (try clear hb); (try clear hb2); (try clear hk); (try clear hi)) | ((with_reducible refine gate_callee (f := 17) rfl ?_); refine goesL_ (some 58) rfl rfl Try.func17 (by kernel_rfl) rfl #[.slice Ao17 t416.length co17, .int .i64 t417, .int .i64 t418] rfl (by (try simp only [List.map_toArray, List.map_cons, List.map_nil]); first | done | rfl | (simp only [List.length_drop, List.length_take]; rfl)) ?_; (with_reducible refine (spec_BeatTime.calls k _ _ t416 t417 t418 t423 t424 _ ?side1 ?side2 A6.out).mono ?_); (case side1 => repeat (first | exact (Kd.R_reads' HO420.out).2.2 | (with_reducible refine Kd.C_alloc ?_ _) | (with_reducible refine Kd.C_drewN ?_ _) | (with_reducible refine Kd.C_drew ?_))); (case side2 => exact (Kd.R_reads' HO420.out).2.1); rintro e w' ⟨rfl, ⟨nd, rfl⟩⟩; refine ⟨_, rfl, ?_⟩) | ((with_reducible refine gate_callee (f := 18) rfl ?_); refine goesL_ (some 63) rfl rfl Try.func18 (by kernel_rfl) rfl #[.slice A0 l0.length c0] rfl (by (try simp only [List.map_toArray, List.map_cons, List.map_nil]); first | done | rfl | (simp only [List.length_drop, List.length_take]; rfl)) ?_; (with_reducible refine (spec_DrawBeatAt.calls k _ _ l0 t425 t426 _ ?side1 ?side2 A7.out).mono ?_); (case side1 => repeat (first | exact (Kd.C_below HR0.out (by repeat (first | (with_reducible first | exact HB.out | apply below_alloc | apply pw_below_drewN | apply below_drew1) | exact HB.out))) | (with_reducible refine Kd.C_alloc ?_ _) | (with_reducible refine Kd.C_drewN ?_ _) | (with_reducible refine Kd.C_drew ?_))); (case side2 => exact HC0.out); rintro e w19 ⟨v427, rfl, ho0, hb⟩; refine ⟨_, rfl, ?_⟩; have n0_ := Aside0.mk (Kd.R_elder' (by (with_reducible repeat (first | apply Kd.R_alloc | apply Kd.R_drewN | apply Kd.R_drew)); exact HO420.out) (Kd.R_base ho0) hb); have n1_ := Aside0.mk (Kd.R_lower (Kd.R_new' ho0 (Kd.R_lt (by (with_reducible repeat (first | apply Kd.R_alloc | apply Kd.R_drewN | apply Kd.R_drew)); exact HO420.out))) (below_size (by repeat (first | (with_reducible first | exact HB.out | apply below_alloc | apply pw_below_drewN | apply below_drew1) | exact HB.out)))); have n2_ := Aside0.mk (below_step (by repeat (first | (with_reducible first | exact HB.out | apply below_alloc | apply pw_below_drewN | apply below_drew1) | exact HB.out)) hb); clear HO420; clear HB; have HO420 := n0_; have HO428 := n1_; have HB := n2_; clear n0_ n1_ n2_; (try clear hb); (try clear hb2); (try clear hk); (try clear hi); (try clear ho0); obtain ⟨Ao20, co20, eo20⟩ := Kd.R_slice HO428.out; subst eo20) | ((with_reducible refine gate_callee (f := 19) rfl ?_); refine goesL_ (some 69) rfl rfl Try.func19 (by kernel_rfl) rfl #[.slice Ao20 t425.length co20, .int .i64 t426] rfl (by (try simp only [List.map_toArray, List.map_cons, List.map_nil]); first | done | rfl | (simp only [List.length_drop, List.length_take]; rfl)) ?_; (with_reducible refine (impl_BeatAt.calls k _ _ t425 t426 t429 t430 t431 _ ?side1 ?side2 A8.out).mono ?_); (case side1 => repeat (first | exact (Kd.R_reads' HO428.out).2.2 | (with_reducible refine Kd.C_alloc ?_ _) | (with_reducible refine Kd.C_drewN ?_ _) | (with_reducible refine Kd.C_drew ?_))); (case side2 => exact (Kd.R_reads' HO428.out).2.1); rintro e w21 ⟨rfl, hb⟩; refine ⟨_, rfl, ?_⟩; have n0_ := Aside0.mk (Kd.R_below (by (with_reducible repeat (first | apply Kd.R_alloc | apply Kd.R_drewN | apply Kd.R_drew)); exact HO420.out) hb); have n1_ := Aside0.mk (Kd.R_below (by (with_reducible repeat (first | apply Kd.R_alloc | apply Kd.R_drewN | apply Kd.R_drew)); exact HO428.out) hb); have n2_ := Aside0.mk (below_step (by repeat (first | (with_reducible first | exact HB.out | apply below_alloc | apply pw_below_drewN | apply below_drew1) | exact HB.out)) hb); clear HO420; clear HO428; clear HB; have HO420 := n0_; have HO428 := n1_; have HB := n2_; clear n0_ n1_ n2_; (try clear hb); (try clear hb2); (try clear hk); (try clear hi)) | ((with_reducible refine gate_callee (f := 20) rfl ?_); refine goesL_ (some 76) rfl rfl Try.func20 (by kernel_rfl) rfl #[.slice Ao20 t425.length co20, .int .i64 t426] rfl (by (try simp only [List.map_toArray, List.map_cons, List.map_nil]); first | done | rfl | (simp only [List.length_drop, List.length_take]; rfl)) ?_; (with_reducible refine (spec_BeatAt.calls k _ _ t425 t426 t432 t433 t434 _ ?side1 ?side2 A9.out).mono ?_); (case side1 => repeat (first | exact (Kd.R_reads' HO428.out).2.2 | (with_reducible refine Kd.C_alloc ?_ _) | (with_reducible refine Kd.C_drewN ?_ _) | (with_reducible refine Kd.C_drew ?_))); (case side2 => exact (Kd.R_reads' HO428.out).2.1); rintro e w' ⟨rfl, ⟨nd, rfl⟩⟩; refine ⟨_, rfl, ?_⟩) | ((with_reducible refine gate_callee (f := 21) rfl ?_); refine goesL_ (some 82) rfl rfl Try.func21 (by kernel_rfl) rfl #[.slice A0 l0.length c0] rfl (by (try simp only [List.map_toArray, List.map_cons, List.map_nil]); first | done | rfl | (simp only [List.length_drop, List.length_take]; rfl)) ?_; (with_reducible refine (spec_DrawBeatsBetween.calls k _ _ l0 t435 t436 t437 _ ?side1 ?side2 A10.out).mono ?_); (case side1 => repeat (first | exact (Kd.C_below HR0.out (by repeat (first | (with_reducible first | exact HB.out | apply below_alloc | apply pw_below_drewN | apply below_drew1) | exact HB.out))) | (with_reducible refine Kd.C_alloc ?_ _) | (with_reducible refine Kd.C_drewN ?_ _) | (with_reducible refine Kd.C_drew ?_))); (case side2 => exact HC0.out); rintro e w22 ⟨v438, rfl, ho0, hb⟩; refine ⟨_, rfl, ?_⟩; have n0_ := Aside0.mk (Kd.R_elder' (by (with_reducible repeat (first | apply Kd.R_alloc | apply Kd.R_drewN | apply Kd.R_drew)); exact HO420.out) (Kd.R_base ho0) hb); have n1_ := Aside0.mk (Kd.R_elder' (by (with_reducible repeat (first | apply Kd.R_alloc | apply Kd.R_drewN | apply Kd.R_drew)); exact HO428.out) (Kd.R_base ho0) hb); have n2_ := Aside0.mk (Kd.R_lower (Kd.R_new' (Kd.R_new' ho0 (Kd.R_lt (by (with_reducible repeat (first | apply Kd.R_alloc | apply Kd.R_drewN | apply Kd.R_drew)); exact HO420.out))) (Kd.R_lt (by (with_reducible repeat (first | apply Kd.R_alloc | apply Kd.R_drewN | apply Kd.R_drew)); exact HO428.out))) (below_size (by repeat (first | (with_reducible first | exact HB.out | apply below_alloc | apply pw_below_drewN | apply below_drew1) | exact HB.out)))); have n3_ := Aside0.mk (below_step (by repeat (first | (with_reducible first | exact HB.out | apply below_alloc | apply pw_below_drewN | apply below_drew1) | exact HB.out)) hb); clear HO420; clear HO428; clear HB; have HO420 := n0_; have HO428 := n1_; have HO439 := n2_; have HB := n3_; clear n0_ n1_ n2_ n3_; (try clear hb); (try clear hb2); (try clear hk); (try clear hi); (try clear ho0); obtain ⟨Ao23, co23, eo23⟩ := Kd.R_slice HO439.out; subst eo23) | ((with_reducible refine gate_callee (f := 22) rfl ?_); refine goesL_ (some 90) rfl rfl Try.func22 (by kernel_rfl) rfl #[.slice Ao23 t435.length co23, .int .i64 t436, .int .i64 t437] rfl (by (try simp only [List.map_toArray, List.map_cons, List.map_nil]); first | done | rfl | (simp only [List.length_drop, List.length_take]; rfl)) ?_; (with_reducible refine (impl_BeatsBetween.calls k _ _ t435 t436 t437 t440 t441 _ ?side1 ?side2 A11.out).mono ?_); (case side1 => repeat (first | exact (Kd.R_reads' HO439.out).2.2 | (with_reducible refine Kd.C_alloc ?_ _) | (with_reducible refine Kd.C_drewN ?_ _) | (with_reducible refine Kd.C_drew ?_))); (case side2 => exact (Kd.R_reads' HO439.out).2.1); rintro e w24 ⟨rfl, hb⟩; refine ⟨_, rfl, ?_⟩; have n0_ := Aside0.mk (Kd.R_below (by (with_reducible repeat (first | apply Kd.R_alloc | apply Kd.R_drewN | apply Kd.R_drew)); exact HO420.out) hb); have n1_ := Aside0.mk (Kd.R_below (by (with_reducible repeat (first | apply Kd.R_alloc | apply Kd.R_drewN | apply Kd.R_drew)); exact HO428.out) hb); have n2_ := Aside0.mk (Kd.R_below (by (with_reducible repeat (first | apply Kd.R_alloc | apply Kd.R_drewN | apply Kd.R_drew)); exact HO439.out) hb); have n3_ := Aside0.mk (below_step (by repeat (first | (with_reducible first | exact HB.out | apply below_alloc | apply pw_below_drewN | apply below_drew1) | exact HB.out)) hb); clear HO420; clear HO428; clear HO439; clear HB; have HO420 := n0_; have HO428 := n1_; have HO439 := n2_; have HB := n3_; clear n0_ n1_ n2_ n3_; (try clear hb); (try clear hb2); (try clear hk); (try clear hi)) | ((with_reducible refine gate_callee (f := 23) rfl ?_); refine goesL_ (some 97) rfl rfl Try.func23 (by kernel_rfl) rfl #[.slice Ao23 t435.length co23, .int .i64 t436, .int .i64 t437] rfl (by (try simp only [List.map_toArray, List.map_cons, List.map_nil]); first | done | rfl | (simp only [List.length_drop, List.length_take]; rfl)) ?_; (with_reducible refine (spec_BeatsBetween.calls k _ _ t435 t436 t437 t442 t443 _ ?side1 ?side2 A12.out).mono ?_); (case side1 => repeat (first | exact (Kd.R_reads' HO439.out).2.2 | (with_reducible refine Kd.C_alloc ?_ _) | (with_reducible refine Kd.C_drewN ?_ _) | (with_reducible refine Kd.C_drew ?_))); (case side2 => exact (Kd.R_reads' HO439.out).2.1); rintro e w' ⟨rfl, ⟨nd, rfl⟩⟩; refine ⟨_, rfl, ?_⟩) | ((with_reducible refine gate_callee (f := 14) rfl ?_); refine goesL_ (some 102) rfl rfl Try.func14 (by kernel_rfl) rfl #[.slice Ao17 t416.length co17] rfl (by (try simp only [List.map_toArray, List.map_cons, List.map_nil]); first | done | rfl | (simp only [List.length_drop, List.length_take]; rfl)) ?_; (with_reducible refine (impl_ScoreEnd.calls k _ _ t416 t444 t445 _ ?side1 ?side2 A13.out).mono ?_); (case side1 => repeat (first | exact (Kd.R_reads' HO420.out).2.2 | (with_reducible refine Kd.C_alloc ?_ _) | (with_reducible refine Kd.C_drewN ?_ _) | (with_reducible refine Kd.C_drew ?_))); (case side2 => exact (Kd.R_reads' HO420.out).2.1); rintro e w25 ⟨rfl, hb⟩; refine ⟨_, rfl, ?_⟩; have n0_ := Aside0.mk (Kd.R_below (by (with_reducible repeat (first | apply Kd.R_alloc | apply Kd.R_drewN | apply Kd.R_drew)); exact HO420.out) hb); have n1_ := Aside0.mk (Kd.R_below (by (with_reducible repeat (first | apply Kd.R_alloc | apply Kd.R_drewN | apply Kd.R_drew)); exact HO428.out) hb); have n2_ := Aside0.mk (Kd.R_below (by (with_reducible repeat (first | apply Kd.R_alloc | apply Kd.R_drewN | apply Kd.R_drew)); exact HO439.out) hb); have n3_ := Aside0.mk (below_step (by repeat (first | (with_reducible first | exact HB.out | apply below_alloc | apply pw_below_drewN | apply below_drew1) | exact HB.out)) hb); clear HO420; clear HO428; clear HO439; clear HB; have HO420 := n0_; have HO428 := n1_; have HO439 := n2_; have HB := n3_; clear n0_ n1_ n2_ n3_; (try clear hb); (try clear hb2); (try clear hk); (try clear hi)) | ((with_reducible refine gate_callee (f := 24) rfl ?_); refine goesL_ (some 107) rfl rfl Try.func24 (by kernel_rfl) rfl #[.slice Ao17 t416.length co17] rfl (by (try simp only [List.map_toArray, List.map_cons, List.map_nil]); first | done | rfl | (simp only [List.length_drop, List.length_take]; rfl)) ?_; (with_reducible refine (spec_ScoreEnd.calls k _ _ t416 t446 t447 _ ?side1 ?side2 A14.out).mono ?_); (case side1 => repeat (first | exact (Kd.R_reads' HO420.out).2.2 | (with_reducible refine Kd.C_alloc ?_ _) | (with_reducible refine Kd.C_drewN ?_ _) | (with_reducible refine Kd.C_drew ?_))); (case side2 => exact (Kd.R_reads' HO420.out).2.1); rintro e w' ⟨rfl, ⟨nd, rfl⟩⟩; refine ⟨_, rfl, ?_⟩))
  (try simp only [Act.put, List.setIfInBounds_toArray, List.set_cons_zero, List.set_cons_succ])
  go_cut [159] (fun v159 wc => ∃ (kq : Nat) (x159_14 : Bool), v159 = .bool x159_14 ∧ Aside0 (laws_FnBeats.j0 kq l0 t416 t417 t418 t421 t422 t425 t426 t429 t430 t431 t435 t436 t437 t440 t441 t444 x159_14 = some r) ∧ Aside0 (kq ≤ k) ∧ Aside0 (Kd.R k56 56 wc w.heap.size (fun k_ => some k_ ≠ ((.slice Ao20 t425.length co20) : Value).ownBlock ∧ some k_ ≠ ((.slice Ao23 t435.length co23) : Value).ownBlock) (.slice Ao17 t416.length co17) t416) ∧ Aside0 (Kd.R k56 56 wc w.heap.size (fun k_ => some k_ ≠ ((.slice Ao17 t416.length co17) : Value).ownBlock ∧ some k_ ≠ ((.slice Ao23 t435.length co23) : Value).ownBlock) (.slice Ao20 t425.length co20) t425) ∧ Aside0 (Kd.R k56 56 wc w.heap.size (fun k_ => some k_ ≠ ((.slice Ao17 t416.length co17) : Value).ownBlock ∧ some k_ ≠ ((.slice Ao20 t425.length co20) : Value).ownBlock) (.slice Ao23 t435.length co23) t435) ∧ Aside0 (Below w.heap.size w wc))
  case first =>
   have H := HC15.out
   clear HC15
   by_cases c26 : t422 = t424
   ·rw [if_pos c26] at H
    have c26b0 : (t422 == t424) = true := beq_iff_eq.mpr c26
    have c26b1 : (t422 != t424) = false := bne_eq_false_iff_eq.mpr c26
    clear c26
    (first | rw [c26b0] | (simp only [i64_w, i32_w]; rw [c26b0]) | skip)
    by_cases c27 : t421 = t423
    ·rw [if_pos c27] at H
     have c27b0 : (t421 == t423) = true := beq_iff_eq.mpr c27
     have c27b1 : (t421 != t423) = false := bne_eq_false_iff_eq.mpr c27
     clear c27
     by_cases c28 : t431 = t434
     ·rw [if_pos c28] at H
      have c28b0 : (t431 == t434) = true := beq_iff_eq.mpr c28
      have c28b1 : (t431 != t434) = false := bne_eq_false_iff_eq.mpr c28
      clear c28
      by_cases c29 : t429 = t432
      ·rw [if_pos c29] at H
       have c29b0 : (t429 == t432) = true := beq_iff_eq.mpr c29
       have c29b1 : (t429 != t432) = false := bne_eq_false_iff_eq.mpr c29
       clear c29
       by_cases c30 : t430 = t433
       ·rw [if_pos c30] at H
        have c30b0 : (t430 == t433) = true := beq_iff_eq.mpr c30
        have c30b1 : (t430 != t433) = false := bne_eq_false_iff_eq.mpr c30
        clear c30
        by_cases c31 : t441 = t443
        ·rw [if_pos c31] at H
         have c31b0 : (t441 == t443) = true := beq_iff_eq.mpr c31
         have c31b1 : (t441 != t443) = false := bne_eq_false_iff_eq.mpr c31
         clear c31
         by_cases c32 : t440 = t442
         ·rw [if_pos c32] at H
          have c32b0 : (t440 == t442) = true := beq_iff_eq.mpr c32
          have c32b1 : (t440 != t442) = false := bne_eq_false_iff_eq.mpr c32
          clear c32
          by_cases c33 : t445 = t447
          ·rw [if_pos c33] at H
           have c33b0 : (t445 == t447) = true := beq_iff_eq.mpr c33
           have c33b1 : (t445 != t447) = false := bne_eq_false_iff_eq.mpr c33
           clear c33
           by_cases c34 : t444 = t446
           ·rw [if_pos c34] at H
            have c34b0 : (t444 == t446) = true := beq_iff_eq.mpr c34
            have c34b1 : (t444 != t446) = false := bne_eq_false_iff_eq.mpr c34
            clear c34
            replace H := Option.bind_eq_some_iff.mp H
            obtain ⟨t448, A350, H⟩ := H
            replace H : (laws_FnBeats.j0 k l0 t416 t417 t418 t421 t422 t425 t426 t429 t430 t431 t435 t436 t437 t440 t441 t444 (t448 != (t447 == 0))) = some r := H
            have A35 := Aside0.mk A350
            clear A350
            have H' := Aside0.mk H
            clear H
            go_wp2_with (first | (go_at_call 25; (with_reducible refine (impl_IsScore.calls k _ _ t416 t448 _ ?side1 ?side2 A35.out).mono ?_); (case side1 => repeat (first | exact (Kd.R_reads' HO420.out).2.2 | (with_reducible refine Kd.C_alloc ?_ _) | (with_reducible refine Kd.C_drewN ?_ _) | (with_reducible refine Kd.C_drew ?_))); (case side2 => exact (Kd.R_reads' HO420.out).2.1); rintro e w36 ⟨rfl, hb⟩; have n0_ := Aside0.mk (Kd.R_below (by (with_reducible repeat (first | apply Kd.R_alloc | apply Kd.R_drewN | apply Kd.R_drew)); exact HO420.out) hb); have n1_ := Aside0.mk (Kd.R_below (by (with_reducible repeat (first | apply Kd.R_alloc | apply Kd.R_drewN | apply Kd.R_drew)); exact HO428.out) hb); have n2_ := Aside0.mk (Kd.R_below (by (with_reducible repeat (first | apply Kd.R_alloc | apply Kd.R_drewN | apply Kd.R_drew)); exact HO439.out) hb); have n3_ := Aside0.mk (below_step (by repeat (first | (with_reducible first | exact HB.out | apply below_alloc | apply pw_below_drewN | apply below_drew1) | exact HB.out)) hb); clear HO420; clear HO428; clear HO439; clear HB; have HO420 := n0_; have HO428 := n1_; have HO439 := n2_; have HB := n3_; clear n0_ n1_ n2_ n3_; (try clear hb); (try clear hb2); (try clear hk); (try clear hi)))
            go_meet
            case rel => exact ⟨_, ((t448 != (t447 == 0))), (by first | rfl | (simp; done) | (simp [*]; done)), H', ⟨by first | omega | exact Nat.le_refl _⟩, ⟨by (with_reducible repeat (first | apply Kd.R_alloc | apply Kd.R_drewN | apply Kd.R_drew)); exact Kd.R_mono HO420.out (fun _ hk => ⟨hk.1.2, hk.2⟩)⟩, ⟨by (with_reducible repeat (first | apply Kd.R_alloc | apply Kd.R_drewN | apply Kd.R_drew)); exact Kd.R_mono HO428.out (fun _ hk => ⟨hk.1.2, hk.2⟩)⟩, ⟨by (with_reducible repeat (first | apply Kd.R_alloc | apply Kd.R_drewN | apply Kd.R_drew)); exact Kd.R_mono HO439.out (fun _ hk => ⟨hk.1.2, hk.2⟩)⟩, ⟨by repeat (first | (with_reducible first | exact HB.out | apply below_alloc | apply pw_below_drewN | apply below_drew1) | exact HB.out)⟩⟩
           ·rw [if_neg c34] at H
            have c34b0 : (t444 == t446) = false := beq_eq_false_iff_ne.mpr c34
            have c34b1 : (t444 != t446) = true := bne_iff_ne.mpr c34
            exact absurd (H.trans (congrArg some HR_.out)) (laws_FnBeats.j0_true _ _ _ _ _ _ _ _ _ _ _ _ _ _ _ _ _ _)
          ·rw [if_neg c33] at H
           have c33b0 : (t445 == t447) = false := beq_eq_false_iff_ne.mpr c33
           have c33b1 : (t445 != t447) = true := bne_iff_ne.mpr c33
           exact absurd (H.trans (congrArg some HR_.out)) (laws_FnBeats.j0_true _ _ _ _ _ _ _ _ _ _ _ _ _ _ _ _ _ _)
         ·rw [if_neg c32] at H
          have c32b0 : (t440 == t442) = false := beq_eq_false_iff_ne.mpr c32
          have c32b1 : (t440 != t442) = true := bne_iff_ne.mpr c32
          exact absurd (H.trans (congrArg some HR_.out)) (laws_FnBeats.j0_true _ _ _ _ _ _ _ _ _ _ _ _ _ _ _ _ _ _)
        ·rw [if_neg c31] at H
         have c31b0 : (t441 == t443) = false := beq_eq_false_iff_ne.mpr c31
         have c31b1 : (t441 != t443) = true := bne_iff_ne.mpr c31
         exact absurd (H.trans (congrArg some HR_.out)) (laws_FnBeats.j0_true _ _ _ _ _ _ _ _ _ _ _ _ _ _ _ _ _ _)
       ·rw [if_neg c30] at H
        have c30b0 : (t430 == t433) = false := beq_eq_false_iff_ne.mpr c30
        have c30b1 : (t430 != t433) = true := bne_iff_ne.mpr c30
        exact absurd (H.trans (congrArg some HR_.out)) (laws_FnBeats.j0_true _ _ _ _ _ _ _ _ _ _ _ _ _ _ _ _ _ _)
      ·rw [if_neg c29] at H
       have c29b0 : (t429 == t432) = false := beq_eq_false_iff_ne.mpr c29
       have c29b1 : (t429 != t432) = true := bne_iff_ne.mpr c29
       exact absurd (H.trans (congrArg some HR_.out)) (laws_FnBeats.j0_true _ _ _ _ _ _ _ _ _ _ _ _ _ _ _ _ _ _)
     ·rw [if_neg c28] at H
      have c28b0 : (t431 == t434) = false := beq_eq_false_iff_ne.mpr c28
      have c28b1 : (t431 != t434) = true := bne_iff_ne.mpr c28
      exact absurd (H.trans (congrArg some HR_.out)) (laws_FnBeats.j0_true _ _ _ _ _ _ _ _ _ _ _ _ _ _ _ _ _ _)
    ·rw [if_neg c27] at H
     have c27b0 : (t421 == t423) = false := beq_eq_false_iff_ne.mpr c27
     have c27b1 : (t421 != t423) = true := bne_iff_ne.mpr c27
     exact absurd (H.trans (congrArg some HR_.out)) (laws_FnBeats.j0_true _ _ _ _ _ _ _ _ _ _ _ _ _ _ _ _ _ _)
   ·rw [if_neg c26] at H
    have c26b0 : (t422 == t424) = false := beq_eq_false_iff_ne.mpr c26
    have c26b1 : (t422 != t424) = true := bne_iff_ne.mpr c26
    (first | rw [c26b0] | (simp only [i64_w, i32_w]; rw [c26b0]) | skip)
    exact absurd (H.trans (congrArg some HR_.out)) (laws_FnBeats.j0_true _ _ _ _ _ _ _ _ _ _ _ _ _ _ _ _ _ _)
  case rest =>
   clear HC15
   try clear c1
   try clear c2
   try clear p2
   try clear c3
   try clear c4
   try clear c6
   try clear c14
   try clear c15
   try clear c16
   try clear c17
   try clear c18
   try clear c19
   try clear c20
   try clear c21
   try clear c22
   try clear c23
   try clear c24
   try clear c26
   try clear c26b0
   try clear c26b1
   try clear c27
   try clear c27b0
   try clear c27b1
   try clear c28
   try clear c28b0
   try clear c28b1
   try clear c29
   try clear c29b0
   try clear c29b1
   try clear c30
   try clear c30b0
   try clear c30b1
   try clear c31
   try clear c31b0
   try clear c31b1
   try clear c32
   try clear c32b0
   try clear c32b1
   try clear c33
   try clear c33b0
   try clear c33b1
   try clear c34
   try clear c34b0
   try clear c34b1
   obtain ⟨kq, x159_14, rfl, HA, HJ14, HO_3, HO_10, HO_18, HB⟩ := hcut
   cases kq with
   | zero => exact absurd HA.out (by simp [laws_FnBeats.j0])
   | succ kj14 =>
    have H := HA.out
    clear HA
    simp only [laws_FnBeats.j0] at H
    by_cases c37 : x159_14 = true
    ·subst c37
     have H1 : (some false) = some r := by rw [if_pos rfl] at H; exact H
     clear H
     have H := H1
     clear H1
     exact absurd ((Option.some.inj H).trans HR_.out) (by decide)
    ·replace c37 := Bool.eq_false_iff.mpr c37
     subst c37
     have H1 : (if t431 = 0 then ((impl_BeatTime.f kj14 t425 t429 t430).bind fun bt449 => (if bt449.2 = 0 then (if bt449.1 > t426 then (some false) else (laws_FnBeats.j1 kj14 l0 t416 t417 t418 t421 t422 t435 t436 t437 t440 t441 t444)) else (some false))) else (laws_FnBeats.j1 kj14 l0 t416 t417 t418 t421 t422 t435 t436 t437 t440 t441 t444)) = some r := by rw [if_neg (show ¬ (false = true) by decide)] at H; exact H
     clear H
     have H := H1
     clear H1
     have HC38 := Aside0.mk H
     clear H
     go_upto_if 161 with (fail)
     go_cut [] (fun wc => ∃ (kq : Nat), Aside0 (laws_FnBeats.j1 kq l0 t416 t417 t418 t421 t422 t435 t436 t437 t440 t441 t444 = some r) ∧ Aside0 (kq ≤ kj14) ∧ Aside0 (Kd.R k56 56 wc w.heap.size (fun k_ => some k_ ≠ ((.slice Ao23 t435.length co23) : Value).ownBlock) (.slice Ao17 t416.length co17) t416) ∧ Aside0 (Kd.R k56 56 wc w.heap.size (fun k_ => some k_ ≠ ((.slice Ao17 t416.length co17) : Value).ownBlock) (.slice Ao23 t435.length co23) t435) ∧ Aside0 (Below w.heap.size w wc))
     case first =>
      have H := HC38.out
      clear HC38
      by_cases c39 : t431 = 0
      ·rw [if_pos c39] at H
       have c39b0 : (t431 == 0) = true := beq_iff_eq.mpr c39
       have c39b1 : (t431 != 0) = false := bne_eq_false_iff_eq.mpr c39
       clear c39
       (first | rw [c39b0] | (simp only [i64_w, i32_w]; rw [c39b0]) | skip)
       replace H := Option.bind_eq_some_iff.mp H
       obtain ⟨⟨t449, t450⟩, A400, H⟩ := H
       replace H : (if t450 = 0 then (if t449 > t426 then (some false) else (laws_FnBeats.j1 kj14 l0 t416 t417 t418 t421 t422 t435 t436 t437 t440 t441 t444)) else (some false)) = some r := H
       have A40 := Aside0.mk A400
       clear A400
       by_cases c41 : t450 = 0
       ·rw [if_pos c41] at H
        have c41b0 : (t450 == 0) = true := beq_iff_eq.mpr c41
        have c41b1 : (t450 != 0) = false := bne_eq_false_iff_eq.mpr c41
        clear c41
        by_cases c42 : t449 > t426
        ·rw [if_pos c42] at H
         have c42b0 : decide (t426 < t449) = true := decide_eq_true c42
         clear c42
         exact absurd ((Option.some.inj H).trans HR_.out) (by decide)
        ·rw [if_neg c42] at H
         have c42b0 : decide (t426 < t449) = false := decide_eq_false c42
         clear c42
         have H' := Aside0.mk H
         clear H
         go_wp2_with (first | ((with_reducible refine gate_callee (f := 16) rfl ?_); refine goesL_ (some 166) rfl rfl Try.func16 (by kernel_rfl) rfl #[.slice Ao20 t425.length co20, .int .i64 t429, .int .i64 t430] rfl (by (try simp only [List.map_toArray, List.map_cons, List.map_nil]); first | done | rfl | (simp only [List.length_drop, List.length_take]; rfl)) ?_; (with_reducible refine (impl_BeatTime.calls kj14 _ _ t425 t429 t430 t449 t450 _ ?side1 ?side2 A40.out).mono ?_); (case side1 => repeat (first | exact (Kd.R_reads' HO_10.out).2.2 | (with_reducible refine Kd.C_alloc ?_ _) | (with_reducible refine Kd.C_drewN ?_ _) | (with_reducible refine Kd.C_drew ?_))); (case side2 => exact (Kd.R_reads' HO_10.out).2.1); rintro e w44 ⟨rfl, hb⟩; refine ⟨_, rfl, ?_⟩; have n0_ := Aside0.mk (Kd.R_below (by (with_reducible repeat (first | apply Kd.R_alloc | apply Kd.R_drewN | apply Kd.R_drew)); exact HO_3.out) hb); have n1_ := Aside0.mk (Kd.R_below (by (with_reducible repeat (first | apply Kd.R_alloc | apply Kd.R_drewN | apply Kd.R_drew)); exact HO_10.out) hb); have n2_ := Aside0.mk (Kd.R_below (by (with_reducible repeat (first | apply Kd.R_alloc | apply Kd.R_drewN | apply Kd.R_drew)); exact HO_18.out) hb); have n3_ := Aside0.mk (below_step (by repeat (first | (with_reducible first | exact HB.out | apply below_alloc | apply pw_below_drewN | apply below_drew1) | exact HB.out)) hb); clear HO_3; clear HO_10; clear HO_18; clear HB; have HO_3 := n0_; have HO_10 := n1_; have HO_18 := n2_; have HB := n3_; clear n0_ n1_ n2_ n3_; (try clear hb); (try clear hb2); (try clear hk); (try clear hi)))
         go_meet
         case rel => exact ⟨_, H', ⟨by have := HJ14.out; first | omega | exact Nat.le_refl _⟩, ⟨by (with_reducible repeat (first | apply Kd.R_alloc | apply Kd.R_drewN | apply Kd.R_drew)); exact Kd.R_mono HO_3.out (fun _ hk => hk.2)⟩, ⟨by (with_reducible repeat (first | apply Kd.R_alloc | apply Kd.R_drewN | apply Kd.R_drew)); exact Kd.R_mono HO_18.out (fun _ hk => hk.1)⟩, ⟨by repeat (first | (with_reducible first | exact HB.out | apply below_alloc | apply pw_below_drewN | apply below_drew1) | exact HB.out)⟩⟩
       ·rw [if_neg c41] at H
        have c41b0 : (t450 == 0) = false := beq_eq_false_iff_ne.mpr c41
        have c41b1 : (t450 != 0) = true := bne_iff_ne.mpr c41
        exact absurd ((Option.some.inj H).trans HR_.out) (by decide)
      ·rw [if_neg c39] at H
       have c39b0 : (t431 == 0) = false := beq_eq_false_iff_ne.mpr c39
       have c39b1 : (t431 != 0) = true := bne_iff_ne.mpr c39
       (first | rw [c39b0] | (simp only [i64_w, i32_w]; rw [c39b0]) | skip)
       have H' := Aside0.mk H
       clear H
       go_wp2
       go_meet
       case rel => exact ⟨_, H', ⟨by have := HJ14.out; first | omega | exact Nat.le_refl _⟩, ⟨by (with_reducible repeat (first | apply Kd.R_alloc | apply Kd.R_drewN | apply Kd.R_drew)); exact Kd.R_mono HO_3.out (fun _ hk => hk.2)⟩, ⟨by (with_reducible repeat (first | apply Kd.R_alloc | apply Kd.R_drewN | apply Kd.R_drew)); exact Kd.R_mono HO_18.out (fun _ hk => hk.1)⟩, ⟨by repeat (first | (with_reducible first | exact HB.out | apply below_alloc | apply pw_below_drewN | apply below_drew1) | exact HB.out)⟩⟩
     case rest =>
      clear HC38
      try clear c1
      try clear c2
      try clear p2
      try clear c3
      try clear c4
      try clear c6
      try clear c14
      try clear c15
      try clear c16
      try clear c17
      try clear c18
      try clear c19
      try clear c20
      try clear c21
      try clear c22
      try clear c23
      try clear c24
      try clear c26
      try clear c26b0
      try clear c26b1
      try clear c27
      try clear c27b0
      try clear c27b1
      try clear c28
      try clear c28b0
      try clear c28b1
      try clear c29
      try clear c29b0
      try clear c29b1
      try clear c30
      try clear c30b0
      try clear c30b1
      try clear c31
      try clear c31b0
      try clear c31b1
      try clear c32
      try clear c32b0
      try clear c32b1
      try clear c33
      try clear c33b0
      try clear c33b1
      try clear c34
      try clear c34b0
      try clear c34b1
      try clear c37
      try clear c39
      try clear c39b0
      try clear c39b1
      try clear c41
      try clear c41b0
      try clear c41b1
      try clear c42
      try clear c42b0
      try clear p2
      obtain ⟨kq, HA, HJ37, HO_3, HO_18, HB⟩ := hcut
      cases kq with
      | zero => exact absurd HA.out (by simp [laws_FnBeats.j1])
      | succ kj37 =>
       have H := HA.out
       clear HA
       simp only [laws_FnBeats.j1] at H
       by_cases c46 : t441 = 0
       ·rw [if_pos c46] at H
        have c46b0 : (t441 == 0) = true := beq_iff_eq.mpr c46
        have c46b1 : (t441 != 0) = false := bne_eq_false_iff_eq.mpr c46
        clear c46
        replace H := Option.bind_eq_some_iff.mp H
        obtain ⟨⟨t451, t452, t453⟩, A470, H⟩ := H
        replace H : ((laws_dice_below.f t451 t452 t453 (wrap64 ((wrap64 (t437 - t436)) + 1))).bind fun bt455 => ((impl_BeatsBetween.f kj37 t435 t436 (wrap64 (t436 + bt455.1))).bind fun bt458 => ((impl_BeatsBetween.f kj37 t435 (wrap64 (t436 + bt455.1)) t437).bind fun bt460 => (if bt458.2 = 0 then (if bt460.2 = 0 then (laws_FnBeats.j2 kj37 t416 t417 t418 t421 t422 t444 ((wrap64 (bt458.1 + bt460.1)) != t440)) else (laws_FnBeats.j2 kj37 t416 t417 t418 t421 t422 t444 true)) else (laws_FnBeats.j2 kj37 t416 t417 t418 t421 t422 t444 true))))) = some r := H
        have A47 := Aside0.mk A470
        clear A470
        replace H := Option.bind_eq_some_iff.mp H
        obtain ⟨⟨t455, t456, t457⟩, A480, H⟩ := H
        replace H : ((impl_BeatsBetween.f kj37 t435 t436 (wrap64 (t436 + t455))).bind fun bt458 => ((impl_BeatsBetween.f kj37 t435 (wrap64 (t436 + t455)) t437).bind fun bt460 => (if bt458.2 = 0 then (if bt460.2 = 0 then (laws_FnBeats.j2 kj37 t416 t417 t418 t421 t422 t444 ((wrap64 (bt458.1 + bt460.1)) != t440)) else (laws_FnBeats.j2 kj37 t416 t417 t418 t421 t422 t444 true)) else (laws_FnBeats.j2 kj37 t416 t417 t418 t421 t422 t444 true)))) = some r := H
        have A48 := Aside0.mk A480
        clear A480
        replace H := Option.bind_eq_some_iff.mp H
        obtain ⟨⟨t458, t459⟩, A490, H⟩ := H
        replace H : ((impl_BeatsBetween.f kj37 t435 (wrap64 (t436 + t455)) t437).bind fun bt460 => (if t459 = 0 then (if bt460.2 = 0 then (laws_FnBeats.j2 kj37 t416 t417 t418 t421 t422 t444 ((wrap64 (t458 + bt460.1)) != t440)) else (laws_FnBeats.j2 kj37 t416 t417 t418 t421 t422 t444 true)) else (laws_FnBeats.j2 kj37 t416 t417 t418 t421 t422 t444 true))) = some r := H
        have A49 := Aside0.mk A490
        clear A490
        replace H := Option.bind_eq_some_iff.mp H
        obtain ⟨⟨t460, t461⟩, A500, H⟩ := H
        replace H : (if t459 = 0 then (if t461 = 0 then (laws_FnBeats.j2 kj37 t416 t417 t418 t421 t422 t444 ((wrap64 (t458 + t460)) != t440)) else (laws_FnBeats.j2 kj37 t416 t417 t418 t421 t422 t444 true)) else (laws_FnBeats.j2 kj37 t416 t417 t418 t421 t422 t444 true)) = some r := H
        have A50 := Aside0.mk A500
        clear A500
        have HC51 := Aside0.mk H
        clear H
        go_upto_region 24 with (first | ((with_reducible refine gate_callee (f := 26) rfl ?_); refine goesL_ (some 180) rfl rfl Try.func26 (by kernel_rfl) rfl #[.slice A0 l0.length c0, .int .u64 701] rfl (by (try simp only [List.map_toArray, List.map_cons, List.map_nil]); first | done | rfl | (simp only [List.length_drop, List.length_take]; rfl)) ?_; (with_reducible refine (laws_roll.calls kj37 _ _ l0 701 t451 t452 t453 w _ ?side1 ?side2 ?side3 A47.out).mono ?_); (case side1 => repeat (first | (with_reducible first | exact HB.out | apply below_alloc | apply pw_below_drewN | apply below_drew1) | exact HB.out)); (case side2 => exact HR0.out); (case side3 => exact HC0.out); rintro e w52 ⟨g454, rfl, hi, hb, hb2⟩; refine ⟨_, rfl, ?_⟩; have n0_ := Aside0.mk (Kd.R_below (by (with_reducible repeat (first | apply Kd.R_alloc | apply Kd.R_drewN | apply Kd.R_drew)); exact HO_3.out) hb2); have n1_ := Aside0.mk (Kd.R_below (by (with_reducible repeat (first | apply Kd.R_alloc | apply Kd.R_drewN | apply Kd.R_drew)); exact HO_18.out) hb2); have n2_ := Aside0.mk (hb); have n3_ := Aside0.mk (hi); clear HO_3; clear HO_18; clear HB; have HO_3 := n0_; have HO_18 := n1_; have HB := n2_; have HI454 := n3_; clear n0_ n1_ n2_ n3_; (try clear hb); (try clear hb2); (try clear hk); (try clear hi)) | ((with_reducible refine gate_callee (f := 27) rfl ?_); refine goesL_ (some 185) rfl rfl Try.func27 (by kernel_rfl) rfl #[.pointer (some ⟨g454, 0, none⟩), .int .i64 (wrap64 ((wrap64 (t437 - t436)) + 1))] rfl (by (try simp only [List.map_toArray, List.map_cons, List.map_nil]); first | done | rfl | (simp only [List.length_drop, List.length_take]; rfl)) ?_; (with_reducible refine (laws_dice_below.calls g454 t451 t452 t453 (wrap64 ((wrap64 (t437 - t436)) + 1)) t455 t456 t457 w _ ?side1 ?side2 A48.out).mono ?_); (case side1 => repeat (first | (with_reducible first | exact HI454.out | apply IsS63.alloc | apply IsS63.drewN | apply IsS63.drew | apply IsS63.set_1 | apply IsS63.set_2) | exact HI454.out)); (case side2 => repeat (first | (with_reducible first | exact HB.out | apply below_alloc | apply pw_below_drewN | apply below_drew1 | refine below_set ?_ (IsS63.ge HI454.out)) | exact HB.out)); rintro e w53 ⟨rfl, hi, hb, hk⟩; refine ⟨_, rfl, ?_⟩; have n0_ := Aside0.mk (Kd.R_mono (Kd.R_keep (IsS63.apart (show IsS63 w _ g454 t451 t452 t453 from by repeat (first | (with_reducible first | exact HI454.out | apply IsS63.alloc | apply IsS63.drewN | apply IsS63.drew | apply IsS63.set_1 | apply IsS63.set_2) | exact HI454.out)) (by (with_reducible repeat (first | apply Kd.R_alloc | apply Kd.R_drewN | apply Kd.R_drew)); exact HO_3.out) (by decide)) hk (fun _ h => h.2)) (fun _ h => h.1)); have n1_ := Aside0.mk (Kd.R_mono (Kd.R_keep (IsS63.apart (show IsS63 w _ g454 t451 t452 t453 from by repeat (first | (with_reducible first | exact HI454.out | apply IsS63.alloc | apply IsS63.drewN | apply IsS63.drew | apply IsS63.set_1 | apply IsS63.set_2) | exact HI454.out)) (by (with_reducible repeat (first | apply Kd.R_alloc | apply Kd.R_drewN | apply Kd.R_drew)); exact HO_18.out) (by decide)) hk (fun _ h => h.2)) (fun _ h => h.1)); have n2_ := Aside0.mk (hb); have n3_ := Aside0.mk (hi); clear HO_3; clear HO_18; clear HB; clear HI454; have HO_3 := n0_; have HO_18 := n1_; have HB := n2_; have HI454 := n3_; clear n0_ n1_ n2_ n3_; (try clear hb); (try clear hb2); (try clear hk); (try clear hi)) | ((with_reducible refine gate_callee (f := 22) rfl ?_); refine goesL_ (some 191) rfl rfl Try.func22 (by kernel_rfl) rfl #[.slice Ao23 t435.length co23, .int .i64 t436, .int .i64 (wrap64 (t436 + t455))] rfl (by (try simp only [List.map_toArray, List.map_cons, List.map_nil]); first | done | rfl | (simp only [List.length_drop, List.length_take]; rfl)) ?_; (with_reducible refine (impl_BeatsBetween.calls kj37 _ _ t435 t436 (wrap64 (t436 + t455)) t458 t459 _ ?side1 ?side2 A49.out).mono ?_); (case side1 => repeat (first | exact (Kd.R_reads' HO_18.out).2.2 | (with_reducible refine Kd.C_alloc ?_ _) | (with_reducible refine Kd.C_drewN ?_ _) | (with_reducible refine Kd.C_drew ?_))); (case side2 => exact (Kd.R_reads' HO_18.out).2.1); rintro e w54 ⟨rfl, hb⟩; refine ⟨_, rfl, ?_⟩; have n0_ := Aside0.mk (Kd.R_below (by (with_reducible repeat (first | apply Kd.R_alloc | apply Kd.R_drewN | apply Kd.R_drew)); exact HO_3.out) hb); have n1_ := Aside0.mk (Kd.R_below (by (with_reducible repeat (first | apply Kd.R_alloc | apply Kd.R_drewN | apply Kd.R_drew)); exact HO_18.out) hb); have n2_ := Aside0.mk (IsS63.below (by repeat (first | (with_reducible first | exact HI454.out | apply IsS63.alloc | apply IsS63.drewN | apply IsS63.drew | apply IsS63.set_1 | apply IsS63.set_2) | exact HI454.out)) hb); have n3_ := Aside0.mk (below_step (by repeat (first | (with_reducible first | exact HB.out | apply below_alloc | apply pw_below_drewN | apply below_drew1 | refine below_set ?_ (IsS63.ge HI454.out)) | exact HB.out)) hb); clear HO_3; clear HO_18; clear HI454; clear HB; have HO_3 := n0_; have HO_18 := n1_; have HI454 := n2_; have HB := n3_; clear n0_ n1_ n2_ n3_; (try clear hb); (try clear hb2); (try clear hk); (try clear hi)) | ((with_reducible refine gate_callee (f := 22) rfl ?_); refine goesL_ (some 198) rfl rfl Try.func22 (by kernel_rfl) rfl #[.slice Ao23 t435.length co23, .int .i64 (wrap64 (t436 + t455)), .int .i64 t437] rfl (by (try simp only [List.map_toArray, List.map_cons, List.map_nil]); first | done | rfl | (simp only [List.length_drop, List.length_take]; rfl)) ?_; (with_reducible refine (impl_BeatsBetween.calls kj37 _ _ t435 (wrap64 (t436 + t455)) t437 t460 t461 _ ?side1 ?side2 A50.out).mono ?_); (case side1 => repeat (first | exact (Kd.R_reads' HO_18.out).2.2 | (with_reducible refine Kd.C_alloc ?_ _) | (with_reducible refine Kd.C_drewN ?_ _) | (with_reducible refine Kd.C_drew ?_))); (case side2 => exact (Kd.R_reads' HO_18.out).2.1); rintro e w55 ⟨rfl, hb⟩; refine ⟨_, rfl, ?_⟩; have n0_ := Aside0.mk (Kd.R_below (by (with_reducible repeat (first | apply Kd.R_alloc | apply Kd.R_drewN | apply Kd.R_drew)); exact HO_3.out) hb); have n1_ := Aside0.mk (Kd.R_below (by (with_reducible repeat (first | apply Kd.R_alloc | apply Kd.R_drewN | apply Kd.R_drew)); exact HO_18.out) hb); have n2_ := Aside0.mk (IsS63.below (by repeat (first | (with_reducible first | exact HI454.out | apply IsS63.alloc | apply IsS63.drewN | apply IsS63.drew | apply IsS63.set_1 | apply IsS63.set_2) | exact HI454.out)) hb); have n3_ := Aside0.mk (below_step (by repeat (first | (with_reducible first | exact HB.out | apply below_alloc | apply pw_below_drewN | apply below_drew1 | refine below_set ?_ (IsS63.ge HI454.out)) | exact HB.out)) hb); clear HO_3; clear HO_18; clear HI454; clear HB; have HO_3 := n0_; have HO_18 := n1_; have HI454 := n2_; have HB := n3_; clear n0_ n1_ n2_ n3_; (try clear hb); (try clear hb2); (try clear hk); (try clear hi)))
        (try simp only [Act.put, List.setIfInBounds_toArray, List.set_cons_zero, List.set_cons_succ])
        go_cut [213] (fun v213 wc => ∃ (kq : Nat) (x213_50 : Bool), v213 = .bool x213_50 ∧ Aside0 (laws_FnBeats.j2 kq t416 t417 t418 t421 t422 t444 x213_50 = some r) ∧ Aside0 (kq ≤ kj37) ∧ Aside0 (Kd.R k56 56 wc w.heap.size (fun _ => True) (.slice Ao17 t416.length co17) t416) ∧ Aside0 (Below w.heap.size w wc))
        case first =>
         have H := HC51.out
         clear HC51
         by_cases c56 : t459 = 0
         ·rw [if_pos c56] at H
          have c56b0 : (t459 == 0) = true := beq_iff_eq.mpr c56
          have c56b1 : (t459 != 0) = false := bne_eq_false_iff_eq.mpr c56
          clear c56
          (first | rw [c56b0] | (simp only [i64_w, i32_w]; rw [c56b0]) | skip)
          by_cases c57 : t461 = 0
          ·rw [if_pos c57] at H
           have c57b0 : (t461 == 0) = true := beq_iff_eq.mpr c57
           have c57b1 : (t461 != 0) = false := bne_eq_false_iff_eq.mpr c57
           clear c57
           have H' := Aside0.mk H
           clear H
           go_wp2
           go_meet
           case rel => exact ⟨_, (((wrap64 (t458 + t460)) != t440)), (by first | rfl | (simp; done) | (simp [*]; done)), H', ⟨by have := HJ14.out; have := HJ37.out; first | omega | exact Nat.le_refl _⟩, ⟨by (with_reducible repeat (first | apply Kd.R_alloc | apply Kd.R_drewN | apply Kd.R_drew)); exact Kd.R_mono HO_3.out (fun _ hk => trivial)⟩, ⟨by repeat (first | (with_reducible first | exact HB.out | apply below_alloc | apply pw_below_drewN | apply below_drew1 | refine below_set ?_ (IsS63.ge HI454.out)) | exact HB.out)⟩⟩
          ·rw [if_neg c57] at H
           have c57b0 : (t461 == 0) = false := beq_eq_false_iff_ne.mpr c57
           have c57b1 : (t461 != 0) = true := bne_iff_ne.mpr c57
           exact absurd (H.trans (congrArg some HR_.out)) (laws_FnBeats.j2_true _ _ _ _ _ _ _)
         ·rw [if_neg c56] at H
          have c56b0 : (t459 == 0) = false := beq_eq_false_iff_ne.mpr c56
          have c56b1 : (t459 != 0) = true := bne_iff_ne.mpr c56
          (first | rw [c56b0] | (simp only [i64_w, i32_w]; rw [c56b0]) | skip)
          exact absurd (H.trans (congrArg some HR_.out)) (laws_FnBeats.j2_true _ _ _ _ _ _ _)
        case rest =>
         clear HC51
         try clear c1
         try clear c2
         try clear p2
         try clear c3
         try clear c4
         try clear c5
         try clear c6
         try clear p6
         try clear c14
         try clear c15
         try clear c16
         try clear c17
         try clear c18
         try clear c19
         try clear c20
         try clear c21
         try clear c22
         try clear c23
         try clear c24
         try clear c26
         try clear c26b0
         try clear c26b1
         try clear c27
         try clear c27b0
         try clear c27b1
         try clear c28
         try clear c28b0
         try clear c28b1
         try clear c29
         try clear c29b0
         try clear c29b1
         try clear c30
         try clear c30b0
         try clear c30b1
         try clear c31
         try clear c31b0
         try clear c31b1
         try clear c32
         try clear c32b0
         try clear c32b1
         try clear c33
         try clear c33b0
         try clear c33b1
         try clear c34
         try clear c34b0
         try clear c34b1
         try clear c37
         try clear c39
         try clear c39b0
         try clear c39b1
         try clear c41
         try clear c41b0
         try clear c41b1
         try clear c42
         try clear c42b0
         try clear c46
         try clear c46b0
         try clear c46b1
         try clear c56
         try clear c56b0
         try clear c56b1
         try clear c57
         try clear c57b0
         try clear c57b1
         try clear p2
         obtain ⟨kq, x213_50, rfl, HA, HJ50, HO_3, HB⟩ := hcut
         cases kq with
         | zero => exact absurd HA.out (by simp [laws_FnBeats.j2])
         | succ kj50 =>
          have H := HA.out
          clear HA
          simp only [laws_FnBeats.j2] at H
          by_cases c58 : x213_50 = true
          ·subst c58
           have H1 : (some false) = some r := by rw [if_pos rfl] at H; exact H
           clear H
           have H := H1
           clear H1
           exact absurd ((Option.some.inj H).trans HR_.out) (by decide)
          ·replace c58 := Bool.eq_false_iff.mpr c58
           subst c58
           have H1 : (if t422 = 0 then ((impl_BeatAt.f kj50 t416 t421).bind fun bt462 => (if bt462.2.2 = 0 then (if bt462.1 = t417 then (if bt462.2.1 = t418 then (some (decide (t421 < t444))) else (some false)) else (some false)) else (some false))) else (some true)) = some r := by rw [if_neg (show ¬ (false = true) by decide)] at H; exact H
           clear H
           have H := H1
           clear H1
           by_cases c59 : t422 = 0
           ·rw [if_pos c59] at H
            have c59b0 : (t422 == 0) = true := beq_iff_eq.mpr c59
            have c59b1 : (t422 != 0) = false := bne_eq_false_iff_eq.mpr c59
            clear c59
            replace H := Option.bind_eq_some_iff.mp H
            obtain ⟨⟨t462, t463, t464⟩, A600, H⟩ := H
            replace H : (if t464 = 0 then (if t462 = t417 then (if t463 = t418 then (some (decide (t421 < t444))) else (some false)) else (some false)) else (some false)) = some r := H
            have A60 := Aside0.mk A600
            clear A600
            by_cases c61 : t464 = 0
            ·rw [if_pos c61] at H
             have c61b0 : (t464 == 0) = true := beq_iff_eq.mpr c61
             have c61b1 : (t464 != 0) = false := bne_eq_false_iff_eq.mpr c61
             clear c61
             by_cases c62 : t462 = t417
             ·rw [if_pos c62] at H
              have c62b0 : (t462 == t417) = true := beq_iff_eq.mpr c62
              have c62b1 : (t462 != t417) = false := bne_eq_false_iff_eq.mpr c62
              clear c62
              by_cases c63 : t463 = t418
              ·rw [if_pos c63] at H
               have c63b0 : (t463 == t418) = true := beq_iff_eq.mpr c63
               have c63b1 : (t463 != t418) = false := bne_eq_false_iff_eq.mpr c63
               clear c63
               obtain rfl := Option.some.inj H
               go_wp2_with (first | ((with_reducible refine gate_callee (f := 19) rfl ?_); refine goesL_ (some 219) rfl rfl Try.func19 (by kernel_rfl) rfl #[.slice Ao17 t416.length co17, .int .i64 t421] rfl (by (try simp only [List.map_toArray, List.map_cons, List.map_nil]); first | done | rfl | (simp only [List.length_drop, List.length_take]; rfl)) ?_; (with_reducible refine (impl_BeatAt.calls kj50 _ _ t416 t421 t462 t463 t464 _ ?side1 ?side2 A60.out).mono ?_); (case side1 => repeat (first | exact (Kd.R_reads' HO_3.out).2.2 | (with_reducible refine Kd.C_alloc ?_ _) | (with_reducible refine Kd.C_drewN ?_ _) | (with_reducible refine Kd.C_drew ?_))); (case side2 => exact (Kd.R_reads' HO_3.out).2.1); rintro e w64 ⟨rfl, hb⟩; refine ⟨_, rfl, ?_⟩; have n0_ := Aside0.mk (Kd.R_below (by (with_reducible repeat (first | apply Kd.R_alloc | apply Kd.R_drewN | apply Kd.R_drew)); exact HO_3.out) hb); have n1_ := Aside0.mk (below_step (by repeat (first | (with_reducible first | exact HB.out | apply below_alloc | apply pw_below_drewN | apply below_drew1) | exact HB.out)) hb); clear HO_3; clear HB; have HO_3 := n0_; have HB := n1_; clear n0_ n1_; (try clear hb); (try clear hb2); (try clear hk); (try clear hi)))
               go_ret
               exact ⟨by first | rfl | (simp [errW_none, errW_some] <;> rfl) | (simp [*, errW_none, errW_some] <;> rfl), by repeat (first | (with_reducible first | exact HB.out | apply below_alloc | apply pw_below_drewN | apply below_drew1) | exact HB.out)⟩
              ·rw [if_neg c63] at H
               have c63b0 : (t463 == t418) = false := beq_eq_false_iff_ne.mpr c63
               have c63b1 : (t463 != t418) = true := bne_iff_ne.mpr c63
               exact absurd ((Option.some.inj H).trans HR_.out) (by decide)
             ·rw [if_neg c62] at H
              have c62b0 : (t462 == t417) = false := beq_eq_false_iff_ne.mpr c62
              have c62b1 : (t462 != t417) = true := bne_iff_ne.mpr c62
              exact absurd ((Option.some.inj H).trans HR_.out) (by decide)
            ·rw [if_neg c61] at H
             have c61b0 : (t464 == 0) = false := beq_eq_false_iff_ne.mpr c61
             have c61b1 : (t464 != 0) = true := bne_iff_ne.mpr c61
             exact absurd ((Option.some.inj H).trans HR_.out) (by decide)
           ·rw [if_neg c59] at H
            have c59b0 : (t422 == 0) = false := beq_eq_false_iff_ne.mpr c59
            have c59b1 : (t422 != 0) = true := bne_iff_ne.mpr c59
            obtain rfl := Option.some.inj H
            go_wp2
            go_ret
            exact ⟨by first | rfl | (simp [errW_none, errW_some] <;> rfl) | (simp [*, errW_none, errW_some] <;> rfl), by repeat (first | (with_reducible first | exact HB.out | apply below_alloc | apply pw_below_drewN | apply below_drew1) | exact HB.out)⟩
       ·rw [if_neg c46] at H
        have c46b0 : (t441 == 0) = false := beq_eq_false_iff_ne.mpr c46
        have c46b1 : (t441 != 0) = true := bne_iff_ne.mpr c46
        by_cases c68 : t422 = 0
        ·rw [if_pos c68] at H
         have c68b0 : (t422 == 0) = true := beq_iff_eq.mpr c68
         have c68b1 : (t422 != 0) = false := bne_eq_false_iff_eq.mpr c68
         clear c68
         replace H := Option.bind_eq_some_iff.mp H
         obtain ⟨⟨t465, t466, t467⟩, A690, H⟩ := H
         replace H : (if t467 = 0 then (if t465 = t417 then (if t466 = t418 then (some (decide (t421 < t444))) else (some false)) else (some false)) else (some false)) = some r := H
         have A69 := Aside0.mk A690
         clear A690
         by_cases c70 : t467 = 0
         ·rw [if_pos c70] at H
          have c70b0 : (t467 == 0) = true := beq_iff_eq.mpr c70
          have c70b1 : (t467 != 0) = false := bne_eq_false_iff_eq.mpr c70
          clear c70
          by_cases c71 : t465 = t417
          ·rw [if_pos c71] at H
           have c71b0 : (t465 == t417) = true := beq_iff_eq.mpr c71
           have c71b1 : (t465 != t417) = false := bne_eq_false_iff_eq.mpr c71
           clear c71
           by_cases c72 : t466 = t418
           ·rw [if_pos c72] at H
            have c72b0 : (t466 == t418) = true := beq_iff_eq.mpr c72
            have c72b1 : (t466 != t418) = false := bne_eq_false_iff_eq.mpr c72
            clear c72
            obtain rfl := Option.some.inj H
            go_wp2_with (first | ((with_reducible refine gate_callee (f := 19) rfl ?_); refine goesL_ (some 219) rfl rfl Try.func19 (by kernel_rfl) rfl #[.slice Ao17 t416.length co17, .int .i64 t421] rfl (by (try simp only [List.map_toArray, List.map_cons, List.map_nil]); first | done | rfl | (simp only [List.length_drop, List.length_take]; rfl)) ?_; (with_reducible refine (impl_BeatAt.calls kj37 _ _ t416 t421 t465 t466 t467 _ ?side1 ?side2 A69.out).mono ?_); (case side1 => repeat (first | exact (Kd.R_reads' HO_3.out).2.2 | (with_reducible refine Kd.C_alloc ?_ _) | (with_reducible refine Kd.C_drewN ?_ _) | (with_reducible refine Kd.C_drew ?_))); (case side2 => exact (Kd.R_reads' HO_3.out).2.1); rintro e w73 ⟨rfl, hb⟩; refine ⟨_, rfl, ?_⟩; have n0_ := Aside0.mk (Kd.R_below (by (with_reducible repeat (first | apply Kd.R_alloc | apply Kd.R_drewN | apply Kd.R_drew)); exact HO_3.out) hb); have n1_ := Aside0.mk (Kd.R_below (by (with_reducible repeat (first | apply Kd.R_alloc | apply Kd.R_drewN | apply Kd.R_drew)); exact HO_18.out) hb); have n2_ := Aside0.mk (below_step (by repeat (first | (with_reducible first | exact HB.out | apply below_alloc | apply pw_below_drewN | apply below_drew1) | exact HB.out)) hb); clear HO_3; clear HO_18; clear HB; have HO_3 := n0_; have HO_18 := n1_; have HB := n2_; clear n0_ n1_ n2_; (try clear hb); (try clear hb2); (try clear hk); (try clear hi)))
            go_ret
            exact ⟨by first | rfl | (simp [errW_none, errW_some] <;> rfl) | (simp [*, errW_none, errW_some] <;> rfl), by repeat (first | (with_reducible first | exact HB.out | apply below_alloc | apply pw_below_drewN | apply below_drew1) | exact HB.out)⟩
           ·rw [if_neg c72] at H
            have c72b0 : (t466 == t418) = false := beq_eq_false_iff_ne.mpr c72
            have c72b1 : (t466 != t418) = true := bne_iff_ne.mpr c72
            exact absurd ((Option.some.inj H).trans HR_.out) (by decide)
          ·rw [if_neg c71] at H
           have c71b0 : (t465 == t417) = false := beq_eq_false_iff_ne.mpr c71
           have c71b1 : (t465 != t417) = true := bne_iff_ne.mpr c71
           exact absurd ((Option.some.inj H).trans HR_.out) (by decide)
         ·rw [if_neg c70] at H
          have c70b0 : (t467 == 0) = false := beq_eq_false_iff_ne.mpr c70
          have c70b1 : (t467 != 0) = true := bne_iff_ne.mpr c70
          exact absurd ((Option.some.inj H).trans HR_.out) (by decide)
        ·rw [if_neg c68] at H
         have c68b0 : (t422 == 0) = false := beq_eq_false_iff_ne.mpr c68
         have c68b1 : (t422 != 0) = true := bne_iff_ne.mpr c68
         obtain rfl := Option.some.inj H
         go_wp2
         go_ret
         exact ⟨by first | rfl | (simp [errW_none, errW_some] <;> rfl) | (simp [*, errW_none, errW_some] <;> rfl), by repeat (first | (with_reducible first | exact HB.out | apply below_alloc | apply pw_below_drewN | apply below_drew1) | exact HB.out)⟩
def laws_FnBeats.Pure : Prop := ∀ (l0 : List Int), l0.length ≤ maxLen → l0.length * 1 ≤ 140737488351232 → (∀ x ∈ l0, (Lit.int .u8 x).wf = true) → ∃ k, laws_FnBeats.f k l0 = some true
theorem laws_FnBeats.walk (P : laws_FnBeats.Pure) (a0 : Option Addr) (len0 cap0 : Nat) (z0 : List Int) (w : World) (w0 : (a0 = none ∧ len0 = 0 ∧ cap0 = 0 ∧ z0 = []) ∨ ∃ x, a0 = some x ∧ len0 ≤ cap0 ∧ cap0 ≤ maxLen ∧ z0.length = cap0 ∧ (∀ i, i < z0.length → w.cell? (x.add i) = some (.int .u8 (z0.getD i 0))) ∧ ∀ n ∈ z0, (Lit.int .u8 n).wf = true) (y0 : len0 * 1 ≤ 140737488351232) :
  Calls Try.prog 4 #[.slice a0 len0 cap0] w fun e w' => e = .returned (.bool true) ∧ Below w.heap.size w w' := by
 obtain ⟨l0, rfl, hr0, hm0, hw0, hc0⟩ := ReadsInt.ofRowC w0
 obtain ⟨k, h⟩ := P l0 hm0 y0 hw0
 refine (laws_FnBeats.calls k _ _ l0 true w (Kd.C_of_reads (d := (0 : Int)) (h1 := fun _ => rfl) hr0) hc0 h rfl).mono ?_
 rintro e w' ⟨rfl, hd⟩
 exact ⟨rfl, hd⟩
end Go.Proofs.Ytigkgihnijaefaa.F
namespace Go.Proofs.Ytigkgihnijaefaa.F
open Go.RowKit Go.Proofs.YtigkgihnijaefaaW.PrintWords Go.Proofs.YtigkgihnijaefaaW.PrintLast Go.Proofs.YtigkgihnijaefaaW.PrintMore
set_option linter.unusedVariables false
set_option linter.unusedSimpArgs false
def Evt (P : Nat → Prop) : Prop := ∃ K, ∀ k, K ≤ k → P k
theorem Evt.and {P Q : Nat → Prop} (h : Evt P) (h' : Evt Q) : Evt (fun k => P k ∧ Q k) := by
 obtain ⟨K, h⟩ := h
 obtain ⟨K', h'⟩ := h'
 exact ⟨K + K', fun k hk => ⟨h k (by omega), h' k (by omega)⟩⟩
theorem Evt.mono {P Q : Nat → Prop} (h : Evt P) (hq : ∀ k, P k → Q k) : Evt Q := by
 obtain ⟨K, h⟩ := h
 exact ⟨K, fun k hk => hq k (h k hk)⟩
theorem Evt.succ {P : Nat → Prop} (h : Evt (fun k => P (k + 1))) : Evt P := by
 obtain ⟨K, h⟩ := h
 refine ⟨K + 1, fun k hk => ?_⟩
 obtain ⟨m, rfl⟩ : ∃ m, k = m + 1 := ⟨k - 1, by omega⟩
 exact h m (by omega)
theorem w64 {n : Int} (h : -9223372036854775808 ≤ n ∧ n ≤ 9223372036854775807) : wrap64 n = n := by unfold wrap64; omega
def allF (p : Nat → Bool) : Nat → Nat → Bool
 | _, 0 => true
 | i, d + 1 => p i && allF p (i + 1) d
theorem allF_true {p : Nat → Bool} : ∀ (d i : Nat), allF p i d = true ↔ ∀ j, i ≤ j → j < i + d → p j = true
 | 0, i => by simp [allF]; intro j h1 h2; omega
 | d + 1, i => by
  unfold allF
  rw [Bool.and_eq_true, allF_true d (i + 1)]
  constructor
  ·rintro ⟨h1, h2⟩ j h3 h4
   rcases Nat.eq_or_lt_of_le h3 with e | e
   ·exact e ▸ h1
   ·exact h2 j e (by omega)
  ·exact fun h => ⟨h i (Nat.le_refl _) (by omega), fun j h1 h2 => h j (by omega) (by omega)⟩
theorem all_loopF {f : Nat → Nat → Option Bool} {p : Nat → Bool} {e : Bool} (a n : Nat) (hs : ∀ k i, a ≤ i → i < n → f (k + 1) i = if p i = true then f k (i + 1) else some false) (he : ∀ k, f (k + 1) n = some e) :
  ∀ d k i, a ≤ i → n - i = d → i ≤ n → d < k → f k i = some (allF p i d && e) := by
 intro d
 induction d with
 | zero =>
  intro k i ha hd hi hk
  obtain ⟨k, rfl⟩ : ∃ m, k = m + 1 := ⟨k - 1, by omega⟩
  have : i = n := by omega
  subst this
  rw [he]
  rfl
 | succ d ih =>
  intro k i ha hd hi hk
  obtain ⟨k, rfl⟩ : ∃ m, k = m + 1 := ⟨k - 1, by omega⟩
  rw [hs k i ha (by omega)]
  unfold allF
  by_cases hp : p i = true
  ·rw [if_pos hp, ih k (i + 1) (by omega) (by omega) (by omega) (by omega), hp, Bool.true_and]
  ·rw [if_neg hp]
   replace hp := Bool.eq_false_iff.mpr hp
   rw [hp, Bool.false_and, Bool.false_and]
theorem all_loop {f : Nat → Nat → Option Bool} {p : Nat → Bool} {e : Bool} (n : Nat) (hs : ∀ k i, i < n → f (k + 1) i = if p i = true then f k (i + 1) else some false) (he : ∀ k, f (k + 1) n = some e) :
  ∀ d k i, n - i = d → i ≤ n → d < k → f k i = some (allF p i d && e) := fun d k i => all_loopF 0 n (fun k i _ h => hs k i h) he d k i (Nat.zero_le _)
def foldF {σ : Type} (step : Nat → σ → σ) : Nat → Nat → σ → σ
 | _, 0, s => s
 | i, d + 1, s => foldF step (i + 1) d (step i s)
theorem foldF_snoc {σ : Type} (f : Nat → σ → σ) : ∀ (d i : Nat) (s : σ), foldF f i (d + 1) s = f (i + d) (foldF f i d s)
 | 0, i, s => rfl
 | d + 1, i, s => by
  have h := foldF_snoc f d (i + 1) (f i s)
  rw [show i + 1 + d = i + (d + 1) by omega] at h
  exact h
theorem fold_loop {σ β : Type} {f : Nat → Nat → σ → Option β} {step : Nat → σ → σ} {I : Nat → σ → Prop} {e : σ → Option β} (n : Nat) (hs : ∀ k i s, i < n → I i s → f (k + 1) i s = f k (i + 1) (step i s)) (hI : ∀ i s, i < n → I i s → I (i + 1) (step i s)) (he : ∀ k s, I n s → f (k + 1) n s = e s) :
  ∀ d k i s, n - i = d → i ≤ n → I i s → d < k → f k i s = e (foldF step i d s) := by
 intro d
 induction d with
 | zero =>
  intro k i s hd hi h0 hk
  obtain ⟨k, rfl⟩ : ∃ m, k = m + 1 := ⟨k - 1, by omega⟩
  have : i = n := by omega
  subst this
  exact he k s h0
 | succ d ih =>
  intro k i s hd hi h0 hk
  obtain ⟨k, rfl⟩ : ∃ m, k = m + 1 := ⟨k - 1, by omega⟩
  rw [hs k i s (by omega) h0]
  exact ih k (i + 1) _ (by omega) (by omega) (hI i s (by omega) h0) (by omega)
def inB (n lo hi : Int) : Bool := decide (lo ≤ n ∧ n ≤ hi)
theorem inB_true {n lo hi : Int} : inB n lo hi = true ↔ lo ≤ n ∧ n ≤ hi := by unfold inB; exact decide_eq_true_iff
theorem inB_false {n lo hi : Int} : inB n lo hi = false ↔ ¬ (lo ≤ n ∧ n ≤ hi) := by unfold inB; exact decide_eq_false_iff_not
theorem getD_take {α : Type} (xs : List α) (z : α) (n i : Nat) (h : i < n) : (xs.take n).getD i z = xs.getD i z := by
 rw [List.getD_eq_getElem?_getD, List.getD_eq_getElem?_getD, List.getElem?_take, if_pos h]
end Go.Proofs.Ytigkgihnijaefaa.F
namespace Go.Proofs.Ytigkgihnijaefaa.F
open Go.RowKit Go.Proofs.YtigkgihnijaefaaW.PrintWords Go.Proofs.YtigkgihnijaefaaW.PrintLast Go.Proofs.YtigkgihnijaefaaW.PrintMore
set_option linter.unusedVariables false
set_option linter.unusedSimpArgs false
def Code (c : List Int) : Prop := c.length ≤ 4096 ∧ ∀ x ∈ c, 0 ≤ x ∧ x ≤ 255
def St (c : List Int) (a s : Int) : Prop := 0 ≤ a ∧ a ≤ (c.length : Int) ∧ 0 ≤ s ∧ s < 2147483647
theorem rd_code {c : List Int} (hc : Code c) (i : Int) : 0 ≤ rd c i ∧ rd c i ≤ 255 := by
 unfold rd
 rw [List.getD_eq_getElem?_getD]
 cases h : c[i.toNat]? with
 | none => exact ⟨Int.le_refl _, by decide⟩
 | some x => exact hc.2 x (List.mem_of_getElem? h)
theorem tmod_nn {a b : Int} (ha : 0 ≤ a) (hb : 0 < b) : 0 ≤ Int.tmod a b ∧ Int.tmod a b < b := by
 rw [Int.tmod_eq_emod_of_nonneg ha]
 exact ⟨Int.emod_nonneg _ (by omega), Int.emod_lt_of_pos _ hb⟩
theorem next_ok {c : List Int} (hc : Code c) {a s : Int} (h : St c a s) (n : Int) (hn : n ≤ 4611686018427387904) : ∃ r a' s', spec_l01Next.f c a s n = some (r, a', s') ∧ St c a' s' ∧ 0 ≤ r ∧ (r < n ∨ (n ≤ 1 ∧ r = 0)) := by
 obtain ⟨h1, h2, h3, h4⟩ := h
 have hl := hc.1
 unfold spec_l01Next.f
 by_cases c1 : n ≤ 1
 ·rw [if_pos c1]
  exact ⟨0, a, s, rfl, ⟨h1, h2, h3, h4⟩, Int.le_refl _, .inr ⟨c1, rfl⟩⟩
 ·have hs := tmod_nn (a := s * 48271 + 29) (b := 2147483647) (by omega) (by omega)
  rw [if_neg c1, w64 (n := s * 48271) (by omega), w64 (n := s * 48271 + 29) (by omega)]
  generalize Int.tmod (s * 48271 + 29) 2147483647 = z at hs ⊢
  have hd : Int.tdiv z 31 = z / 31 := Int.tdiv_eq_ediv_of_nonneg hs.1
  rw [hd]
  have n0 : ¬ n = 0 := by omega
  by_cases c2 : a < (c.length : Int)
  ·have hr := rd_code hc a
   have p := tmod_nn (a := z / 31 + rd c a) (b := n) (by omega) (by omega)
   have q := tmod_nn (a := rd c a) (b := n) (by omega) (by omega)
   simp only [if_neg n0]
   rw [if_pos c2, if_pos h1, w64 (n := a + 1) (by omega), w64 (n := z / 31) (by omega), w64 (n := rd c a) (by omega), w64 (n := z / 31 + rd c a) (by omega), w64 (n := a + 1 - 1) (by omega), show a + 1 - 1 = a by omega, w64 (n := rd c a) (by omega)]
   by_cases c3 : n ≤ 256
   ·rw [if_pos c3]
    by_cases c4 : Int.tmod (a + 1) 2 = 0
    ·rw [if_pos c4, if_pos h1, if_pos c2]
     exact ⟨_, _, _, rfl, ⟨by omega, by omega, hs.1, hs.2⟩, q.1, .inl q.2⟩
    ·rw [if_neg c4]
     exact ⟨_, _, _, rfl, ⟨by omega, by omega, hs.1, hs.2⟩, p.1, .inl p.2⟩
   ·rw [if_neg c3]
    exact ⟨_, _, _, rfl, ⟨by omega, by omega, hs.1, hs.2⟩, p.1, .inl p.2⟩
  ·have p := tmod_nn (a := z / 31) (b := n) (by omega) (by omega)
   simp only [if_neg n0]
   rw [if_neg c2, w64 (n := z / 31) (by omega)]
   exact ⟨_, _, _, rfl, ⟨h1, h2, hs.1, hs.2⟩, p.1, .inl p.2⟩
theorem pick_ok {c : List Int} (hc : Code c) {a s : Int} (h : St c a s) (l : List Int) (hl : 0 < l.length) (hl2 : l.length ≤ 1000) : ∃ r a' s', spec_l01Pick.f c a s l = some (r, a', s') ∧ St c a' s' ∧ r ∈ l := by
 obtain ⟨r, a', s', e, h', h0, h1⟩ := next_ok hc h (l.length : Int) (by omega)
 refine ⟨rd l r, a', s', ?_, h', ?_⟩
 ·unfold spec_l01Pick.f
  rw [e]
  simp only [Option.bind_some]
  rw [if_pos h0, if_pos (by omega)]
 ·have hr : r.toNat < l.length := by omega
  unfold rd
  rw [List.getD_eq_getElem?_getD, List.getElem?_eq_getElem hr]
  exact List.getElem_mem hr
theorem from_ok {c : List Int} (hc : Code c) : ∃ s, (∀ k, 70 ≤ k → spec_l01From.f k c = some (c, 0, s)) ∧ St c 0 s := by
 have loop : ∀ (d : Nat) (i s : Int), 0 ≤ i → i ≤ 64 → 64 - i ≤ d → 0 ≤ s → s < 2147483647 → ∃ s', (∀ k, d < k → spec_l01From.l0 k c i c 0 s = some (c, 0, s')) ∧ St c 0 s' := by
  intro d
  induction d with
  | zero =>
   intro i s h1 h2 h3 h4 h5
   refine ⟨s, fun k hk => ?_, by omega, by omega, h4, h5⟩
   obtain ⟨k, rfl⟩ : ∃ m, k = m + 1 := ⟨k - 1, by omega⟩
   simp only [spec_l01From.l0]
   rw [if_neg (show ¬ i < 64 by omega)]
   split <;> rfl
  | succ d ih =>
   intro i s h1 h2 h3 h4 h5
   by_cases c1 : i < (c.length : Int) ∧ i < 64
   ·have hr := rd_code hc i
    have hm := tmod_nn (a := s * 83 + rd c i) (b := 2147483647) (by omega) (by omega)
    obtain ⟨s', e, hs⟩ := ih (i + 1) (Int.tmod (s * 83 + rd c i) 2147483647) (by omega) (by omega) (by omega) hm.1 hm.2
    refine ⟨s', fun k hk => ?_, hs⟩
    obtain ⟨k, rfl⟩ : ∃ m, k = m + 1 := ⟨k - 1, by omega⟩
    simp only [spec_l01From.l0]
    rw [if_pos c1.1, if_pos c1.2, if_pos h1, w64 (n := i + 1) (by omega), w64 (n := s * 83) (by omega), w64 (n := rd c i) (by omega), w64 (n := s * 83 + rd c i) (by omega)]
    exact e k (by omega)
   ·refine ⟨s, fun k hk => ?_, by omega, by omega, h4, h5⟩
    obtain ⟨k, rfl⟩ : ∃ m, k = m + 1 := ⟨k - 1, by omega⟩
    simp only [spec_l01From.l0]
    by_cases c2 : i < (c.length : Int)
    ·rw [if_pos c2, if_neg (fun x => c1 ⟨c2, x⟩)]
    ·rw [if_neg c2]
 obtain ⟨s', e, hs⟩ := loop 64 0 61043 (by omega) (by omega) (by omega) (by omega) (by omega)
 exact ⟨s', fun k hk => e k (by omega), hs⟩
theorem code_of {l : List Int} (h : ¬ (l.length : Int) > 4096) (hb : ∀ x ∈ l, (Go.Lit.int .u8 x).wf = true) : Code l := ⟨by omega, fun x hx => by
 have h := hb x hx
 simp [Go.Lit.wf, Go.IntKind.min, Go.IntKind.max, Go.IntKind.signed, Go.IntKind.bits] at h
 omega⟩
end Go.Proofs.Ytigkgihnijaefaa.F
namespace Go.Proofs.Ytigkgihnijaefaa.F
open Go.RowKit Go.Proofs.YtigkgihnijaefaaW.PrintWords Go.Proofs.YtigkgihnijaefaaW.PrintLast Go.Proofs.YtigkgihnijaefaaW.PrintMore
set_option linter.unusedVariables false
set_option linter.unusedSimpArgs false
theorem In_eq (n lo hi : Int) : spec_l01In.f n lo hi = some (inB n lo hi) := by
 unfold spec_l01In.f inB
 by_cases h : n ≥ lo
 ·rw [if_pos h]; congr 1; simp; omega
 ·rw [if_neg h]; congr 1; simp; omega
theorem Wi_eq (n lo hi : Int) : impl_within.f n lo hi = some (inB n lo hi) := by
 unfold impl_within.f inB
 by_cases h : lo ≤ n
 ·rw [if_pos h]; congr 1; simp; omega
 ·rw [if_neg h]; congr 1; simp; omega
end Go.Proofs.Ytigkgihnijaefaa.F
namespace Go.Proofs.Ytigkgihnijaefaa.F
open Go.RowKit Go.Proofs.YtigkgihnijaefaaW.PrintWords Go.Proofs.YtigkgihnijaefaaW.PrintLast Go.Proofs.YtigkgihnijaefaaW.PrintMore
set_option linter.unusedVariables false
set_option linter.unusedSimpArgs false
def bt_at (xs : List S56) (i : Nat) : Int := (xs.getD i z56).f0
def ln_at (xs : List S56) (i : Nat) : Int := (xs.getD i z56).f1
def barAt (xs : List S56) (i : Nat) : Bool := inB (bt_at xs i) 1 16 && inB (ln_at xs i) 100 5000
def isScore (xs : List S56) : Bool := allF (barAt xs) 0 xs.length && inB (xs.length : Int) 1 20
theorem rd_bar (xs : List S56) (i : Nat) : rd_T56 xs (i : Int) = xs.getD i z56 := by unfold rd_T56; rw [Int.toNat_natCast]
theorem spec_score (xs : List S56) (hx : xs.length ≤ 4000000) (k : Nat) (hk : xs.length < k) : spec_IsScore.f k xs = some (isScore xs) := by
 refine all_loop (f := fun k i => spec_IsScore.l0 k xs (i : Int)) xs.length (fun k i hi => ?_) (fun k => ?_) xs.length k 0 (by omega) (by omega) (by omega)
 ·show spec_IsScore.l0 (k + 1) xs i = _
  simp only [spec_IsScore.l0, In_eq, Option.bind_some]
  rw [if_pos (by omega), if_pos (by omega), w64 (by omega), rd_bar]
  unfold barAt bt_at ln_at
  cases inB (xs.getD i z56).f0 1 16 <;> cases inB (xs.getD i z56).f1 100 5000 <;> rfl
 ·show spec_IsScore.l0 (k + 1) xs _ = _
  simp only [spec_IsScore.l0, In_eq, Option.bind_some]
  rw [if_neg (by omega)]
theorem impl_score (xs : List S56) (hx : xs.length ≤ 4000000) (k : Nat) (hk : xs.length + 1 < k) : impl_IsScore.f k xs = some (isScore xs) := by
 obtain ⟨k, rfl⟩ : ∃ m, k = m + 1 := ⟨k - 1, by omega⟩
 unfold impl_IsScore.f isScore
 simp only [impl_IsScore.j0]
 by_cases h1 : (xs.length : Int) < 1
 ·rw [if_pos h1, if_pos trivial, inB_false.2 (by omega), Bool.and_false]
 ·rw [if_neg h1]
  by_cases h2 : (xs.length : Int) > 20
  ·rw [if_pos (decide_eq_true h2), inB_false.2 (by omega), Bool.and_false]
  ·rw [if_neg (by simpa using h2), inB_true.2 (by omega)]
   refine all_loop (f := fun k i => impl_IsScore.l0 k xs (xs.length : Int) (i : Int)) xs.length (fun k i hi => ?_) (fun k => ?_) xs.length k 0 (by omega) (by omega) (by omega)
   ·show impl_IsScore.l0 (k + 1) xs (xs.length : Int) i = _
    simp only [impl_IsScore.l0, Wi_eq, Option.bind_some]
    rw [if_pos (by omega), if_pos (by omega), if_pos (by omega), w64 (by omega), rd_bar]
    unfold barAt bt_at ln_at
    cases inB (xs.getD i z56).f0 1 16 <;> cases inB (xs.getD i z56).f1 100 5000 <;> rfl
   ·show impl_IsScore.l0 (k + 1) xs (xs.length : Int) _ = _
    simp only [impl_IsScore.l0]
    rw [if_neg (by omega)]
theorem isScore_true {xs : List S56} (h : isScore xs = true) : 1 ≤ xs.length ∧ xs.length ≤ 20 ∧ ∀ i, i < xs.length → 1 ≤ bt_at xs i ∧ bt_at xs i ≤ 16 ∧ 100 ≤ ln_at xs i ∧ ln_at xs i ≤ 5000 := by
 unfold isScore at h
 rw [Bool.and_eq_true, allF_true, inB_true] at h
 refine ⟨by omega, by omega, fun i hi => ?_⟩
 have := h.1 i (by omega) (by omega)
 unfold barAt at this
 rw [Bool.and_eq_true, inB_true, inB_true] at this
 omega
def tm (xs : List S56) (i : Nat) : Int := foldF (fun j s => s + bt_at xs j * ln_at xs j) 0 i 0
theorem tm_succ (xs : List S56) (i : Nat) : tm xs (i + 1) = tm xs i + bt_at xs i * ln_at xs i := by
 unfold tm
 rw [foldF_snoc, Nat.zero_add]
theorem prod_le {a b : Int} (h : 1 ≤ a ∧ a ≤ 16 ∧ 100 ≤ b ∧ b ≤ 5000) : 100 ≤ a * b ∧ a * b ≤ 80000 := by
 have h1 : 1 * b ≤ a * b := Int.mul_le_mul_of_nonneg_right h.1 (by omega)
 have h2 : a * b ≤ 16 * b := Int.mul_le_mul_of_nonneg_right h.2.1 (by omega)
 omega
theorem tm_le {xs : List S56} (h : isScore xs = true) : ∀ i, i ≤ xs.length → 0 ≤ tm xs i ∧ tm xs i ≤ 80000 * i
 | 0, _ => by unfold tm foldF; omega
 | i + 1, hi => by
  have h1 := tm_le h i (by omega)
  have h2 := prod_le ((isScore_true h).2.2 i (by omega))
  rw [tm_succ]
  omega
theorem tm_mono {xs : List S56} (h : isScore xs = true) {i : Nat} : ∀ j, i + j ≤ xs.length → tm xs i + 100 * j ≤ tm xs (i + j)
 | 0, _ => by rw [Nat.add_zero]; omega
 | j + 1, hj => by
  have h1 := tm_mono h (i := i) j (by omega)
  have h2 := prod_le ((isScore_true h).2.2 (i + j) (by omega))
  rw [← Nat.add_assoc, tm_succ]
  omega
end Go.Proofs.Ytigkgihnijaefaa.F
namespace Go.Proofs.Ytigkgihnijaefaa.F
open Go.RowKit Go.Proofs.YtigkgihnijaefaaW.PrintWords Go.Proofs.YtigkgihnijaefaaW.PrintLast Go.Proofs.YtigkgihnijaefaaW.PrintMore
set_option linter.unusedVariables false
set_option linter.unusedSimpArgs false
def GoodBars (xs : List S56) : Prop := ∀ x ∈ xs, (2 ≤ x.f0 ∧ x.f0 ≤ 5) ∧ 400 ≤ x.f1 ∧ x.f1 ≤ 999
theorem score_good {c : List Int} (hc : Code c) {a s : Int} (h : St c a s) : ∃ xs a' s', (∀ k, 20 ≤ k → spec_l07Good.f k c a s = some (xs, a', s')) ∧ St c a' s' ∧ 1 ≤ xs.length ∧ xs.length ≤ 6 ∧ GoodBars xs := by
 have loop : ∀ (d : Nat) (n : Int) (xs : List S56) (a s : Int), n = d → GoodBars xs → xs.length + d ≤ 6 → St c a s → ∃ r a' s', (∀ k, d < k → spec_l07Good.l0 k xs n c a s = some (r, a', s')) ∧ St c a' s' ∧ r.length = xs.length + d ∧ GoodBars r := by
  intro d
  induction d with
  | zero =>
   intro n xs a s hn hg hl h
   refine ⟨xs, a, s, fun k hk => ?_, h, rfl, hg⟩
   obtain ⟨k, rfl⟩ : ∃ m, k = m + 1 := ⟨k - 1, by omega⟩
   simp only [spec_l07Good.l0]
   rw [if_neg (by omega)]
  | succ d ih =>
   intro n xs a s hn hg hl h
   obtain ⟨r1, a1, s1, e1, h1, b1, c1⟩ := next_ok hc h 4 (by omega)
   obtain ⟨r2, a2, s2, e2, h2, b2, c2⟩ := next_ok hc h1 600 (by omega)
   obtain ⟨r, a', s', e, h', hr, hg'⟩ := ih (n - 1) (xs ++ [(⟨2 + r1, 400 + r2⟩ : S56)]) a2 s2 (by omega) (by
    intro x hx
    rcases List.mem_append.1 hx with y | y
    ·exact hg x y
    ·rw [List.mem_singleton.1 y]
     exact ⟨by show 2 ≤ 2 + r1 ∧ 2 + r1 ≤ 5; omega, by show 400 ≤ 400 + r2 ∧ 400 + r2 ≤ 999; omega⟩) (by rw [List.length_append]; show xs.length + 1 + d ≤ 6; omega) h2
   refine ⟨r, a', s', fun k hk => ?_, h', by rw [hr, List.length_append]; show xs.length + 1 + d = _; omega, hg'⟩
   obtain ⟨k, rfl⟩ : ∃ m, k = m + 1 := ⟨k - 1, by omega⟩
   simp only [spec_l07Good.l0]
   rw [if_pos (by omega)]
   simp only [e1, e2, Option.bind_some]
   rw [if_pos (by omega), w64 (n := 2 + r1) (by omega), w64 (n := 400 + r2) (by omega), w64 (n := n - 1) (by omega)]
   exact e k (by omega)
 obtain ⟨r1, a1, s1, e1, h1, b1, c1⟩ := next_ok hc h 6 (by omega)
 obtain ⟨r, a', s', e, h', hr, hg⟩ := loop (1 + r1).toNat (1 + r1) [] a1 s1 (by omega) (fun x hx => absurd hx (by simp)) (by show 0 + _ ≤ 6; omega) h1
 have hr' : r.length = (1 + r1).toNat := by rw [hr]; show 0 + _ = _; omega
 refine ⟨r, a', s', fun k hk => ?_, h', by omega, by omega, hg⟩
 unfold spec_l07Good.f
 rw [e1]
 simp only [Option.bind_some]
 rw [w64 (n := 1 + r1) (by omega)]
 exact e k (by omega)
theorem score_draw {c : List Int} (hc : Code c) {a s : Int} (h : St c a s) : ∃ xs a' s', (∀ k, 60 ≤ k → spec_l07Draw.f k c a s = some (xs, a', s')) ∧ St c a' s' ∧ xs.length ≤ 30 := by
 have loop : ∀ (d : Nat) (xs : List S56) (a s : Int), 21 - xs.length = d → xs.length ≤ 30 → St c a s → ∃ r a' s', (∀ k, d < k → spec_l07Draw.l0 k xs c a s = some (r, a', s')) ∧ St c a' s' ∧ r.length ≤ 30 := by
  intro d
  induction d with
  | zero =>
   intro xs a s hd hx h
   obtain ⟨r1, a1, s1, e1, h1, b1, b2⟩ := next_ok hc h 2 (by omega)
   refine ⟨xs, a1, s1, fun k hk => ?_, h1, hx⟩
   obtain ⟨k, rfl⟩ : ∃ m, k = m + 1 := ⟨k - 1, by omega⟩
   simp only [spec_l07Draw.l0, e1, Option.bind_some]
   rw [w64 (n := 20 + r1) (by omega), if_neg (by omega)]
  | succ d ih =>
   intro xs a s hd hx h
   obtain ⟨r1, a1, s1, e1, h1, b1, b2⟩ := next_ok hc h 2 (by omega)
   by_cases c1 : (xs.length : Int) < 20 + r1
   ·obtain ⟨r, a', s', e, h', hl⟩ := ih (xs ++ [(⟨4, 500⟩ : S56)]) a1 s1 (by rw [List.length_append]; show 21 - (xs.length + 1) = d; omega) (by rw [List.length_append]; show xs.length + 1 ≤ 30; omega) h1
    refine ⟨r, a', s', fun k hk => ?_, h', hl⟩
    obtain ⟨k, rfl⟩ : ∃ m, k = m + 1 := ⟨k - 1, by omega⟩
    simp only [spec_l07Draw.l0, e1, Option.bind_some]
    rw [w64 (n := 20 + r1) (by omega), if_pos c1, if_pos (by omega)]
    exact e k (by omega)
   ·refine ⟨xs, a1, s1, fun k hk => ?_, h1, hx⟩
    obtain ⟨k, rfl⟩ : ∃ m, k = m + 1 := ⟨k - 1, by omega⟩
    simp only [spec_l07Draw.l0, e1, Option.bind_some]
    rw [w64 (n := 20 + r1) (by omega), if_neg c1]
 obtain ⟨xs, a1, s1, e1, h1, l1, l2, hg⟩ := score_good hc h
 obtain ⟨r2, a2, s2, e2, h2, b2, c2⟩ := next_ok hc h1 40 (by omega)
 by_cases d0 : r2 = 0
 ·obtain ⟨r3, a3, s3, e3, h3, _⟩ := pick_ok hc h2 [0, 1, 16, 17] (by simp) (by simp)
  refine ⟨xs.set (0 : Int).toNat (⟨r3, (rd_T56 xs 0).f1⟩ : S56), a3, s3, fun k hk => ?_, h3, by rw [List.length_set]; omega⟩
  unfold spec_l07Draw.f
  simp only [e1 k (by omega), e2, e3, Option.bind_some]
  rw [if_pos d0, if_pos (by omega)]
 by_cases d1 : r2 = 1
 ·obtain ⟨r3, a3, s3, e3, h3, _⟩ := pick_ok hc h2 [99, 100, 5000, 5001] (by simp) (by simp)
  refine ⟨xs.set (0 : Int).toNat (⟨(rd_T56 xs 0).f0, r3⟩ : S56), a3, s3, fun k hk => ?_, h3, by rw [List.length_set]; omega⟩
  unfold spec_l07Draw.f
  simp only [e1 k (by omega), e2, e3, Option.bind_some]
  rw [if_neg d0, if_pos d1, if_pos (by omega)]
 by_cases d2 : r2 = 2
 ·obtain ⟨r, a', s', e, h', hl⟩ := loop (21 - xs.length) xs a2 s2 rfl (by omega) h2
  refine ⟨r, a', s', fun k hk => ?_, h', hl⟩
  unfold spec_l07Draw.f
  simp only [e1 k (by omega), e2, Option.bind_some]
  rw [if_neg d0, if_neg d1, if_pos d2]
  exact e k (by omega)
 by_cases d3 : r2 = 3
 ·refine ⟨xs.take (0 : Int).toNat, a2, s2, fun k hk => ?_, h2, Nat.zero_le _⟩
  unfold spec_l07Draw.f
  simp only [e1 k (by omega), e2, Option.bind_some]
  rw [if_neg d0, if_neg d1, if_neg d2, if_pos d3, if_pos (by omega)]
 ·refine ⟨xs, a2, s2, fun k hk => ?_, h2, by omega⟩
  unfold spec_l07Draw.f
  simp only [e1 k (by omega), e2, Option.bind_some]
  rw [if_neg d0, if_neg d1, if_neg d2, if_neg d3]
end Go.Proofs.Ytigkgihnijaefaa.F
namespace Go.Proofs.Ytigkgihnijaefaa.F
open Go.RowKit Go.Proofs.YtigkgihnijaefaaW.PrintWords Go.Proofs.YtigkgihnijaefaaW.PrintLast Go.Proofs.YtigkgihnijaefaaW.PrintMore
set_option linter.unusedVariables false
set_option linter.unusedSimpArgs false
theorem wrap_u64 (n : Int) : Go.IntKind.u64.wrap n = n % 18446744073709551616 := by simp [Go.IntKind.wrap, Go.IntKind.bits, Go.IntKind.signed]
theorem mask_ok (x : Int) (h0 : 0 ≤ x) (h1 : x < 2147483648) : 0 ≤ Go.bits .and .u64 x 16777215 ∧ Go.bits .and .u64 x 16777215 ≤ 16777215 := by
 have e := Go.bits_mask .u64 31 (by decide) (fun n a b => by rw [wrap_u64]; exact Int.emod_eq_of_lt a (by omega)) 24 (by decide) x h0 (by omega)
 rw [show (16777215 : Int) = 2 ^ 24 - 1 by decide, e]
 omega
theorem below_ok {c : List Int} (hc : Code c) (i h n : Int) (hi : 0 ≤ i) (hn : 1 ≤ n ∧ n ≤ 4611686018427387904) : ∃ r i' h', laws_dice_below.f c i h n = some (r, i', h') ∧ 0 ≤ i' ∧ 0 ≤ r ∧ r < n := by
 have hl := hc.1
 unfold laws_dice_below.f
 generalize Go.IntKind.u64.wrap (h * 6364136223846793005) + 1442695040888963407 = z
 rw [wrap_u64 z]
 have hb := mask_ok (z % 18446744073709551616 / 8589934592) (by omega) (by omega)
 generalize Go.bits .and .u64 (z % 18446744073709551616 / 8589934592) 16777215 = y at hb ⊢
 have n0 : ¬ n = 0 := by omega
 simp only [if_neg n0]
 by_cases c1 : i < (c.length : Int)
 ·have hr := rd_code hc i
  have p := tmod_nn (a := y + rd c i) (b := n) (by omega) (by omega)
  rw [if_pos c1, if_pos hi, w64 (n := y) (by omega), w64 (n := rd c i) (by omega), w64 (n := y + rd c i) (by omega), w64 (n := i + 1) (by omega)]
  exact ⟨_, _, _, rfl, by omega, p.1, p.2⟩
 ·have p := tmod_nn (a := y) (b := n) (by omega) (by omega)
  rw [if_neg c1, w64 (n := y) (by omega)]
  exact ⟨_, _, _, rfl, hi, p.1, p.2⟩
theorem roll_ok {c : List Int} (hc : Code c) (s : Int) : ∃ h, ∀ k, c.length < k → laws_roll.f k c s = some (c, 0, h) := by
 have hl := hc.1
 have loop : ∀ (d i : Nat) (h : Int), c.length - i = d → i ≤ c.length → ∃ h', ∀ k, d < k → laws_roll.l0 k c (i : Int) c 0 h = some (c, 0, h') := by
  intro d
  induction d with
  | zero =>
   intro i h hd hi
   refine ⟨h, fun k hk => ?_⟩
   obtain ⟨k, rfl⟩ : ∃ m, k = m + 1 := ⟨k - 1, by omega⟩
   simp only [laws_roll.l0]
   rw [if_neg (by omega)]
  | succ d ih =>
   intro i h hd hi
   obtain ⟨h', e⟩ := ih (i + 1) (Go.IntKind.u64.wrap ((Go.IntKind.u64.wrap ((Go.IntKind.u64.wrap (h * 1099511628211)) + (Go.IntKind.u64.wrap (rd c i)))) + 3)) (by omega) (by omega)
   refine ⟨h', fun k hk => ?_⟩
   obtain ⟨k, rfl⟩ : ∃ m, k = m + 1 := ⟨k - 1, by omega⟩
   simp only [laws_roll.l0]
   rw [if_pos (by omega), if_pos (by omega), w64 (n := (i : Int) + 1) (by omega)]
   exact e k (by omega)
 obtain ⟨h', e⟩ := loop c.length 0 _ rfl (Nat.zero_le _)
 exact ⟨h', fun k hk => e k hk⟩
end Go.Proofs.Ytigkgihnijaefaa.F
namespace Go.Proofs.Ytigkgihnijaefaa.F
open Go.RowKit Go.Proofs.YtigkgihnijaefaaW.PrintWords Go.Proofs.YtigkgihnijaefaaW.PrintLast Go.Proofs.YtigkgihnijaefaaW.PrintMore
set_option linter.unusedVariables false
set_option linter.unusedSimpArgs false
theorem spec_time {xs : List S56} (h : isScore xs = true) (bar : Nat) (hb : bar < xs.length) (beat : Int) (h0 : 0 ≤ beat ∧ beat ≤ 16) (k : Nat) (hk : bar < k) : spec_l07Time.f k xs (bar : Int) beat = some (tm xs bar + beat * ln_at xs bar) := by
 have hs := isScore_true h
 have hl := hs.2.2 bar hb
 have hb2 : 0 ≤ beat * ln_at xs bar ∧ beat * ln_at xs bar ≤ 80000 := by
  have h1 : 0 * ln_at xs bar ≤ beat * ln_at xs bar := Int.mul_le_mul_of_nonneg_right h0.1 (by omega)
  have h2 : beat * ln_at xs bar ≤ 16 * ln_at xs bar := Int.mul_le_mul_of_nonneg_right h0.2 (by omega)
  omega
 refine fold_loop (f := fun k i s => spec_l07Time.l0 k xs (bar : Int) beat s (i : Int)) (step := fun j s => s + bt_at xs j * ln_at xs j) (I := fun i s => s = tm xs i) (e := fun s => some (s + beat * ln_at xs bar)) bar (fun k i s hi hI => ?_) (fun i s hi hI => ?_) (fun k s hI => ?_) bar k 0 0 (by omega) (by omega) rfl hk
 ·have h1 := tm_le h i (by omega)
  have h2 := prod_le (hs.2.2 i (by omega))
  show spec_l07Time.l0 (k + 1) xs (bar : Int) beat s (i : Int) = spec_l07Time.l0 k xs (bar : Int) beat (s + bt_at xs i * ln_at xs i) ((i + 1 : Nat) : Int)
  simp only [spec_l07Time.l0]
  rw [if_pos (by omega), if_pos (by omega), if_pos (by omega), rd_bar]
  show spec_l07Time.l0 k xs (bar : Int) beat (wrap64 (s + wrap64 (bt_at xs i * ln_at xs i))) (wrap64 ((i : Int) + 1)) = _
  rw [w64 (n := bt_at xs i * ln_at xs i) (by omega), w64 (n := s + _) (by omega), w64 (by omega)]
  rfl
 ·show s + bt_at xs i * ln_at xs i = tm xs (i + 1)
  rw [tm_succ, hI]
 ·have h1 := tm_le h bar (by omega)
  show spec_l07Time.l0 (k + 1) xs (bar : Int) beat s (bar : Int) = some (s + beat * ln_at xs bar)
  simp only [spec_l07Time.l0]
  rw [if_neg (by omega), if_pos (by omega), if_pos (by omega), rd_bar]
  show some (wrap64 (s + wrap64 (beat * ln_at xs bar))) = _
  rw [w64 (n := beat * ln_at xs bar) (by omega), w64 (by omega)]
theorem impl_time {xs : List S56} (h : isScore xs = true) (bar : Nat) (beat : Int) (hb : bar < xs.length ∨ (bar = xs.length ∧ beat = 0)) (h0 : 0 ≤ beat ∧ beat ≤ 16) (k : Nat) (hk : bar < k) : impl_beatTime.f k xs (bar : Int) beat = some (tm xs bar + beat * ln_at xs bar) := by
 have hs := isScore_true h
 have hlen : (xs.take bar).length = bar := by rw [List.length_take]; omega
 unfold impl_beatTime.f
 rw [if_pos (by omega), if_pos (by omega), Int.toNat_natCast]
 simp only [Option.bind_some]
 rw [hlen]
 refine fold_loop (f := fun k i s => impl_beatTime.l0 k xs (bar : Int) beat s (xs.take bar) (bar : Int) (i : Int)) (step := fun j s => s + bt_at xs j * ln_at xs j) (I := fun i s => s = tm xs i) (e := fun s => some (s + beat * ln_at xs bar)) bar (fun k i s hi hI => ?_) (fun i s hi hI => ?_) (fun k s hI => ?_) bar k 0 0 (by omega) (by omega) rfl hk
 ·have h1 := tm_le h i (by omega)
  have h2 := prod_le (hs.2.2 i (by omega))
  show impl_beatTime.l0 (k + 1) xs (bar : Int) beat s (xs.take bar) (bar : Int) (i : Int) = impl_beatTime.l0 k xs (bar : Int) beat (s + bt_at xs i * ln_at xs i) (xs.take bar) (bar : Int) ((i + 1 : Nat) : Int)
  simp only [impl_beatTime.l0]
  rw [if_pos (by omega), if_pos (by omega), if_pos (by rw [hlen]; omega), rd_bar, getD_take _ _ _ _ hi]
  show impl_beatTime.l0 k xs (bar : Int) beat (wrap64 (s + wrap64 (bt_at xs i * ln_at xs i))) (xs.take bar) (bar : Int) (wrap64 ((i : Int) + 1)) = _
  rw [w64 (n := bt_at xs i * ln_at xs i) (by omega), w64 (n := s + _) (by omega), w64 (by omega)]
  rfl
 ·show s + bt_at xs i * ln_at xs i = tm xs (i + 1)
  rw [tm_succ, hI]
 ·have h1 := tm_le h bar (by omega)
  show impl_beatTime.l0 (k + 1) xs (bar : Int) beat s (xs.take bar) (bar : Int) (bar : Int) = some (s + beat * ln_at xs bar)
  simp only [impl_beatTime.l0]
  rw [if_neg (by omega)]
  by_cases hp : beat > 0
  ·have hlt : bar < xs.length := by omega
   have hl := hs.2.2 bar hlt
   have hb2 : 0 ≤ beat * ln_at xs bar ∧ beat * ln_at xs bar ≤ 80000 := by
    have h1 : 0 * ln_at xs bar ≤ beat * ln_at xs bar := Int.mul_le_mul_of_nonneg_right h0.1 (by omega)
    have h2 : beat * ln_at xs bar ≤ 16 * ln_at xs bar := Int.mul_le_mul_of_nonneg_right h0.2 (by omega)
    omega
   rw [if_pos hp, if_pos (by omega), if_pos (by omega), rd_bar]
   show some (wrap64 (s + wrap64 (beat * ln_at xs bar))) = _
   rw [w64 (n := beat * ln_at xs bar) (by omega), w64 (by omega)]
  ·have e : beat = 0 := by omega
   rw [if_neg hp, e, Int.zero_mul, Int.add_zero]
end Go.Proofs.Ytigkgihnijaefaa.F
namespace Go.Proofs.Ytigkgihnijaefaa.F
open Go.RowKit Go.Proofs.YtigkgihnijaefaaW.PrintWords Go.Proofs.YtigkgihnijaefaaW.PrintLast Go.Proofs.YtigkgihnijaefaaW.PrintMore
set_option linter.unusedVariables false
set_option linter.unusedSimpArgs false
theorem index_eq (a n : Int) : impl_isIndex.f a n = some (inB a 0 (wrap64 (n - 1))) := by
 unfold impl_isIndex.f
 simp only [Wi_eq, Option.bind_some]
end Go.Proofs.Ytigkgihnijaefaa.F
namespace Go.Proofs.Ytigkgihnijaefaa.F
open Go.RowKit Go.Proofs.YtigkgihnijaefaaW.PrintWords Go.Proofs.YtigkgihnijaefaaW.PrintLast Go.Proofs.YtigkgihnijaefaaW.PrintMore
set_option linter.unusedVariables false
set_option linter.unusedSimpArgs false
def hasBeat (xs : List S56) (bar beat : Int) : Bool := inB bar 0 ((xs.length : Int) - 1) && inB beat 0 (bt_at xs bar.toNat - 1)
theorem hasBeat_true {xs : List S56} {bar beat : Int} (h : hasBeat xs bar beat = true) : ∃ b : Nat, bar = b ∧ b < xs.length ∧ 0 ≤ beat ∧ beat ≤ bt_at xs b - 1 := by
 unfold hasBeat at h
 rw [Bool.and_eq_true, inB_true, inB_true] at h
 exact ⟨bar.toNat, by omega, by omega, h.2⟩
theorem spec_has {xs : List S56} (h : isScore xs = true) (bar beat : Int) : spec_l07Has.f xs bar beat = some (hasBeat xs bar beat) := by
 have hs := isScore_true h
 unfold spec_l07Has.f hasBeat
 rw [w64 (n := (xs.length : Int) - 1) (by omega), In_eq]
 simp only [Option.bind_some]
 cases g : inB bar 0 ((xs.length : Int) - 1) with
 | false => rfl
 | true =>
  rw [inB_true] at g
  obtain ⟨b, rfl⟩ : ∃ n : Nat, bar = n := ⟨bar.toNat, by omega⟩
  have hb := hs.2.2 b (by omega)
  rw [if_pos rfl, if_pos (by omega), if_pos (by omega), rd_bar]
  show ((spec_l01In.f beat 0 (wrap64 (bt_at xs b - 1))).bind fun t => some t) = _
  rw [w64 (by omega), In_eq]; rfl
theorem impl_has {xs : List S56} (h : isScore xs = true) (bar beat : Int) : impl_isBeat.f xs bar beat = some (hasBeat xs bar beat) := by
 have hs := isScore_true h
 unfold impl_isBeat.f hasBeat
 rw [index_eq, w64 (n := (xs.length : Int) - 1) (by omega)]
 simp only [Option.bind_some]
 cases g : inB bar 0 ((xs.length : Int) - 1) with
 | false => rfl
 | true =>
  rw [inB_true] at g
  obtain ⟨b, rfl⟩ : ∃ n : Nat, bar = n := ⟨bar.toNat, by omega⟩
  have hb := hs.2.2 b (by omega)
  rw [if_pos rfl, if_pos (by omega), if_pos (by omega), rd_bar]
  show ((impl_within.f beat 0 (wrap64 (bt_at xs b - 1))).bind fun t => some t) = _
  rw [w64 (by omega), Wi_eq]; rfl
end Go.Proofs.Ytigkgihnijaefaa.F
namespace Go.Proofs.Ytigkgihnijaefaa.F
open Go.RowKit Go.Proofs.YtigkgihnijaefaaW.PrintWords Go.Proofs.YtigkgihnijaefaaW.PrintLast Go.Proofs.YtigkgihnijaefaaW.PrintMore
set_option linter.unusedVariables false
set_option linter.unusedSimpArgs false
theorem beattime_ex (M0 : List S56) (a1 a2 : Int) (hM : M0.length ≤ 1000000) : ∃ q1 q2, Evt (fun k => spec_BeatTime.f k M0 a1 a2 = some (q1, q2)) ∧ Evt (fun k => impl_BeatTime.f k M0 a1 a2 = some (q1, q2)) ∧ (q2 = 0 → isScore M0 = true ∧ ∃ b : Nat, a1 = (b : Int) ∧ b < M0.length ∧ 0 ≤ a2 ∧ a2 < bt_at M0 b ∧ q1 = tm M0 b + a2 * ln_at M0 b) := by
 cases h : isScore M0 with
 | false =>
  refine ⟨0, 1, ⟨M0.length + 2, fun k hk => ?_⟩, ⟨M0.length + 2, fun k hk => ?_⟩, fun x => absurd x (by decide)⟩
  ·show spec_BeatTime.f k M0 a1 a2 = _
   unfold spec_BeatTime.f
   rw [spec_score M0 (by omega) k (by omega), h]; rfl
  ·show impl_BeatTime.f k M0 a1 a2 = _
   unfold impl_BeatTime.f
   rw [impl_score M0 (by omega) k (by omega), h]; rfl
 | true =>
  have hs := isScore_true h
  cases g : hasBeat M0 a1 a2 with
  | false =>
   refine ⟨0, 2, ⟨M0.length + 2, fun k hk => ?_⟩, ⟨M0.length + 2, fun k hk => ?_⟩, fun x => absurd x (by decide)⟩
   ·show spec_BeatTime.f k M0 a1 a2 = _
    unfold spec_BeatTime.f
    rw [spec_score M0 (by omega) k (by omega), h]
    simp only [Option.bind_some]
    rw [spec_has h, g]; rfl
   ·show impl_BeatTime.f k M0 a1 a2 = _
    unfold impl_BeatTime.f
    rw [impl_score M0 (by omega) k (by omega), h]
    simp only [Option.bind_some]
    rw [impl_has h, g]; rfl
  | true =>
   obtain ⟨b, rfl, hb, h2⟩ := hasBeat_true g
   have hb2 := hs.2.2 b hb
   refine ⟨tm M0 b + a2 * ln_at M0 b, 0, ⟨M0.length + 2, fun k hk => ?_⟩, ⟨M0.length + 2, fun k hk => ?_⟩, fun _ => ⟨rfl, b, rfl, hb, by omega, by omega, rfl⟩⟩
   ·show spec_BeatTime.f k M0 b a2 = _
    unfold spec_BeatTime.f
    rw [spec_score M0 (by omega) k (by omega), h]
    simp only [Option.bind_some]
    rw [spec_has h, g, spec_time h b hb a2 (by omega) k (by omega)]; rfl
   ·show impl_BeatTime.f k M0 b a2 = _
    unfold impl_BeatTime.f
    rw [impl_score M0 (by omega) k (by omega), h]
    simp only [Option.bind_some]
    rw [impl_has h, g, impl_time h b a2 (.inl hb) (by omega) k (by omega)]; rfl
theorem impl_btime {xs : List S56} (h : isScore xs = true) (b : Nat) (hb : b < xs.length) (a : Int) (ha : 0 ≤ a ∧ a < bt_at xs b) (k : Nat) (hk : xs.length + 2 ≤ k) : impl_BeatTime.f k xs (b : Int) a = some (tm xs b + a * ln_at xs b, 0) := by
 have hs := isScore_true h
 have hb2 := hs.2.2 b hb
 have g : hasBeat xs (b : Int) a = true := by
  unfold hasBeat
  rw [Bool.and_eq_true, inB_true, inB_true, Int.toNat_natCast]
  omega
 unfold impl_BeatTime.f
 rw [impl_score xs (by omega) k (by omega), h]
 simp only [Option.bind_some]
 rw [impl_has h, g, impl_time h b a (.inl hb) (by omega) k (by omega)]; rfl
end Go.Proofs.Ytigkgihnijaefaa.F
namespace Go.Proofs.Ytigkgihnijaefaa.F
open Go.RowKit Go.Proofs.YtigkgihnijaefaaW.PrintWords Go.Proofs.YtigkgihnijaefaaW.PrintLast Go.Proofs.YtigkgihnijaefaaW.PrintMore
set_option linter.unusedVariables false
set_option linter.unusedSimpArgs false
theorem spec_end {xs : List S56} (h : isScore xs = true) (k : Nat) (hk : xs.length < k) : spec_l07End.f k xs = some (tm xs xs.length) := by
 have hs := isScore_true h
 unfold spec_l07End.f
 have hc : wrap64 ((xs.length : Int) - 1) = ((xs.length - 1 : Nat) : Int) := by rw [w64 (by omega)]; omega
 have hb := hs.2.2 (xs.length - 1) (by omega)
 rw [hc, if_pos (by omega), if_pos (by omega), rd_bar]
 have ht := spec_time h (xs.length - 1) (by omega) (bt_at xs (xs.length - 1)) (by omega) k (by omega)
 unfold bt_at at ht
 rw [ht]
 simp only [Option.bind_some]
 have e := tm_succ xs (xs.length - 1)
 rw [Nat.sub_add_cancel hs.1] at e
 rw [e]; rfl
end Go.Proofs.Ytigkgihnijaefaa.F
namespace Go.Proofs.Ytigkgihnijaefaa.F
open Go.RowKit Go.Proofs.YtigkgihnijaefaaW.PrintWords Go.Proofs.YtigkgihnijaefaaW.PrintLast Go.Proofs.YtigkgihnijaefaaW.PrintMore
set_option linter.unusedVariables false
set_option linter.unusedSimpArgs false
theorem Ti_impl (a : Int) : impl_isTime.f a = some (inB a 0 10000000) := by
 unfold impl_isTime.f
 simp only [Wi_eq, Option.bind_some]
theorem Ti_spec (a : Int) : spec_l01IsTime.f a = some (inB a 0 10000000) := by
 unfold spec_l01IsTime.f
 simp only [In_eq, Option.bind_some]
end Go.Proofs.Ytigkgihnijaefaa.F
namespace Go.Proofs.Ytigkgihnijaefaa.F
open Go.RowKit Go.Proofs.YtigkgihnijaefaaW.PrintWords Go.Proofs.YtigkgihnijaefaaW.PrintLast Go.Proofs.YtigkgihnijaefaaW.PrintMore
set_option linter.unusedVariables false
set_option linter.unusedSimpArgs false
theorem spec_at_loop {xs : List S56} (h : isScore xs = true) {t : Int} (h0 : 0 ≤ t) (h9 : t ≤ 10000000) (bar : Nat) : ∀ (k : Nat), bar < xs.length → t < tm xs (bar + 1) → xs.length + bar < k →
  ∃ b : Nat, spec_BeatAt.l0 k xs t (bar : Int) = some ((b : Int), (t - tm xs b) / ln_at xs b, 0) ∧ b < xs.length ∧ tm xs b ≤ t ∧ t < tm xs (b + 1) := by
 have hs := isScore_true h
 induction bar with
 | zero =>
  intro k hb ht hk
  obtain ⟨k, rfl⟩ : ∃ m, k = m + 1 := ⟨k - 1, by omega⟩
  have hl := hs.2.2 0 hb
  have e0 : tm xs 0 = 0 := rfl
  refine ⟨0, ?_, hb, by omega, ht⟩
  simp only [spec_BeatAt.l0]
  rw [spec_time h 0 hb 0 (by omega) k (by omega), Int.zero_mul, Int.add_zero]
  simp only [Option.bind_some]
  rw [if_neg (by omega), if_pos (by omega), if_pos (by omega), rd_bar]
  show (if ln_at xs 0 = 0 then none else some (((0 : Nat) : Int), wrap64 (Int.tdiv (wrap64 (t - tm xs 0)) (ln_at xs 0)), 0)) = _
  have hd := Int.ediv_le_self (ln_at xs 0) (show 0 ≤ t - tm xs 0 by omega)
  have hn := Int.ediv_nonneg (show 0 ≤ t - tm xs 0 by omega) (show 0 ≤ ln_at xs 0 by omega)
  rw [if_neg (by omega), w64 (n := t - tm xs 0) (by omega), Int.tdiv_eq_ediv_of_nonneg (by omega), w64 (by omega)]
 | succ bar ih =>
  intro k hb ht hk
  obtain ⟨k, rfl⟩ : ∃ m, k = m + 1 := ⟨k - 1, by omega⟩
  have hl := hs.2.2 (bar + 1) hb
  have ht1 := tm_le h (bar + 1) (by omega)
  simp only [spec_BeatAt.l0]
  rw [spec_time h (bar + 1) hb 0 (by omega) k (by omega), Int.zero_mul, Int.add_zero]
  simp only [Option.bind_some]
  by_cases c : tm xs (bar + 1) > t
  ·rw [if_pos c, w64 (by omega), show ((bar + 1 : Nat) : Int) - 1 = (bar : Int) by omega]
   exact ih k (by omega) c (by omega)
  ·refine ⟨bar + 1, ?_, hb, by omega, ht⟩
   rw [if_neg c, if_pos (by omega), if_pos (by omega), rd_bar]
   show (if ln_at xs (bar + 1) = 0 then none else some (((bar + 1 : Nat) : Int), wrap64 (Int.tdiv (wrap64 (t - tm xs (bar + 1))) (ln_at xs (bar + 1))), 0)) = _
   have hd := Int.ediv_le_self (ln_at xs (bar + 1)) (show 0 ≤ t - tm xs (bar + 1) by omega)
   have hn := Int.ediv_nonneg (show 0 ≤ t - tm xs (bar + 1) by omega) (show 0 ≤ ln_at xs (bar + 1) by omega)
   rw [if_neg (by omega), w64 (n := t - tm xs (bar + 1)) (by omega), Int.tdiv_eq_ediv_of_nonneg (by omega), w64 (by omega)]
theorem impl_at_loop {xs : List S56} (h : isScore xs = true) {t : Int} (h0 : 0 ≤ t) (h9 : t ≤ 10000000) (d : Nat) : ∀ (k i : Nat), xs.length - i = d → i ≤ xs.length → tm xs i ≤ t → d < k →
  (t < tm xs xs.length → ∃ b : Nat, impl_BeatAt.l0 k (t - tm xs i) xs (xs.length : Int) (i : Int) = some ((b : Int), (t - tm xs b) / ln_at xs b, 0) ∧ b < xs.length ∧ tm xs b ≤ t ∧ t < tm xs (b + 1)) ∧
  (tm xs xs.length ≤ t → impl_BeatAt.l0 k (t - tm xs i) xs (xs.length : Int) (i : Int) = some (0, 0, 4)) := by
 have hs := isScore_true h
 induction d with
 | zero =>
  intro k i hd hi hti hk
  obtain ⟨k, rfl⟩ : ∃ m, k = m + 1 := ⟨k - 1, by omega⟩
  have e : i = xs.length := by omega
  subst e
  refine ⟨fun hlt => by omega, fun _ => ?_⟩
  simp only [impl_BeatAt.l0]
  rw [if_neg (by omega)]
 | succ d ih =>
  intro k i hd hi hti hk
  obtain ⟨k, rfl⟩ : ∃ m, k = m + 1 := ⟨k - 1, by omega⟩
  have hl := hs.2.2 i (by omega)
  have hp := prod_le hl
  have ht1 := tm_le h i (by omega)
  have hsu := tm_succ xs i
  have step : impl_BeatAt.l0 (k + 1) (t - tm xs i) xs (xs.length : Int) (i : Int) = if t - tm xs i < bt_at xs i * ln_at xs i then some ((i : Int), (t - tm xs i) / ln_at xs i, 0) else impl_BeatAt.l0 k (t - tm xs (i + 1)) xs (xs.length : Int) ((i + 1 : Nat) : Int) := by
   simp only [impl_BeatAt.l0]
   rw [if_pos (by omega), if_pos (by omega), if_pos (by omega), rd_bar]
   show (if t - tm xs i < wrap64 (bt_at xs i * ln_at xs i) then (if ln_at xs i = 0 then none else some ((i : Int), wrap64 (Int.tdiv (t - tm xs i) (ln_at xs i)), 0)) else impl_BeatAt.l0 k (wrap64 (t - tm xs i - wrap64 (bt_at xs i * ln_at xs i))) xs (xs.length : Int) (wrap64 ((i : Int) + 1))) = _
   have hd := Int.ediv_le_self (ln_at xs i) (show 0 ≤ t - tm xs i by omega)
   have hn := Int.ediv_nonneg (show 0 ≤ t - tm xs i by omega) (show 0 ≤ ln_at xs i by omega)
   rw [w64 (n := bt_at xs i * ln_at xs i) (by omega), if_neg (by omega : ¬ ln_at xs i = 0), Int.tdiv_eq_ediv_of_nonneg (by omega), w64 (n := (t - tm xs i) / ln_at xs i) (by omega), w64 (n := t - tm xs i - _) (by omega), w64 (n := (i : Int) + 1) (by omega)]
   rw [show t - tm xs i - bt_at xs i * ln_at xs i = t - tm xs (i + 1) by omega]
   rfl
  rw [step]
  by_cases c : t - tm xs i < bt_at xs i * ln_at xs i
  ·rw [if_pos c]
   refine ⟨fun _ => ⟨i, rfl, by omega, hti, by omega⟩, fun hge => ?_⟩
   have := tm_mono h (i := i + 1) (xs.length - (i + 1)) (by omega)
   rw [show i + 1 + (xs.length - (i + 1)) = xs.length by omega] at this
   omega
  ·rw [if_neg c]
   exact ih k (i + 1) (by omega) (by omega) (by omega) (by omega)
theorem bar_unique {xs : List S56} (h : isScore xs = true) {t : Int} {a b : Nat} (ha : a < xs.length) (hb : b < xs.length) (h1 : tm xs a ≤ t) (h2 : t < tm xs (a + 1)) (h3 : tm xs b ≤ t) (h4 : t < tm xs (b + 1)) : a = b := by
 rcases Nat.lt_trichotomy a b with c | c | c
 ·have := tm_mono h (i := a + 1) (b - (a + 1)) (by omega)
  rw [show a + 1 + (b - (a + 1)) = b by omega] at this
  omega
 ·exact c
 ·have := tm_mono h (i := b + 1) (a - (b + 1)) (by omega)
  rw [show b + 1 + (a - (b + 1)) = a by omega] at this
  omega
theorem beatat_ex (M0 : List S56) (a1 : Int) (hM : M0.length ≤ 1000000) : ∃ q1 q2 q3, Evt (fun k => spec_BeatAt.f k M0 a1 = some (q1, q2, q3)) ∧ Evt (fun k => impl_BeatAt.f k M0 a1 = some (q1, q2, q3)) ∧ (q3 = 0 → isScore M0 = true ∧ ∃ b : Nat, q1 = (b : Int) ∧ q2 = (a1 - tm M0 b) / ln_at M0 b ∧ b < M0.length ∧ tm M0 b ≤ a1 ∧ a1 < tm M0 (b + 1)) := by
 cases h : isScore M0 with
 | false =>
  refine ⟨0, 0, 1, ⟨M0.length + 2, fun k hk => ?_⟩, ⟨M0.length + 2, fun k hk => ?_⟩, fun x => absurd x (by decide)⟩
  ·show spec_BeatAt.f k M0 a1 = _
   unfold spec_BeatAt.f
   rw [spec_score M0 (by omega) k (by omega), h]; rfl
  ·show impl_BeatAt.f k M0 a1 = _
   unfold impl_BeatAt.f
   rw [impl_score M0 (by omega) k (by omega), h]; rfl
 | true =>
  have hs := isScore_true h
  cases g : inB a1 0 10000000 with
  | false =>
   refine ⟨0, 0, 2, ⟨M0.length + 2, fun k hk => ?_⟩, ⟨M0.length + 2, fun k hk => ?_⟩, fun x => absurd x (by decide)⟩
   ·show spec_BeatAt.f k M0 a1 = _
    unfold spec_BeatAt.f
    rw [spec_score M0 (by omega) k (by omega), h, Ti_spec, g]; rfl
   ·show impl_BeatAt.f k M0 a1 = _
    unfold impl_BeatAt.f
    rw [impl_score M0 (by omega) k (by omega), h, Ti_impl, g]; rfl
  | true =>
   have g2 := inB_true.1 g
   have es : ∀ k, M0.length + 2 ≤ k → spec_BeatAt.f k M0 a1 = if a1 ≥ tm M0 M0.length then some (0, 0, 4) else spec_BeatAt.l0 k M0 a1 ((M0.length - 1 : Nat) : Int) := by
    intro k hk
    unfold spec_BeatAt.f
    rw [spec_score M0 (by omega) k (by omega), h, Ti_spec, g]
    simp only [Option.bind_some, if_true]
    rw [spec_end h k (by omega), w64 (n := (M0.length : Int) - 1) (by omega), show (M0.length : Int) - 1 = ((M0.length - 1 : Nat) : Int) by omega]
    rfl
   have ei : ∀ k, M0.length + 2 ≤ k → impl_BeatAt.f k M0 a1 = impl_BeatAt.l0 k (a1 - tm M0 0) M0 (M0.length : Int) ((0 : Nat) : Int) := by
    intro k hk
    unfold impl_BeatAt.f
    rw [impl_score M0 (by omega) k (by omega), h, Ti_impl, g]
    simp only [Option.bind_some, if_true]
    have e0 : tm M0 0 = 0 := rfl
    rw [e0, Int.sub_zero]; rfl
   have hi0 := fun (k : Nat) (hk : M0.length < k) => impl_at_loop h (t := a1) g2.1 g2.2 M0.length k 0 (by omega) (by omega) (show tm M0 0 ≤ a1 from g2.1) hk
   by_cases c : a1 ≥ tm M0 M0.length
   ·refine ⟨0, 0, 4, ⟨M0.length + 2, fun k hk => ?_⟩, ⟨M0.length + 2, fun k hk => ?_⟩, fun x => absurd x (by decide)⟩
    ·show spec_BeatAt.f k M0 a1 = _
     rw [es k hk, if_pos c]
    ·show impl_BeatAt.f k M0 a1 = _
     rw [ei k hk]
     exact (hi0 k (by omega)).2 c
   ·have hlast : a1 < tm M0 (M0.length - 1 + 1) := by rw [Nat.sub_add_cancel hs.1]; omega
    obtain ⟨b, _, hb, hb1, hb2⟩ := spec_at_loop h g2.1 g2.2 (M0.length - 1) (2 * M0.length + 2) (by omega) hlast (by omega)
    refine ⟨(b : Int), (a1 - tm M0 b) / ln_at M0 b, 0, ⟨2 * M0.length + 2, fun k hk => ?_⟩, ⟨M0.length + 2, fun k hk => ?_⟩, fun _ => ⟨rfl, b, rfl, rfl, hb, hb1, hb2⟩⟩
    ·show spec_BeatAt.f k M0 a1 = _
     rw [es k (by omega), if_neg c]
     obtain ⟨b', e', hb', h1', h2'⟩ := spec_at_loop h g2.1 g2.2 (M0.length - 1) k (by omega) hlast (by omega)
     obtain rfl := bar_unique h hb hb' hb1 hb2 h1' h2'
     exact e'
    ·show impl_BeatAt.f k M0 a1 = _
     rw [ei k hk]
     obtain ⟨b', e', hb', h1', h2'⟩ := (hi0 k (by omega)).1 (by omega)
     obtain rfl := bar_unique h hb hb' hb1 hb2 h1' h2'
     exact e'
theorem impl_bat {xs : List S56} (h : isScore xs = true) (b : Nat) (hb : b < xs.length) (a : Int) (ha : 0 ≤ a ∧ a < bt_at xs b) (k : Nat) (hk : xs.length + 2 ≤ k) : impl_BeatAt.f k xs (tm xs b + a * ln_at xs b) = some ((b : Int), a, 0) ∧ tm xs b + a * ln_at xs b < tm xs xs.length := by
 have hs := isScore_true h
 have hl := hs.2.2 b hb
 have t1 := tm_le h b (by omega)
 have t2 := tm_le h (b + 1) (by omega)
 have p0 : 0 ≤ a * ln_at xs b := Int.mul_nonneg ha.1 (by omega)
 have p1 : a * ln_at xs b + ln_at xs b ≤ bt_at xs b * ln_at xs b := by
  have : (a + 1) * ln_at xs b ≤ bt_at xs b * ln_at xs b := Int.mul_le_mul_of_nonneg_right (by omega) (by omega)
  rw [Int.add_mul, Int.one_mul] at this
  exact this
 have su := tm_succ xs b
 have last := tm_mono h (i := b + 1) (xs.length - (b + 1)) (by omega)
 rw [show b + 1 + (xs.length - (b + 1)) = xs.length by omega] at last
 have lt : tm xs b + a * ln_at xs b < tm xs xs.length := by omega
 have g : inB (tm xs b + a * ln_at xs b) 0 10000000 = true := inB_true.2 (by omega)
 refine ⟨?_, lt⟩
 unfold impl_BeatAt.f
 rw [impl_score xs (by omega) k (by omega), h, Ti_impl, g]
 simp only [Option.bind_some, if_true]
 obtain ⟨b', e, hb', h1, h2⟩ := (impl_at_loop h (t := tm xs b + a * ln_at xs b) (by omega) (by omega) xs.length k 0 (by omega) (by omega) (show tm xs 0 ≤ _ from by show (0 : Int) ≤ _; omega) (by omega)).1 lt
 obtain rfl := bar_unique h hb hb' (by omega) (by omega) h1 h2
 have e0 : tm xs 0 = 0 := rfl
 rw [e0, Int.sub_zero] at e
 refine e.trans ?_
 rw [show tm xs b + a * ln_at xs b - tm xs b = a * ln_at xs b by omega, Int.mul_ediv_cancel _ (by omega)]
end Go.Proofs.Ytigkgihnijaefaa.F
namespace Go.Proofs.Ytigkgihnijaefaa.F
open Go.RowKit Go.Proofs.YtigkgihnijaefaaW.PrintWords Go.Proofs.YtigkgihnijaefaaW.PrintLast Go.Proofs.YtigkgihnijaefaaW.PrintMore
attribute [local go_sem] max2_int min2_int max_two min_two max_three min_three max_four min_four   -- for this text's walks alone
set_option linter.unusedVariables false
set_option linter.unusedSimpArgs false
def spec_l01Floor.f (a0 : Int) (a1 : Int) : Option (Int) := if a1 < 0 then (if (wrap64 (-a1)) = 0 then (none) else (if (Int.tmod (wrap64 (-a0)) (wrap64 (-a1))) < 0 then (some (wrap64 ((wrap64 (Int.tdiv (wrap64 (-a0)) (wrap64 (-a1)))) - 1))) else (some (wrap64 (Int.tdiv (wrap64 (-a0)) (wrap64 (-a1))))))) else (if a1 = 0 then (none) else (if (Int.tmod a0 a1) < 0 then (some (wrap64 ((wrap64 (Int.tdiv a0 a1)) - 1))) else (some (wrap64 (Int.tdiv a0 a1)))))
set_option maxHeartbeats 8000000 in
set_option maxRecDepth 100000 in
theorem spec_l01Floor.calls (a0 : Int) (a1 : Int) (r : Int) (w : World) (h : spec_l01Floor.f a0 a1 = some r) :
  Calls Try.prog 60 #[.int .i64 a0, .int .i64 a1] w fun e w' => e = .returned (.int .i64 r) ∧ Drawn0 w w' := by
 have H : (if a1 < 0 then (if (wrap64 (-a1)) = 0 then (none) else (if (Int.tmod (wrap64 (-a0)) (wrap64 (-a1))) < 0 then (some (wrap64 ((wrap64 (Int.tdiv (wrap64 (-a0)) (wrap64 (-a1)))) - 1))) else (some (wrap64 (Int.tdiv (wrap64 (-a0)) (wrap64 (-a1))))))) else (if a1 = 0 then (none) else (if (Int.tmod a0 a1) < 0 then (some (wrap64 ((wrap64 (Int.tdiv a0 a1)) - 1))) else (some (wrap64 (Int.tdiv a0 a1)))))) = some r := h
 clear h
 by_cases c3 : a1 < 0
 ·rw [if_pos c3] at H
  have c3b0 : decide (a1 < 0) = true := decide_eq_true c3
  clear c3
  by_cases c4 : (wrap64 (-a1)) = 0
  ·rw [if_pos c4] at H
   exact absurd H (by simp)
  ·rw [if_neg c4] at H
   have c4b0 : ((wrap64 (-a1)) == 0) = false := beq_eq_false_iff_ne.mpr c4
   have c4b1 : ((wrap64 (-a1)) != 0) = true := bne_iff_ne.mpr c4
   by_cases c5 : (Int.tmod (wrap64 (-a0)) (wrap64 (-a1))) < 0
   ·rw [if_pos c5] at H
    have c5b0 : decide ((Int.tmod (wrap64 (-a0)) (wrap64 (-a1))) < 0) = true := decide_eq_true c5
    clear c5
    obtain rfl := Option.some.inj H
    go_enter Try.func60, Try.ntmps60
    go_wp2
    go_ret
    exact ⟨by first | rfl | (simp; done) | (simp [*]; done), by repeat (first | exact Drawn0.refl _ | apply Drawn0.step)⟩
   ·rw [if_neg c5] at H
    have c5b0 : decide ((Int.tmod (wrap64 (-a0)) (wrap64 (-a1))) < 0) = false := decide_eq_false c5
    clear c5
    obtain rfl := Option.some.inj H
    go_enter Try.func60, Try.ntmps60
    go_wp2
    go_ret
    exact ⟨by first | rfl | (simp; done) | (simp [*]; done), by repeat (first | exact Drawn0.refl _ | apply Drawn0.step)⟩
 ·rw [if_neg c3] at H
  have c3b0 : decide (a1 < 0) = false := decide_eq_false c3
  clear c3
  by_cases c6 : a1 = 0
  ·rw [if_pos c6] at H
   exact absurd H (by simp)
  ·rw [if_neg c6] at H
   have c6b0 : (a1 == 0) = false := beq_eq_false_iff_ne.mpr c6
   have c6b1 : (a1 != 0) = true := bne_iff_ne.mpr c6
   by_cases c7 : (Int.tmod a0 a1) < 0
   ·rw [if_pos c7] at H
    have c7b0 : decide ((Int.tmod a0 a1) < 0) = true := decide_eq_true c7
    clear c7
    obtain rfl := Option.some.inj H
    go_enter Try.func60, Try.ntmps60
    go_wp2
    go_ret
    exact ⟨by first | rfl | (simp; done) | (simp [*]; done), by repeat (first | exact Drawn0.refl _ | apply Drawn0.step)⟩
   ·rw [if_neg c7] at H
    have c7b0 : decide ((Int.tmod a0 a1) < 0) = false := decide_eq_false c7
    clear c7
    obtain rfl := Option.some.inj H
    go_enter Try.func60, Try.ntmps60
    go_wp2
    go_ret
    exact ⟨by first | rfl | (simp; done) | (simp [*]; done), by repeat (first | exact Drawn0.refl _ | apply Drawn0.step)⟩
end Go.Proofs.Ytigkgihnijaefaa.F
namespace Go.Proofs.Ytigkgihnijaefaa.F
open Go.RowKit Go.Proofs.YtigkgihnijaefaaW.PrintWords Go.Proofs.YtigkgihnijaefaaW.PrintLast Go.Proofs.YtigkgihnijaefaaW.PrintMore
attribute [local go_sem] max2_int min2_int max_two min_two max_three min_three max_four min_four   -- for this text's walks alone
set_option linter.unusedVariables false
set_option linter.unusedSimpArgs false
def impl_floorDiv.f (a0 : Int) (a1 : Int) : Option (Int) := if a1 = 0 then (none) else (if (Int.tmod a0 a1) < 0 then (some (wrap64 ((wrap64 (Int.tdiv a0 a1)) - 1))) else (some (wrap64 (Int.tdiv a0 a1))))
set_option maxHeartbeats 8000000 in
set_option maxRecDepth 100000 in
theorem impl_floorDiv.calls (a0 : Int) (a1 : Int) (r : Int) (w : World) (h : impl_floorDiv.f a0 a1 = some r) :
  Calls Try.prog 59 #[.int .i64 a0, .int .i64 a1] w fun e w' => e = .returned (.int .i64 r) ∧ Drawn0 w w' := by
 have H : (if a1 = 0 then (none) else (if (Int.tmod a0 a1) < 0 then (some (wrap64 ((wrap64 (Int.tdiv a0 a1)) - 1))) else (some (wrap64 (Int.tdiv a0 a1))))) = some r := h
 clear h
 by_cases c3 : a1 = 0
 ·rw [if_pos c3] at H
  exact absurd H (by simp)
 ·rw [if_neg c3] at H
  have c3b0 : (a1 == 0) = false := beq_eq_false_iff_ne.mpr c3
  have c3b1 : (a1 != 0) = true := bne_iff_ne.mpr c3
  by_cases c4 : (Int.tmod a0 a1) < 0
  ·rw [if_pos c4] at H
   have c4b0 : decide ((Int.tmod a0 a1) < 0) = true := decide_eq_true c4
   clear c4
   obtain rfl := Option.some.inj H
   go_enter Try.func59, Try.ntmps59
   go_wp2
   go_ret
   exact ⟨by first | rfl | (simp; done) | (simp [*]; done), by repeat (first | exact Drawn0.refl _ | apply Drawn0.step)⟩
  ·rw [if_neg c4] at H
   have c4b0 : decide ((Int.tmod a0 a1) < 0) = false := decide_eq_false c4
   clear c4
   obtain rfl := Option.some.inj H
   go_enter Try.func59, Try.ntmps59
   go_wp2
   go_ret
   exact ⟨by first | rfl | (simp; done) | (simp [*]; done), by repeat (first | exact Drawn0.refl _ | apply Drawn0.step)⟩
end Go.Proofs.Ytigkgihnijaefaa.F
namespace Go.Proofs.Ytigkgihnijaefaa.F
open Go.RowKit Go.Proofs.YtigkgihnijaefaaW.PrintWords Go.Proofs.YtigkgihnijaefaaW.PrintLast Go.Proofs.YtigkgihnijaefaaW.PrintMore
set_option linter.unusedVariables false
set_option linter.unusedSimpArgs false
theorem prod_nn {a b A B : Int} (ha : 0 ≤ a ∧ a ≤ A) (hb : 0 ≤ b ∧ b ≤ B) : 0 ≤ a * b ∧ a * b ≤ A * B := ⟨Int.mul_nonneg ha.1 hb.1, Int.mul_le_mul ha.2 hb.2 hb.1 (by omega)⟩
end Go.Proofs.Ytigkgihnijaefaa.F
namespace Go.Proofs.Ytigkgihnijaefaa.F
open Go.RowKit Go.Proofs.YtigkgihnijaefaaW.PrintWords Go.Proofs.YtigkgihnijaefaaW.PrintLast Go.Proofs.YtigkgihnijaefaaW.PrintMore
set_option linter.unusedVariables false
set_option linter.unusedSimpArgs false
def hit (xs : List S56) (a b : Int) (i j : Nat) : Int := if a ≤ tm xs i + (j : Int) * ln_at xs i ∧ tm xs i + (j : Int) * ln_at xs i < b then 1 else 0
def cin (xs : List S56) (a b c : Int) (i : Nat) : Nat → Int
 | 0 => c
 | j + 1 => cin xs a b c i j + hit xs a b i j
def cba (xs : List S56) (a b : Int) : Nat → Int
 | 0 => 0
 | i + 1 => cin xs a b (cba xs a b i) i (bt_at xs i).toNat
theorem hit_01 (xs : List S56) (a b : Int) (i j : Nat) : 0 ≤ hit xs a b i j ∧ hit xs a b i j ≤ 1 := by unfold hit; split <;> omega
theorem cin_le (xs : List S56) (a b c : Int) (i : Nat) : ∀ j : Nat, c ≤ cin xs a b c i j ∧ cin xs a b c i j ≤ c + j
 | 0 => by unfold cin; omega
 | j + 1 => by
  have h1 := cin_le xs a b c i j
  have h2 := hit_01 xs a b i j
  unfold cin
  omega
theorem cba_le {xs : List S56} (h : isScore xs = true) (a b : Int) : ∀ i, i ≤ xs.length → 0 ≤ cba xs a b i ∧ cba xs a b i ≤ 16 * i
 | 0, _ => by unfold cba; omega
 | i + 1, hi => by
  have h1 := cba_le h a b i (by omega)
  have h2 := (isScore_true h).2.2 i (by omega)
  have h3 := cin_le xs a b (cba xs a b i) i (bt_at xs i).toNat
  unfold cba
  omega
theorem spec_inner {xs : List S56} (h : isScore xs = true) (a b : Int) (i : Nat) (hi : i < xs.length) (R : Nat) (hR : xs.length ≤ R) (res : Option (Int × Int))
  (hnext : ∀ k, R ≤ k → spec_BeatsBetween.l0 k xs a b (cba xs a b (i + 1)) ((i + 1 : Nat) : Int) = res) (d : Nat) : ∀ (j k : Nat), (bt_at xs i).toNat - j = d → j ≤ (bt_at xs i).toNat → R + d + 1 ≤ k → spec_BeatsBetween.l1 k xs a b (cin xs a b (cba xs a b i) i j) (i : Int) (j : Int) = res := by
 have hs := (isScore_true h).2.2 i hi
 have hc := cba_le h a b i (by omega)
 have hn := (isScore_true h).2.1
 induction d with
 | zero =>
  intro j k hd hj hk
  obtain ⟨k, rfl⟩ : ∃ m, k = m + 1 := ⟨k - 1, by omega⟩
  simp only [spec_BeatsBetween.l1]
  rw [if_pos (by omega), if_pos (by omega), rd_bar]
  show (if (j : Int) < bt_at xs i then _ else _) = _
  rw [if_neg (by omega), w64 (by omega)]
  have e : j = (bt_at xs i).toNat := by omega
  subst e
  exact hnext k (by omega)
 | succ d ih =>
  intro j k hd hj hk
  obtain ⟨k, rfl⟩ : ∃ m, k = m + 1 := ⟨k - 1, by omega⟩
  have hr := ih (j + 1) k (by omega) (by omega) (by omega)
  have h3 := cin_le xs a b (cba xs a b i) i j
  rw [← hr]
  simp only [spec_BeatsBetween.l1]
  rw [if_pos (by omega), if_pos (by omega), rd_bar]
  show (if (j : Int) < bt_at xs i then _ else _) = _
  rw [if_pos (by omega), spec_time h i hi j (by omega) k (by omega), w64 (n := (j : Int) + 1) (by omega), w64 (n := cin xs a b (cba xs a b i) i j + 1) (by omega)]
  simp only [Option.bind_some]
  show _ = spec_BeatsBetween.l1 k xs a b (cin xs a b (cba xs a b i) i j + hit xs a b i j) (i : Int) ((j + 1 : Nat) : Int)
  unfold hit
  by_cases c1 : tm xs i + (j : Int) * ln_at xs i ≥ a
  ·rw [if_pos c1]
   by_cases c2 : tm xs i + (j : Int) * ln_at xs i < b
   ·rw [if_pos c2, if_pos ⟨c1, c2⟩]; rfl
   ·rw [if_neg c2, if_neg (fun z => c2 z.2), Int.add_zero]; rfl
  ·rw [if_neg c1, if_neg (fun z => c1 z.1), Int.add_zero]; rfl
theorem spec_outer {xs : List S56} (h : isScore xs = true) (a b : Int) (d : Nat) : ∀ (i k : Nat), xs.length - i = d → i ≤ xs.length → xs.length + 20 * d + 1 ≤ k → spec_BeatsBetween.l0 k xs a b (cba xs a b i) (i : Int) = some (cba xs a b xs.length, 0) := by
 induction d with
 | zero =>
  intro i k hd hi hk
  obtain ⟨k, rfl⟩ : ∃ m, k = m + 1 := ⟨k - 1, by omega⟩
  simp only [spec_BeatsBetween.l0]
  rw [if_neg (by omega)]
  have e : i = xs.length := by omega
  rw [e]
 | succ d ih =>
  intro i k hd hi hk
  obtain ⟨k, rfl⟩ : ∃ m, k = m + 1 := ⟨k - 1, by omega⟩
  have hs := (isScore_true h).2.2 i (by omega)
  simp only [spec_BeatsBetween.l0]
  rw [if_pos (by omega)]
  exact spec_inner h a b i (by omega) (xs.length + 20 * d + 1) (by omega) _ (fun k' hk' => ih (i + 1) k' (by omega) (by omega) hk') (bt_at xs i).toNat 0 k (by omega) (by omega) (by omega)
theorem mul_succ' (j : Nat) (l : Int) : ((j + 1 : Nat) : Int) * l = (j : Int) * l + l := by rw [Int.natCast_add, Int.add_mul]; omega
theorem impl_inner {xs : List S56} (h : isScore xs = true) (a b : Int) (i : Nat) (hi : i < xs.length) (R : Nat) (res : Option (Int × Int))
  (hnext : ∀ k, R ≤ k → impl_BeatsBetween.l0 k a b (cba xs a b (i + 1)) (tm xs (i + 1)) xs (xs.length : Int) ((i + 1 : Nat) : Int) = res) (d : Nat) : ∀ (j k : Nat), (bt_at xs i).toNat - j = d → j ≤ (bt_at xs i).toNat → R + d + 1 ≤ k →
  impl_BeatsBetween.l1 k a b (cin xs a b (cba xs a b i) i j) (tm xs i + (j : Int) * ln_at xs i) (j : Int) xs (xs.length : Int) (i : Int) (bt_at xs i) (ln_at xs i) = res := by
 have hs := (isScore_true h).2.2 i hi
 have hc := cba_le h a b i (by omega)
 have hn := (isScore_true h).2.1
 have ht := tm_le h i (by omega)
 induction d with
 | zero =>
  intro j k hd hj hk
  obtain ⟨k, rfl⟩ : ∃ m, k = m + 1 := ⟨k - 1, by omega⟩
  simp only [impl_BeatsBetween.l1]
  rw [if_neg (by omega), w64 (by omega)]
  have e : (j : Int) = bt_at xs i := by omega
  have e2 : j = (bt_at xs i).toNat := by omega
  rw [e, ← tm_succ, e2]
  exact hnext k (by omega)
 | succ d ih =>
  intro j k hd hj hk
  obtain ⟨k, rfl⟩ : ∃ m, k = m + 1 := ⟨k - 1, by omega⟩
  have hr := ih (j + 1) k (by omega) (by omega) (by omega)
  have h3 := cin_le xs a b (cba xs a b i) i j
  have hp := prod_nn (a := (j : Int)) (b := ln_at xs i) (A := 16) (B := 5000) (by omega) (by omega)
  rw [← hr]
  simp only [impl_BeatsBetween.l1]
  rw [if_pos (by omega), w64 (n := (j : Int) + 1) (by omega), w64 (n := cin xs a b (cba xs a b i) i j + 1) (by omega), w64 (n := tm xs i + (j : Int) * ln_at xs i + ln_at xs i) (by omega)]
  show _ = impl_BeatsBetween.l1 k a b (cin xs a b (cba xs a b i) i j + hit xs a b i j) (tm xs i + ((j + 1 : Nat) : Int) * ln_at xs i) ((j + 1 : Nat) : Int) xs (xs.length : Int) (i : Int) (bt_at xs i) (ln_at xs i)
  rw [mul_succ', ← Int.add_assoc]
  unfold hit
  by_cases c1 : tm xs i + (j : Int) * ln_at xs i ≥ a
  ·rw [if_pos c1]
   by_cases c2 : tm xs i + (j : Int) * ln_at xs i < b
   ·rw [if_pos c2, if_pos ⟨c1, c2⟩]; rfl
   ·rw [if_neg c2, if_neg (fun z => c2 z.2), Int.add_zero]; rfl
  ·rw [if_neg c1, if_neg (fun z => c1 z.1), Int.add_zero]; rfl
theorem impl_outer {xs : List S56} (h : isScore xs = true) (a b : Int) (d : Nat) : ∀ (i k : Nat), xs.length - i = d → i ≤ xs.length → 20 * d + 1 ≤ k → impl_BeatsBetween.l0 k a b (cba xs a b i) (tm xs i) xs (xs.length : Int) (i : Int) = some (cba xs a b xs.length, 0) := by
 induction d with
 | zero =>
  intro i k hd hi hk
  obtain ⟨k, rfl⟩ : ∃ m, k = m + 1 := ⟨k - 1, by omega⟩
  simp only [impl_BeatsBetween.l0]
  rw [if_neg (by omega)]
  have e : i = xs.length := by omega
  rw [e]
 | succ d ih =>
  intro i k hd hi hk
  obtain ⟨k, rfl⟩ : ∃ m, k = m + 1 := ⟨k - 1, by omega⟩
  have hs := (isScore_true h).2.2 i (by omega)
  simp only [impl_BeatsBetween.l0]
  rw [if_pos (by omega), if_pos (by omega), if_pos (by omega), rd_bar]
  have z := impl_inner h a b i (by omega) (20 * d + 1) _ (fun k' hk' => ih (i + 1) k' (by omega) (by omega) hk') (bt_at xs i).toNat 0 k (by omega) (by omega) (by omega)
  rw [show ((0 : Nat) : Int) * ln_at xs i = 0 by simp, Int.add_zero] at z
  exact z
theorem beatsb_ex (M0 : List S56) (a1 a2 : Int) (hM : M0.length ≤ 1000000) : ∃ q1 q2, Evt (fun k => spec_BeatsBetween.f k M0 a1 a2 = some (q1, q2)) ∧ Evt (fun k => impl_BeatsBetween.f k M0 a1 a2 = some (q1, q2)) ∧ (q2 = 0 → isScore M0 = true ∧ ((0 ≤ a1 ∧ a1 ≤ 10000000) ∧ a1 ≤ a2 ∧ a2 ≤ 10000000) ∧ q1 = cba M0 a1 a2 M0.length) := by
 cases h : isScore M0 with
 | false =>
  refine ⟨0, 1, ⟨M0.length + 2, fun k hk => ?_⟩, ⟨M0.length + 2, fun k hk => ?_⟩, fun x => absurd x (by decide)⟩
  ·show spec_BeatsBetween.f k M0 a1 a2 = _
   unfold spec_BeatsBetween.f
   rw [spec_score M0 (by omega) k (by omega), h]; rfl
  ·show impl_BeatsBetween.f k M0 a1 a2 = _
   unfold impl_BeatsBetween.f
   rw [impl_score M0 (by omega) k (by omega), h]; rfl
 | true =>
  have hs := isScore_true h
  by_cases c : (0 ≤ a1 ∧ a1 ≤ 10000000) ∧ a1 ≤ a2 ∧ a2 ≤ 10000000
  ·refine ⟨cba M0 a1 a2 M0.length, 0, ⟨21 * M0.length + 3, fun k hk => ?_⟩, ⟨21 * M0.length + 3, fun k hk => ?_⟩, fun _ => ⟨rfl, c, rfl⟩⟩
   ·obtain ⟨k, rfl⟩ : ∃ m, k = m + 1 := ⟨k - 1, by omega⟩
    show spec_BeatsBetween.f (k + 1) M0 a1 a2 = _
    unfold spec_BeatsBetween.f
    rw [spec_score M0 (by omega) _ (by omega), h, Ti_spec, In_eq, inB_true.2 c.1, inB_true.2 c.2]
    simp only [Option.bind_some, if_true, spec_BeatsBetween.j0, Bool.not_true]
    rw [if_neg (by decide)]
    exact spec_outer h a1 a2 M0.length 0 k (by omega) (by omega) (by omega)
   ·obtain ⟨k, rfl⟩ : ∃ m, k = m + 1 := ⟨k - 1, by omega⟩
    show impl_BeatsBetween.f (k + 1) M0 a1 a2 = _
    unfold impl_BeatsBetween.f
    rw [impl_score M0 (by omega) _ (by omega), h, Ti_impl, Ti_impl, inB_true.2 c.1, inB_true.2 (by omega)]
    simp only [Option.bind_some, if_true, impl_BeatsBetween.j0]
    rw [if_neg (by rw [decide_eq_true_eq]; omega)]
    exact impl_outer h a1 a2 M0.length 0 k (by omega) (by omega) (by omega)
  ·refine ⟨0, 2, ⟨M0.length + 3, fun k hk => ?_⟩, ⟨M0.length + 3, fun k hk => ?_⟩, fun x => absurd x (by decide)⟩
   ·obtain ⟨k, rfl⟩ : ∃ m, k = m + 1 := ⟨k - 1, by omega⟩
    show spec_BeatsBetween.f (k + 1) M0 a1 a2 = _
    unfold spec_BeatsBetween.f
    rw [spec_score M0 (by omega) _ (by omega), h, Ti_spec, In_eq]
    simp only [Option.bind_some, if_true, spec_BeatsBetween.j0]
    cases g : inB a1 0 10000000 with
    | false => rfl
    | true =>
     rw [inB_true] at g
     rw [inB_false.2 (by omega)]; rfl
   ·obtain ⟨k, rfl⟩ : ∃ m, k = m + 1 := ⟨k - 1, by omega⟩
    show impl_BeatsBetween.f (k + 1) M0 a1 a2 = _
    unfold impl_BeatsBetween.f
    rw [impl_score M0 (by omega) _ (by omega), h, Ti_impl, Ti_impl]
    simp only [Option.bind_some, if_true, impl_BeatsBetween.j0]
    cases g : inB a1 0 10000000 with
    | false => rfl
    | true =>
     rw [inB_true] at g
     rw [if_pos rfl]
     cases g2 : inB a2 0 10000000 with
     | false => rfl
     | true =>
      rw [inB_true] at g2
      rw [if_pos rfl, if_pos (by rw [decide_eq_true_eq]; omega)]
theorem impl_beatsb {xs : List S56} (h : isScore xs = true) {a b : Int} (c : (0 ≤ a ∧ a ≤ 10000000) ∧ a ≤ b ∧ b ≤ 10000000) (k : Nat) (hk : 1000 ≤ k) : impl_BeatsBetween.f k xs a b = some (cba xs a b xs.length, 0) := by
 have hs := isScore_true h
 obtain ⟨k, rfl⟩ : ∃ m, k = m + 1 := ⟨k - 1, by omega⟩
 unfold impl_BeatsBetween.f
 rw [impl_score xs (by omega) _ (by omega), h, Ti_impl, Ti_impl, inB_true.2 c.1, inB_true.2 (by omega)]
 simp only [Option.bind_some, if_true, impl_BeatsBetween.j0]
 rw [if_neg (by rw [decide_eq_true_eq]; omega)]
 exact impl_outer h a b xs.length 0 k (by omega) (by omega) (by omega)
theorem hit_add (xs : List S56) {a m b : Int} (h1 : a ≤ m) (h2 : m ≤ b) (i j : Nat) : hit xs a m i j + hit xs m b i j = hit xs a b i j := by
 unfold hit
 by_cases c1 : a ≤ tm xs i + (j : Int) * ln_at xs i <;> by_cases c2 : tm xs i + (j : Int) * ln_at xs i < m <;> by_cases c3 : tm xs i + (j : Int) * ln_at xs i < b
 ·rw [if_pos ⟨c1, c2⟩, if_neg (fun z => by omega), if_pos ⟨c1, c3⟩]; rfl
 ·omega
 ·rw [if_neg (fun z => c2 z.2), if_pos ⟨by omega, c3⟩, if_pos ⟨c1, c3⟩]; rfl
 ·rw [if_neg (fun z => c2 z.2), if_neg (fun z => c3 z.2), if_neg (fun z => c3 z.2)]; rfl
 ·rw [if_neg (fun z => c1 z.1), if_neg (fun z => by omega), if_neg (fun z => c1 z.1)]; rfl
 ·omega
 ·omega
 ·omega
theorem cin_add (xs : List S56) {a m b : Int} (h1 : a ≤ m) (h2 : m ≤ b) (c d : Int) (i : Nat) : ∀ j, cin xs a m c i j + cin xs m b d i j = cin xs a b (c + d) i j
 | 0 => rfl
 | j + 1 => by
  have e := cin_add xs h1 h2 c d i j
  have e2 := hit_add xs h1 h2 i j
  unfold cin
  omega
theorem cba_add (xs : List S56) {a m b : Int} (h1 : a ≤ m) (h2 : m ≤ b) : ∀ i, cba xs a m i + cba xs m b i = cba xs a b i
 | 0 => rfl
 | i + 1 => by
  unfold cba
  rw [cin_add xs h1 h2, cba_add xs h1 h2 i]
end Go.Proofs.Ytigkgihnijaefaa.F
namespace Go.Proofs.Ytigkgihnijaefaa.F
open Go.RowKit Go.Proofs.YtigkgihnijaefaaW.PrintWords Go.Proofs.YtigkgihnijaefaaW.PrintLast Go.Proofs.YtigkgihnijaefaaW.PrintMore
set_option linter.unusedVariables false
set_option linter.unusedSimpArgs false
theorem impl_send {xs : List S56} (h : isScore xs = true) (k : Nat) (hk : xs.length + 2 ≤ k) : impl_ScoreEnd.f k xs = some (tm xs xs.length, 0) := by
 have hs := isScore_true h
 unfold impl_ScoreEnd.f impl_scoreEnd.f
 rw [impl_score xs (by omega) k (by omega), h]
 simp only [Option.bind_some, if_true]
 rw [impl_time h xs.length 0 (.inr ⟨rfl, rfl⟩) (by omega) k (by omega)]
 simp only [Option.bind_some, Int.zero_mul, Int.add_zero]
end Go.Proofs.Ytigkgihnijaefaa.F
namespace Go.Proofs.Ytigkgihnijaefaa.F
open Go.RowKit Go.Proofs.YtigkgihnijaefaaW.PrintWords Go.Proofs.YtigkgihnijaefaaW.PrintLast Go.Proofs.YtigkgihnijaefaaW.PrintMore
set_option linter.unusedVariables false
set_option linter.unusedSimpArgs false
theorem send_ex (xs : List S56) (hM : xs.length ≤ 1000) : ∃ q1 q2, (∀ k, 2000 ≤ k → spec_ScoreEnd.f k xs = some (q1, q2)) ∧ (∀ k, 2000 ≤ k → impl_ScoreEnd.f k xs = some (q1, q2)) ∧ (isScore xs != (q2 == 0)) = false ∧ (isScore xs = true → q1 = tm xs xs.length) := by
 cases h : isScore xs with
 | false =>
  refine ⟨0, 1, fun k hk => ?_, fun k hk => ?_, rfl, fun x => absurd x (by decide)⟩
  ·unfold spec_ScoreEnd.f
   rw [spec_score xs (by omega) k (by omega), h]; rfl
  ·unfold impl_ScoreEnd.f
   rw [impl_score xs (by omega) k (by omega), h]; rfl
 | true =>
  refine ⟨tm xs xs.length, 0, fun k hk => ?_, fun k hk => impl_send h k (by omega), rfl, fun _ => rfl⟩
  unfold spec_ScoreEnd.f
  rw [spec_score xs (by omega) k (by omega), h]
  simp only [Option.bind_some, if_true]
  rw [spec_end h k (by omega)]
  rfl
theorem fin_ok {xs : List S56} (lx : xs.length ≤ 30) {bar beat t bad e : Int} (ht : bad = 0 → isScore xs = true ∧ ∃ b : Nat, bar = (b : Int) ∧ b < xs.length ∧ 0 ≤ beat ∧ beat < bt_at xs b ∧ t = tm xs b + beat * ln_at xs b) (he : isScore xs = true → e = tm xs xs.length) : ∀ k, 3000 ≤ k → (if bad = 0 then ((impl_BeatAt.f k xs t).bind fun bt462 => (if bt462.2.2 = 0 then (if bt462.1 = bar then (if bt462.2.1 = beat then (some (decide (t < e))) else (some false)) else (some false)) else (some false))) else (some true)) = some true := fun k hk => by
 by_cases c0 : bad = 0
 ·obtain ⟨g1, b, g2, g3, g4, g5, g6⟩ := ht c0
  have q := impl_bat g1 b g3 beat ⟨g4, g5⟩ k (by omega)
  rw [if_pos c0, g6, q.1]
  simp only [Option.bind_some, if_true]
  rw [if_pos g2.symm, he g1, decide_eq_true q.2]
 ·rw [if_neg c0]
theorem j1_ok {c : List Int} (hc : Code c) {xs : List S56} (lx : xs.length ≤ 30) {bar beat t bad e u v n three : Int} (hn : three = 0 → isScore xs = true ∧ ((0 ≤ u ∧ u ≤ 10000000) ∧ u ≤ v ∧ v ≤ 10000000) ∧ n = cba xs u v xs.length)
  (fin : ∀ k, 3000 ≤ k → (if bad = 0 then ((impl_BeatAt.f k xs t).bind fun bt462 => (if bt462.2.2 = 0 then (if bt462.1 = bar then (if bt462.2.1 = beat then (some (decide (t < e))) else (some false)) else (some false)) else (some false))) else (some true)) = some true) (k : Nat) (hk : 10000 ≤ k) : laws_FnBeats.j1 (k + 3) c xs bar beat t bad xs u v n three e = some true := by
 simp only [laws_FnBeats.j1]
 by_cases c0 : three = 0
 ·obtain ⟨g1, g2, g3⟩ := hn c0
  obtain ⟨hh, er⟩ := roll_ok hc 701
  have hl := hc.1
  obtain ⟨r, i1, h1, m1, n1, o1, p1⟩ := below_ok hc 0 hh (v - u + 1) (Int.le_refl _) (by omega)
  rw [if_pos c0, er (k + 2) (by omega)]
  simp only [Option.bind_some]
  rw [w64 (n := v - u) (by omega), w64 (n := v - u + 1) (by omega), m1]
  simp only [Option.bind_some]
  rw [w64 (n := u + r) (by omega), impl_beatsb g1 (a := u) (b := u + r) (by omega) (k + 2) (by omega), impl_beatsb g1 (a := u + r) (b := v) (by omega) (k + 2) (by omega)]
  simp only [Option.bind_some, if_true]
  have b1 := cba_le g1 u (u + r) xs.length (Nat.le_refl _)
  have b2 := cba_le g1 (u + r) v xs.length (Nat.le_refl _)
  have ad := cba_add xs (a := u) (m := u + r) (b := v) (by omega) (by omega) xs.length
  have nz : (cba xs u v xs.length != n) = false := by rw [g3]; simp
  rw [w64 (n := cba xs u (u + r) xs.length + cba xs (u + r) v xs.length) (by omega), ad, nz]
  simp only [laws_FnBeats.j2, Bool.false_eq_true, if_false]
  exact fin (k + 1) (by omega)
 ·rw [if_neg c0]
  exact fin (k + 2) (by omega)
theorem pure_FnBeats : laws_FnBeats.Pure := by
 intro c _ _ hb
 by_cases big : (c.length : Int) > 4096
 ·refine ⟨0, ?_⟩
  unfold laws_FnBeats.f laws_big.f
  simp only [Option.bind_some, decide_eq_true big, if_true]
 have hc : Code c := code_of big hb
 obtain ⟨z, e0, h0⟩ := from_ok hc
 obtain ⟨xs, a1, s1, e1, h1, lx⟩ := score_draw hc h0
 obtain ⟨bar, beat, d1⟩ : ∃ bar beat, ∀ k, 100 ≤ k → spec_DrawBeatTime.f k c = some (xs, bar, beat) := by
  obtain ⟨r2, a2, s2, e2, h2, _⟩ := next_ok hc h1 ((xs.length : Int) + 1) (by omega)
  obtain ⟨r3, a3, s3, e3, h3, _⟩ := next_ok hc h2 24 (by omega)
  obtain ⟨r4, a4, s4, e4, h4, _⟩ := next_ok hc h3 4 (by omega)
  obtain ⟨r5, a5, s5, e5, h5, _⟩ := next_ok hc h4 2 (by omega)
  obtain ⟨r6, a6, s6, e6, h6, _⟩ := next_ok hc h5 6 (by omega)
  obtain ⟨r7, a7, s7, e7, h7, _⟩ := pick_ok hc h6 [r4, r5, r6] (by simp) (by simp)
  refine ⟨wrap64 (r2 - wrap64 (Int.tdiv r3 23)), r7, fun k hk => ?_⟩
  unfold spec_DrawBeatTime.f
  rw [e0 k (by omega), Option.bind_some]
  dsimp only
  rw [e1 k (by omega), Option.bind_some]
  dsimp only
  rw [w64 (n := (xs.length : Int) + 1) (by omega), e2, Option.bind_some]
  dsimp only
  rw [e3, Option.bind_some]
  dsimp only
  rw [e4, Option.bind_some]
  dsimp only
  rw [e5, Option.bind_some]
  dsimp only
  rw [e6, Option.bind_some]
  dsimp only
  rw [e7, Option.bind_some]
 obtain ⟨at_, d2⟩ : ∃ t, ∀ k, 100 ≤ k → spec_DrawBeatAt.f k c = some (xs, t) := by
  obtain ⟨r2, a2, s2, e2, h2, _⟩ := next_ok hc h1 15000 (by omega)
  obtain ⟨r3, a3, s3, e3, h3, _⟩ := next_ok hc h2 5000 (by omega)
  obtain ⟨r4, a4, s4, e4, h4, _⟩ := next_ok hc h3 8000 (by omega)
  obtain ⟨r5, a5, s5, e5, h5, _⟩ := pick_ok hc h4 [r2, r3, 0, 10000000, 10000001, r4] (by simp) (by simp)
  refine ⟨r5, fun k hk => ?_⟩
  unfold spec_DrawBeatAt.f
  simp only [e0 k (by omega), e1 k (by omega), e2, e3, e4, e5, Option.bind_some]
 obtain ⟨u, v, d3⟩ : ∃ u v, ∀ k, 100 ≤ k → spec_DrawBeatsBetween.f k c = some (xs, u, v) := by
  obtain ⟨r2, a2, s2, e2, h2, _⟩ := next_ok hc h1 8000 (by omega)
  obtain ⟨r3, a3, s3, e3, h3, _⟩ := next_ok hc h2 8000 (by omega)
  obtain ⟨r4, a4, s4, e4, h4, _⟩ := next_ok hc h3 500 (by omega)
  obtain ⟨r5, a5, s5, e5, h5, _⟩ := pick_ok hc h4 [r3, 0, r4, -1, 10000000] (by simp) (by simp)
  refine ⟨r2, wrap64 (r2 + r5), fun k hk => ?_⟩
  unfold spec_DrawBeatsBetween.f
  simp only [e0 k (by omega), e1 k (by omega), e2, e3, e4, e5, Option.bind_some]
 obtain ⟨t, bad, ⟨K1, f1⟩, ⟨K2, f2⟩, ht⟩ := beattime_ex xs bar beat (by omega)
 obtain ⟨ba, bb, one, ⟨K3, f3⟩, ⟨K4, f4⟩, hba⟩ := beatat_ex xs at_ (by omega)
 obtain ⟨n, three, ⟨K5, f5⟩, ⟨K6, f6⟩, hn⟩ := beatsb_ex xs u v (by omega)
 obtain ⟨e, six, f7, f8, hsix, he⟩ := send_ex xs (by omega)
 obtain ⟨k, hk⟩ : ∃ k, k = K1 + K2 + K3 + K4 + K5 + K6 + 10000 := ⟨_, rfl⟩
 refine ⟨k + 4, ?_⟩
 have j1 := j1_ok hc lx (bar := bar) (beat := beat) (t := t) (bad := bad) (e := e) (u := u) (v := v) (n := n) (three := three) hn (fin_ok lx ht he) k (by omega)
 unfold laws_FnBeats.f laws_big.f
 simp only [Option.bind_some, decide_eq_false big, Bool.false_eq_true, if_false, d1 (k + 4) (by omega), d2 (k + 4) (by omega), d3 (k + 4) (by omega), show spec_BeatTime.f (k + 4) xs bar beat = _ from f1 (k + 4) (by omega), show impl_BeatTime.f (k + 4) xs bar beat = _ from f2 (k + 4) (by omega), show spec_BeatAt.f (k + 4) xs at_ = _ from f3 (k + 4) (by omega), show impl_BeatAt.f (k + 4) xs at_ = _ from f4 (k + 4) (by omega), show spec_BeatsBetween.f (k + 4) xs u v = _ from f5 (k + 4) (by omega), show impl_BeatsBetween.f (k + 4) xs u v = _ from f6 (k + 4) (by omega), f7 (k + 4) (by omega), f8 (k + 4) (by omega), if_true, impl_score xs (by omega) (k + 4) (by omega), hsix]
 show laws_FnBeats.j0 (k + 3 + 1) c xs bar beat t bad xs at_ ba bb one xs u v n three e false = _
 simp only [laws_FnBeats.j0, Bool.false_eq_true, if_false]
 by_cases c0 : one = 0
 ·obtain ⟨g1, b, g2, g3, g4, g5, g6⟩ := hba c0
  have hl := (isScore_true g1).2.2 b g4
  have su := tm_succ xs b
  have q0 : 0 ≤ (at_ - tm xs b) / ln_at xs b := Int.ediv_nonneg (by omega) (by omega)
  have q1 : (at_ - tm xs b) / ln_at xs b < bt_at xs b := Int.ediv_lt_of_lt_mul (by omega) (by omega)
  have q2 : (at_ - tm xs b) / ln_at xs b * ln_at xs b ≤ at_ - tm xs b := Int.ediv_mul_le _ (by omega)
  rw [if_pos c0, g2, g3, impl_btime g1 b g4 _ ⟨q0, q1⟩ (k + 3) (by omega)]
  simp only [Option.bind_some, if_true]
  rw [if_neg (by omega)]
  exact j1
 ·rw [if_neg c0]
  exact j1
end Go.Proofs.Ytigkgihnijaefaa.F
namespace Go.Proofs.Ytigkgihnijaefaa.Pure
theorem FnBeats : Go.Proofs.Ytigkgihnijaefaa.F.laws_FnBeats.Pure := Go.Proofs.Ytigkgihnijaefaa.F.pure_FnBeats
end Go.Proofs.Ytigkgihnijaefaa.Pure
namespace Go.Proofs.Ytigkgihnijaefaa.F
end Go.Proofs.Ytigkgihnijaefaa.F
