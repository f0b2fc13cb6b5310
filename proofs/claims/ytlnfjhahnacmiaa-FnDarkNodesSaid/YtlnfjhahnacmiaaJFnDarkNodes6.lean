import Derived.Test.YtlnfjhahnacmiaaJFnDarkNodes5
import Derived.Below
import Derived.Deep.Draws
import Derived.Deep.AppendLies
import Derived.Maps.AppendAt
import Derived.OwnWalk
import Derived.Laws.BytesArg
import Derived.Laws.MakeOwn
import Derived.Laws.OwnMore
import Derived.Tactics
import Derived.Lib.ConvBytes
import Derived.Laws.Slices
import Derived.WalkKit
import Derived.KernelRfl
import Derived.RowKit3
import Derived.Deep.LoopGhost
import Derived.Deep.QuietTactic
import Derived.BigQuiet
import Derived.WideLaws
import Derived.Deep.DeepCutAuto
import Derived.Deep.CutBlock
import Derived.Deep.RegionHeld3
import Derived.Lib.AppendStr
import Derived.ArgAppend
import Derived.Laws.IdiomCopy
import Derived.RowKit
import Derived.OrdersHeld
import Derived.Laws.BitsLemmas
import Derived.Laws.StructEq
import Derived.Test.YtlnfjhahnacmiaaProg
namespace Go.Proofs.Ytlnfjhahnacmiaa.F
open Go.RowKit Go.Proofs.YtlnfjhahnacmiaaW.PrintWords Go.Proofs.YtlnfjhahnacmiaaW.PrintLast Go.Proofs.YtlnfjhahnacmiaaW.PrintMore
attribute [local go_sem] max2_int min2_int max_two min_two max_three min_three max_four min_four   -- for this text's walks alone
set_option linter.unusedVariables false
set_option linter.unusedSimpArgs false
mutual
def laws_FnDarkNodes.j0 : Nat → Int → List (S39) → List Int → Int → Int → Int → Int → List (S39) → Int → Int → Bool → Int → Int → List (S39) → List (S39) → Int → Bool → Option (Bool)
 | 0, _, _, _, _, _, _, _, _, _, _, _, _, _, _, _, _, _ => none
 | k + 1, x3, x4, x5, x6, x9, x10, x15, x16, x17, x18, x19, x20, x23, x24, x26, x27, x165 => if x165 = true then (some false) else (if x27 = 0 then (if (x26.length : Int) = (wrap64 ((x24.length : Int) - 1)) then ((impl_AreFuses.f k x23 x26).bind fun t722 => (laws_FnDarkNodes.j1 k x3 x4 x5 x6 x9 x10 x15 x16 x17 x18 x19 x20 (!t722))) else (laws_FnDarkNodes.j1 k x3 x4 x5 x6 x9 x10 x15 x16 x17 x18 x19 x20 true)) else (laws_FnDarkNodes.j1 k x3 x4 x5 x6 x9 x10 x15 x16 x17 x18 x19 x20 false))
def laws_FnDarkNodes.j1 : Nat → Int → List (S39) → List Int → Int → Int → Int → Int → List (S39) → Int → Int → Bool → Int → Bool → Option (Bool)
 | 0, _, _, _, _, _, _, _, _, _, _, _, _, _ => none
 | k + 1, x3, x4, x5, x6, x9, x10, x15, x16, x17, x18, x19, x20, x181 => if x181 = true then (some false) else (if x20 = 0 then ((impl_LitBetween.f k x15 x16 x17).bind fun bt723 => ((impl_LitBetween.f k x15 x16 x18).bind fun bt726 => (if bt723.2.2 = 0 then (if bt726.2.2 = 0 then (if (x19 != (decide (bt723.2.1 < bt726.1))) = true then (some false) else (laws_FnDarkNodes.j2 k x3 x4 x5 x6 x9 x10)) else (some false)) else (some false)))) else (laws_FnDarkNodes.j2 k x3 x4 x5 x6 x9 x10))
def laws_FnDarkNodes.j2 : Nat → Int → List (S39) → List Int → Int → Int → Int → Option (Bool)
 | 0, _, _, _, _, _, _ => none
 | k + 1, x3, x4, x5, x6, x9, x10 => laws_FnDarkNodes.l0 k x3 x4 x5 x6 x9 x10 0
def laws_FnDarkNodes.l0 : Nat → Int → List (S39) → List Int → Int → Int → Int → Int → Option (Bool)
 | 0, _, _, _, _, _, _, _ => none
 | k + 1, x3, x4, x5, x6, x9, x10, x36 => if x6 = 0 then (laws_FnDarkNodes.j4 k x3 x4 x5 x6 x9 x10 x36 (decide (x36 < x3))) else (laws_FnDarkNodes.j4 k x3 x4 x5 x6 x9 x10 x36 false)
def laws_FnDarkNodes.j4 : Nat → Int → List (S39) → List Int → Int → Int → Int → Int → Bool → Option (Bool)
 | 0, _, _, _, _, _, _, _, _ => none
 | k + 1, x3, x4, x5, x6, x9, x10, x36, x219 => if x219 = true then ((impl_LitBetween.f k x3 x4 x36).bind fun bt729 => ((laws_hasInt.f k x5 x36).bind fun t732 => (if (t732 != (bt729.2.2 == 4)) = true then (some false) else (if bt729.2.2 = 0 then (if bt729.2.1 > x10 then (some false) else (if bt729.2.1 = x10 then (if x36 < x9 then (some false) else (laws_FnDarkNodes.l0 k x3 x4 x5 x6 x9 x10 (wrap64 (x36 + 1)))) else (laws_FnDarkNodes.l0 k x3 x4 x5 x6 x9 x10 (wrap64 (x36 + 1))))) else (laws_FnDarkNodes.l0 k x3 x4 x5 x6 x9 x10 (wrap64 (x36 + 1))))))) else (some true)
end
def laws_FnDarkNodes.f (k : Nat) (l0 : List Int) : Option (Bool) := (laws_big.f l0).bind fun t678 => (if t678 = true then (some true) else ((spec_DrawDarkNodes.f k l0).bind fun bt679 => ((impl_DarkNodes.f k bt679.1 bt679.2).bind fun bt683 => ((spec_DarkNodes.f k bt679.1 bt679.2).bind fun bt687 => ((impl_LastLit.f k bt679.1 bt679.2).bind fun bt691 => ((spec_LastLit.f k bt679.1 bt679.2).bind fun bt694 => ((spec_DrawSurelyLitBefore.f k l0).bind fun bt697 => ((impl_SurelyLitBefore.f k bt697.1 bt697.2.1 bt697.2.2.1 bt697.2.2.2).bind fun bt703 => ((spec_SurelyLitBefore.f k bt697.1 bt697.2.1 bt697.2.2.1 bt697.2.2.2).bind fun bt705 => ((spec_DrawWithoutFuse.f k l0).bind fun bt707 => ((impl_WithoutFuse.f k bt707.1 bt707.2.1 bt707.2.2).bind fun bt712 => ((spec_WithoutFuse.f k bt707.1 bt707.2.1 bt707.2.2).bind fun bt716 => (if bt683.2 = bt687.2 then ((laws_likeInts.f k bt683.1 bt687.1).bind fun t720 => (if t720 = true then (if bt691.2.2 = bt694.2.2 then (if bt691.1 = bt694.1 then (if bt691.2.1 = bt694.2.1 then (if bt703.2 = bt705.2 then (if (bt703.1 != bt705.1) = true then (laws_FnDarkNodes.j0 k bt679.1 bt679.2 bt683.1 bt683.2 bt691.1 bt691.2.1 bt697.1 bt697.2.1 bt697.2.2.1 bt697.2.2.2 bt703.1 bt703.2 bt707.1 bt707.2.1 bt712.1 bt712.2 true) else (if bt712.2 = bt716.2 then ((laws_likeFuses.f k bt712.1 bt716.1).bind fun t721 => (if t721 = true then (laws_FnDarkNodes.j0 k bt679.1 bt679.2 bt683.1 bt683.2 bt691.1 bt691.2.1 bt697.1 bt697.2.1 bt697.2.2.1 bt697.2.2.2 bt703.1 bt703.2 bt707.1 bt707.2.1 bt712.1 bt712.2 (bt691.2.2 != bt683.2)) else (laws_FnDarkNodes.j0 k bt679.1 bt679.2 bt683.1 bt683.2 bt691.1 bt691.2.1 bt697.1 bt697.2.1 bt697.2.2.1 bt697.2.2.2 bt703.1 bt703.2 bt707.1 bt707.2.1 bt712.1 bt712.2 true))) else (laws_FnDarkNodes.j0 k bt679.1 bt679.2 bt683.1 bt683.2 bt691.1 bt691.2.1 bt697.1 bt697.2.1 bt697.2.2.1 bt697.2.2.2 bt703.1 bt703.2 bt707.1 bt707.2.1 bt712.1 bt712.2 true))) else (laws_FnDarkNodes.j0 k bt679.1 bt679.2 bt683.1 bt683.2 bt691.1 bt691.2.1 bt697.1 bt697.2.1 bt697.2.2.1 bt697.2.2.2 bt703.1 bt703.2 bt707.1 bt707.2.1 bt712.1 bt712.2 true)) else (laws_FnDarkNodes.j0 k bt679.1 bt679.2 bt683.1 bt683.2 bt691.1 bt691.2.1 bt697.1 bt697.2.1 bt697.2.2.1 bt697.2.2.2 bt703.1 bt703.2 bt707.1 bt707.2.1 bt712.1 bt712.2 true)) else (laws_FnDarkNodes.j0 k bt679.1 bt679.2 bt683.1 bt683.2 bt691.1 bt691.2.1 bt697.1 bt697.2.1 bt697.2.2.1 bt697.2.2.2 bt703.1 bt703.2 bt707.1 bt707.2.1 bt712.1 bt712.2 true)) else (laws_FnDarkNodes.j0 k bt679.1 bt679.2 bt683.1 bt683.2 bt691.1 bt691.2.1 bt697.1 bt697.2.1 bt697.2.2.1 bt697.2.2.2 bt703.1 bt703.2 bt707.1 bt707.2.1 bt712.1 bt712.2 true)) else (laws_FnDarkNodes.j0 k bt679.1 bt679.2 bt683.1 bt683.2 bt691.1 bt691.2.1 bt697.1 bt697.2.1 bt697.2.2.1 bt697.2.2.2 bt703.1 bt703.2 bt707.1 bt707.2.1 bt712.1 bt712.2 true))) else (laws_FnDarkNodes.j0 k bt679.1 bt679.2 bt683.1 bt683.2 bt691.1 bt691.2.1 bt697.1 bt697.2.1 bt697.2.2.1 bt697.2.2.2 bt703.1 bt703.2 bt707.1 bt707.2.1 bt712.1 bt712.2 true))))))))))))))
theorem laws_FnDarkNodes.mono_l : ∀ k, (∀ y0 y1 y2 y3 y4 y5 y6 y7 y8 y9 y10 y11 y12 y13 y14 y15 y16, LeO (laws_FnDarkNodes.j0 k y0 y1 y2 y3 y4 y5 y6 y7 y8 y9 y10 y11 y12 y13 y14 y15 y16) (laws_FnDarkNodes.j0 (k + 1) y0 y1 y2 y3 y4 y5 y6 y7 y8 y9 y10 y11 y12 y13 y14 y15 y16)) ∧ (∀ y0 y1 y2 y3 y4 y5 y6 y7 y8 y9 y10 y11 y12, LeO (laws_FnDarkNodes.j1 k y0 y1 y2 y3 y4 y5 y6 y7 y8 y9 y10 y11 y12) (laws_FnDarkNodes.j1 (k + 1) y0 y1 y2 y3 y4 y5 y6 y7 y8 y9 y10 y11 y12)) ∧ (∀ y0 y1 y2 y3 y4 y5, LeO (laws_FnDarkNodes.j2 k y0 y1 y2 y3 y4 y5) (laws_FnDarkNodes.j2 (k + 1) y0 y1 y2 y3 y4 y5)) ∧ (∀ y0 y1 y2 y3 y4 y5 y6, LeO (laws_FnDarkNodes.l0 k y0 y1 y2 y3 y4 y5 y6) (laws_FnDarkNodes.l0 (k + 1) y0 y1 y2 y3 y4 y5 y6)) ∧ (∀ y0 y1 y2 y3 y4 y5 y6 y7, LeO (laws_FnDarkNodes.j4 k y0 y1 y2 y3 y4 y5 y6 y7) (laws_FnDarkNodes.j4 (k + 1) y0 y1 y2 y3 y4 y5 y6 y7))
 | 0 => ⟨fun _ _ _ _ _ _ _ _ _ _ _ _ _ _ _ _ _ r h => by simp [laws_FnDarkNodes.j0] at h, fun _ _ _ _ _ _ _ _ _ _ _ _ _ r h => by simp [laws_FnDarkNodes.j1] at h, fun _ _ _ _ _ _ r h => by simp [laws_FnDarkNodes.j2] at h, fun _ _ _ _ _ _ _ r h => by simp [laws_FnDarkNodes.l0] at h, fun _ _ _ _ _ _ _ _ r h => by simp [laws_FnDarkNodes.j4] at h⟩
 | k + 1 => by
  obtain ⟨ih0, ih1, ih2, ih3, ih4⟩ := laws_FnDarkNodes.mono_l k
  refine ⟨?_, ?_, ?_, ?_, ?_⟩
  ·intro y0 y1 y2 y3 y4 y5 y6 y7 y8 y9 y10 y11 y12 y13 y14 y15 y16
   unfold laws_FnDarkNodes.j0
   repeat' first
   | (with_reducible exact ih0 _ _ _ _ _ _ _ _ _ _ _ _ _ _ _ _ _)
   | (with_reducible exact ih1 _ _ _ _ _ _ _ _ _ _ _ _ _)
   | (with_reducible exact ih2 _ _ _ _ _ _)
   | (with_reducible exact ih3 _ _ _ _ _ _ _)
   | (with_reducible exact ih4 _ _ _ _ _ _ _ _)
   | (with_reducible exact impl_AreFuses.mono _ _ _)
   | (with_reducible exact impl_DarkNodes.mono _ _ _)
   | (with_reducible exact impl_LastLit.mono _ _ _)
   | (with_reducible exact impl_LitBetween.mono _ _ _ _)
   | (with_reducible exact impl_SurelyLitBefore.mono _ _ _ _ _)
   | (with_reducible exact impl_WithoutFuse.mono _ _ _ _)
   | (with_reducible exact laws_hasInt.mono _ _ _)
   | (with_reducible exact laws_likeFuses.mono _ _ _)
   | (with_reducible exact laws_likeInts.mono _ _ _)
   | (with_reducible exact spec_DarkNodes.mono _ _ _)
   | (with_reducible exact spec_DrawDarkNodes.mono _ _)
   | (with_reducible exact spec_DrawSurelyLitBefore.mono _ _)
   | (with_reducible exact spec_DrawWithoutFuse.mono _ _)
   | (with_reducible exact spec_LastLit.mono _ _ _)
   | (with_reducible exact spec_SurelyLitBefore.mono _ _ _ _ _)
   | (with_reducible exact spec_WithoutFuse.mono _ _ _ _)
   | (with_reducible exact LeO.refl _)
   | (with_reducible exact LeO.none _)
   | (with_reducible refine LeO.ite ?_ ?_)
   | (with_reducible refine LeO.bind ?_ (fun _ => ?_))
   | exact ih0 _ _ _ _ _ _ _ _ _ _ _ _ _ _ _ _ _
   | exact ih1 _ _ _ _ _ _ _ _ _ _ _ _ _
   | exact ih2 _ _ _ _ _ _
   | exact ih3 _ _ _ _ _ _ _
   | exact ih4 _ _ _ _ _ _ _ _
   | exact impl_AreFuses.mono _ _ _
   | exact impl_DarkNodes.mono _ _ _
   | exact impl_LastLit.mono _ _ _
   | exact impl_LitBetween.mono _ _ _ _
   | exact impl_SurelyLitBefore.mono _ _ _ _ _
   | exact impl_WithoutFuse.mono _ _ _ _
   | exact laws_hasInt.mono _ _ _
   | exact laws_likeFuses.mono _ _ _
   | exact laws_likeInts.mono _ _ _
   | exact spec_DarkNodes.mono _ _ _
   | exact spec_DrawDarkNodes.mono _ _
   | exact spec_DrawSurelyLitBefore.mono _ _
   | exact spec_DrawWithoutFuse.mono _ _
   | exact spec_LastLit.mono _ _ _
   | exact spec_SurelyLitBefore.mono _ _ _ _ _
   | exact spec_WithoutFuse.mono _ _ _ _
   | exact LeO.none _
   | refine LeO.ite ?_ ?_
   | refine LeO.bind ?_ (fun _ => ?_)
  ·intro y0 y1 y2 y3 y4 y5 y6 y7 y8 y9 y10 y11 y12
   unfold laws_FnDarkNodes.j1
   repeat' first
   | (with_reducible exact ih0 _ _ _ _ _ _ _ _ _ _ _ _ _ _ _ _ _)
   | (with_reducible exact ih1 _ _ _ _ _ _ _ _ _ _ _ _ _)
   | (with_reducible exact ih2 _ _ _ _ _ _)
   | (with_reducible exact ih3 _ _ _ _ _ _ _)
   | (with_reducible exact ih4 _ _ _ _ _ _ _ _)
   | (with_reducible exact impl_AreFuses.mono _ _ _)
   | (with_reducible exact impl_DarkNodes.mono _ _ _)
   | (with_reducible exact impl_LastLit.mono _ _ _)
   | (with_reducible exact impl_LitBetween.mono _ _ _ _)
   | (with_reducible exact impl_SurelyLitBefore.mono _ _ _ _ _)
   | (with_reducible exact impl_WithoutFuse.mono _ _ _ _)
   | (with_reducible exact laws_hasInt.mono _ _ _)
   | (with_reducible exact laws_likeFuses.mono _ _ _)
   | (with_reducible exact laws_likeInts.mono _ _ _)
   | (with_reducible exact spec_DarkNodes.mono _ _ _)
   | (with_reducible exact spec_DrawDarkNodes.mono _ _)
   | (with_reducible exact spec_DrawSurelyLitBefore.mono _ _)
   | (with_reducible exact spec_DrawWithoutFuse.mono _ _)
   | (with_reducible exact spec_LastLit.mono _ _ _)
   | (with_reducible exact spec_SurelyLitBefore.mono _ _ _ _ _)
   | (with_reducible exact spec_WithoutFuse.mono _ _ _ _)
   | (with_reducible exact LeO.refl _)
   | (with_reducible exact LeO.none _)
   | (with_reducible refine LeO.ite ?_ ?_)
   | (with_reducible refine LeO.bind ?_ (fun _ => ?_))
   | exact ih0 _ _ _ _ _ _ _ _ _ _ _ _ _ _ _ _ _
   | exact ih1 _ _ _ _ _ _ _ _ _ _ _ _ _
   | exact ih2 _ _ _ _ _ _
   | exact ih3 _ _ _ _ _ _ _
   | exact ih4 _ _ _ _ _ _ _ _
   | exact impl_AreFuses.mono _ _ _
   | exact impl_DarkNodes.mono _ _ _
   | exact impl_LastLit.mono _ _ _
   | exact impl_LitBetween.mono _ _ _ _
   | exact impl_SurelyLitBefore.mono _ _ _ _ _
   | exact impl_WithoutFuse.mono _ _ _ _
   | exact laws_hasInt.mono _ _ _
   | exact laws_likeFuses.mono _ _ _
   | exact laws_likeInts.mono _ _ _
   | exact spec_DarkNodes.mono _ _ _
   | exact spec_DrawDarkNodes.mono _ _
   | exact spec_DrawSurelyLitBefore.mono _ _
   | exact spec_DrawWithoutFuse.mono _ _
   | exact spec_LastLit.mono _ _ _
   | exact spec_SurelyLitBefore.mono _ _ _ _ _
   | exact spec_WithoutFuse.mono _ _ _ _
   | exact LeO.none _
   | refine LeO.ite ?_ ?_
   | refine LeO.bind ?_ (fun _ => ?_)
  ·intro y0 y1 y2 y3 y4 y5
   unfold laws_FnDarkNodes.j2
   repeat' first
   | (with_reducible exact ih0 _ _ _ _ _ _ _ _ _ _ _ _ _ _ _ _ _)
   | (with_reducible exact ih1 _ _ _ _ _ _ _ _ _ _ _ _ _)
   | (with_reducible exact ih2 _ _ _ _ _ _)
   | (with_reducible exact ih3 _ _ _ _ _ _ _)
   | (with_reducible exact ih4 _ _ _ _ _ _ _ _)
   | (with_reducible exact impl_AreFuses.mono _ _ _)
   | (with_reducible exact impl_DarkNodes.mono _ _ _)
   | (with_reducible exact impl_LastLit.mono _ _ _)
   | (with_reducible exact impl_LitBetween.mono _ _ _ _)
   | (with_reducible exact impl_SurelyLitBefore.mono _ _ _ _ _)
   | (with_reducible exact impl_WithoutFuse.mono _ _ _ _)
   | (with_reducible exact laws_hasInt.mono _ _ _)
   | (with_reducible exact laws_likeFuses.mono _ _ _)
   | (with_reducible exact laws_likeInts.mono _ _ _)
   | (with_reducible exact spec_DarkNodes.mono _ _ _)
   | (with_reducible exact spec_DrawDarkNodes.mono _ _)
   | (with_reducible exact spec_DrawSurelyLitBefore.mono _ _)
   | (with_reducible exact spec_DrawWithoutFuse.mono _ _)
   | (with_reducible exact spec_LastLit.mono _ _ _)
   | (with_reducible exact spec_SurelyLitBefore.mono _ _ _ _ _)
   | (with_reducible exact spec_WithoutFuse.mono _ _ _ _)
   | (with_reducible exact LeO.refl _)
   | (with_reducible exact LeO.none _)
   | (with_reducible refine LeO.ite ?_ ?_)
   | (with_reducible refine LeO.bind ?_ (fun _ => ?_))
   | exact ih0 _ _ _ _ _ _ _ _ _ _ _ _ _ _ _ _ _
   | exact ih1 _ _ _ _ _ _ _ _ _ _ _ _ _
   | exact ih2 _ _ _ _ _ _
   | exact ih3 _ _ _ _ _ _ _
   | exact ih4 _ _ _ _ _ _ _ _
   | exact impl_AreFuses.mono _ _ _
   | exact impl_DarkNodes.mono _ _ _
   | exact impl_LastLit.mono _ _ _
   | exact impl_LitBetween.mono _ _ _ _
   | exact impl_SurelyLitBefore.mono _ _ _ _ _
   | exact impl_WithoutFuse.mono _ _ _ _
   | exact laws_hasInt.mono _ _ _
   | exact laws_likeFuses.mono _ _ _
   | exact laws_likeInts.mono _ _ _
   | exact spec_DarkNodes.mono _ _ _
   | exact spec_DrawDarkNodes.mono _ _
   | exact spec_DrawSurelyLitBefore.mono _ _
   | exact spec_DrawWithoutFuse.mono _ _
   | exact spec_LastLit.mono _ _ _
   | exact spec_SurelyLitBefore.mono _ _ _ _ _
   | exact spec_WithoutFuse.mono _ _ _ _
   | exact LeO.none _
   | refine LeO.ite ?_ ?_
   | refine LeO.bind ?_ (fun _ => ?_)
  ·intro y0 y1 y2 y3 y4 y5 y6
   unfold laws_FnDarkNodes.l0
   repeat' first
   | (with_reducible exact ih0 _ _ _ _ _ _ _ _ _ _ _ _ _ _ _ _ _)
   | (with_reducible exact ih1 _ _ _ _ _ _ _ _ _ _ _ _ _)
   | (with_reducible exact ih2 _ _ _ _ _ _)
   | (with_reducible exact ih3 _ _ _ _ _ _ _)
   | (with_reducible exact ih4 _ _ _ _ _ _ _ _)
   | (with_reducible exact impl_AreFuses.mono _ _ _)
   | (with_reducible exact impl_DarkNodes.mono _ _ _)
   | (with_reducible exact impl_LastLit.mono _ _ _)
   | (with_reducible exact impl_LitBetween.mono _ _ _ _)
   | (with_reducible exact impl_SurelyLitBefore.mono _ _ _ _ _)
   | (with_reducible exact impl_WithoutFuse.mono _ _ _ _)
   | (with_reducible exact laws_hasInt.mono _ _ _)
   | (with_reducible exact laws_likeFuses.mono _ _ _)
   | (with_reducible exact laws_likeInts.mono _ _ _)
   | (with_reducible exact spec_DarkNodes.mono _ _ _)
   | (with_reducible exact spec_DrawDarkNodes.mono _ _)
   | (with_reducible exact spec_DrawSurelyLitBefore.mono _ _)
   | (with_reducible exact spec_DrawWithoutFuse.mono _ _)
   | (with_reducible exact spec_LastLit.mono _ _ _)
   | (with_reducible exact spec_SurelyLitBefore.mono _ _ _ _ _)
   | (with_reducible exact spec_WithoutFuse.mono _ _ _ _)
   | (with_reducible exact LeO.refl _)
   | (with_reducible exact LeO.none _)
   | (with_reducible refine LeO.ite ?_ ?_)
   | (with_reducible refine LeO.bind ?_ (fun _ => ?_))
   | exact ih0 _ _ _ _ _ _ _ _ _ _ _ _ _ _ _ _ _
   | exact ih1 _ _ _ _ _ _ _ _ _ _ _ _ _
   | exact ih2 _ _ _ _ _ _
   | exact ih3 _ _ _ _ _ _ _
   | exact ih4 _ _ _ _ _ _ _ _
   | exact impl_AreFuses.mono _ _ _
   | exact impl_DarkNodes.mono _ _ _
   | exact impl_LastLit.mono _ _ _
   | exact impl_LitBetween.mono _ _ _ _
   | exact impl_SurelyLitBefore.mono _ _ _ _ _
   | exact impl_WithoutFuse.mono _ _ _ _
   | exact laws_hasInt.mono _ _ _
   | exact laws_likeFuses.mono _ _ _
   | exact laws_likeInts.mono _ _ _
   | exact spec_DarkNodes.mono _ _ _
   | exact spec_DrawDarkNodes.mono _ _
   | exact spec_DrawSurelyLitBefore.mono _ _
   | exact spec_DrawWithoutFuse.mono _ _
   | exact spec_LastLit.mono _ _ _
   | exact spec_SurelyLitBefore.mono _ _ _ _ _
   | exact spec_WithoutFuse.mono _ _ _ _
   | exact LeO.none _
   | refine LeO.ite ?_ ?_
   | refine LeO.bind ?_ (fun _ => ?_)
  ·intro y0 y1 y2 y3 y4 y5 y6 y7
   unfold laws_FnDarkNodes.j4
   repeat' first
   | (with_reducible exact ih0 _ _ _ _ _ _ _ _ _ _ _ _ _ _ _ _ _)
   | (with_reducible exact ih1 _ _ _ _ _ _ _ _ _ _ _ _ _)
   | (with_reducible exact ih2 _ _ _ _ _ _)
   | (with_reducible exact ih3 _ _ _ _ _ _ _)
   | (with_reducible exact ih4 _ _ _ _ _ _ _ _)
   | (with_reducible exact impl_AreFuses.mono _ _ _)
   | (with_reducible exact impl_DarkNodes.mono _ _ _)
   | (with_reducible exact impl_LastLit.mono _ _ _)
   | (with_reducible exact impl_LitBetween.mono _ _ _ _)
   | (with_reducible exact impl_SurelyLitBefore.mono _ _ _ _ _)
   | (with_reducible exact impl_WithoutFuse.mono _ _ _ _)
   | (with_reducible exact laws_hasInt.mono _ _ _)
   | (with_reducible exact laws_likeFuses.mono _ _ _)
   | (with_reducible exact laws_likeInts.mono _ _ _)
   | (with_reducible exact spec_DarkNodes.mono _ _ _)
   | (with_reducible exact spec_DrawDarkNodes.mono _ _)
   | (with_reducible exact spec_DrawSurelyLitBefore.mono _ _)
   | (with_reducible exact spec_DrawWithoutFuse.mono _ _)
   | (with_reducible exact spec_LastLit.mono _ _ _)
   | (with_reducible exact spec_SurelyLitBefore.mono _ _ _ _ _)
   | (with_reducible exact spec_WithoutFuse.mono _ _ _ _)
   | (with_reducible exact LeO.refl _)
   | (with_reducible exact LeO.none _)
   | (with_reducible refine LeO.ite ?_ ?_)
   | (with_reducible refine LeO.bind ?_ (fun _ => ?_))
   | exact ih0 _ _ _ _ _ _ _ _ _ _ _ _ _ _ _ _ _
   | exact ih1 _ _ _ _ _ _ _ _ _ _ _ _ _
   | exact ih2 _ _ _ _ _ _
   | exact ih3 _ _ _ _ _ _ _
   | exact ih4 _ _ _ _ _ _ _ _
   | exact impl_AreFuses.mono _ _ _
   | exact impl_DarkNodes.mono _ _ _
   | exact impl_LastLit.mono _ _ _
   | exact impl_LitBetween.mono _ _ _ _
   | exact impl_SurelyLitBefore.mono _ _ _ _ _
   | exact impl_WithoutFuse.mono _ _ _ _
   | exact laws_hasInt.mono _ _ _
   | exact laws_likeFuses.mono _ _ _
   | exact laws_likeInts.mono _ _ _
   | exact spec_DarkNodes.mono _ _ _
   | exact spec_DrawDarkNodes.mono _ _
   | exact spec_DrawSurelyLitBefore.mono _ _
   | exact spec_DrawWithoutFuse.mono _ _
   | exact spec_LastLit.mono _ _ _
   | exact spec_SurelyLitBefore.mono _ _ _ _ _
   | exact spec_WithoutFuse.mono _ _ _ _
   | exact LeO.none _
   | refine LeO.ite ?_ ?_
   | refine LeO.bind ?_ (fun _ => ?_)
theorem laws_FnDarkNodes.mono : ∀ a0 k, LeO (laws_FnDarkNodes.f k a0) (laws_FnDarkNodes.f (k + 1) a0) := by
 intro a0 k
 obtain ⟨ih0, ih1, ih2, ih3, ih4⟩ := laws_FnDarkNodes.mono_l k
 unfold laws_FnDarkNodes.f
 repeat' first
   | (with_reducible exact ih0 _ _ _ _ _ _ _ _ _ _ _ _ _ _ _ _ _)
   | (with_reducible exact ih1 _ _ _ _ _ _ _ _ _ _ _ _ _)
   | (with_reducible exact ih2 _ _ _ _ _ _)
   | (with_reducible exact ih3 _ _ _ _ _ _ _)
   | (with_reducible exact ih4 _ _ _ _ _ _ _ _)
   | (with_reducible exact impl_AreFuses.mono _ _ _)
   | (with_reducible exact impl_DarkNodes.mono _ _ _)
   | (with_reducible exact impl_LastLit.mono _ _ _)
   | (with_reducible exact impl_LitBetween.mono _ _ _ _)
   | (with_reducible exact impl_SurelyLitBefore.mono _ _ _ _ _)
   | (with_reducible exact impl_WithoutFuse.mono _ _ _ _)
   | (with_reducible exact laws_hasInt.mono _ _ _)
   | (with_reducible exact laws_likeFuses.mono _ _ _)
   | (with_reducible exact laws_likeInts.mono _ _ _)
   | (with_reducible exact spec_DarkNodes.mono _ _ _)
   | (with_reducible exact spec_DrawDarkNodes.mono _ _)
   | (with_reducible exact spec_DrawSurelyLitBefore.mono _ _)
   | (with_reducible exact spec_DrawWithoutFuse.mono _ _)
   | (with_reducible exact spec_LastLit.mono _ _ _)
   | (with_reducible exact spec_SurelyLitBefore.mono _ _ _ _ _)
   | (with_reducible exact spec_WithoutFuse.mono _ _ _ _)
   | (with_reducible exact LeO.refl _)
   | (with_reducible exact LeO.none _)
   | (with_reducible refine LeO.ite ?_ ?_)
   | (with_reducible refine LeO.bind ?_ (fun _ => ?_))
   | exact ih0 _ _ _ _ _ _ _ _ _ _ _ _ _ _ _ _ _
   | exact ih1 _ _ _ _ _ _ _ _ _ _ _ _ _
   | exact ih2 _ _ _ _ _ _
   | exact ih3 _ _ _ _ _ _ _
   | exact ih4 _ _ _ _ _ _ _ _
   | exact impl_AreFuses.mono _ _ _
   | exact impl_DarkNodes.mono _ _ _
   | exact impl_LastLit.mono _ _ _
   | exact impl_LitBetween.mono _ _ _ _
   | exact impl_SurelyLitBefore.mono _ _ _ _ _
   | exact impl_WithoutFuse.mono _ _ _ _
   | exact laws_hasInt.mono _ _ _
   | exact laws_likeFuses.mono _ _ _
   | exact laws_likeInts.mono _ _ _
   | exact spec_DarkNodes.mono _ _ _
   | exact spec_DrawDarkNodes.mono _ _
   | exact spec_DrawSurelyLitBefore.mono _ _
   | exact spec_DrawWithoutFuse.mono _ _
   | exact spec_LastLit.mono _ _ _
   | exact spec_SurelyLitBefore.mono _ _ _ _ _
   | exact spec_WithoutFuse.mono _ _ _ _
   | exact LeO.none _
   | refine LeO.ite ?_ ?_
   | refine LeO.bind ?_ (fun _ => ?_)
theorem laws_FnDarkNodes.j0_true (k : Nat) (x3 : Int) (x4 : List (S39)) (x5 : List Int) (x6 : Int) (x9 : Int) (x10 : Int) (x15 : Int) (x16 : List (S39)) (x17 : Int) (x18 : Int) (x19 : Bool) (x20 : Int) (x23 : Int) (x24 : List (S39)) (x26 : List (S39)) (x27 : Int) : ¬ laws_FnDarkNodes.j0 k x3 x4 x5 x6 x9 x10 x15 x16 x17 x18 x19 x20 x23 x24 x26 x27 true = some true := by
 cases k with
 | zero => simp [laws_FnDarkNodes.j0]
 | succ k => simp [laws_FnDarkNodes.j0]
theorem laws_FnDarkNodes.j1_true (k : Nat) (x3 : Int) (x4 : List (S39)) (x5 : List Int) (x6 : Int) (x9 : Int) (x10 : Int) (x15 : Int) (x16 : List (S39)) (x17 : Int) (x18 : Int) (x19 : Bool) (x20 : Int) : ¬ laws_FnDarkNodes.j1 k x3 x4 x5 x6 x9 x10 x15 x16 x17 x18 x19 x20 true = some true := by
 cases k with
 | zero => simp [laws_FnDarkNodes.j1]
 | succ k => simp [laws_FnDarkNodes.j1]
set_option maxHeartbeats 8000000 in
set_option maxRecDepth 100000 in
theorem laws_FnDarkNodes.calls (k : Nat) (A0 : Option Addr) (c0 : Nat) (l0 : List Int) (r : Bool) (w : World) (hr0 : Kd.C (Kd.int .u8) w A0 l0.length l0) (hc0 : l0.length ≤ c0) (h : laws_FnDarkNodes.f k l0 = some r) (hr_ : r = true) :
  Calls Try.prog 5 #[.slice A0 l0.length c0] w fun e w' => e = .returned (.bool r) ∧ Below w.heap.size w w' := by
 have HR_ := Aside0.mk hr_
 clear hr_
 have HR0 := Aside0.mk hr0
 have HC0 := Aside0.mk hc0
 clear hr0 hc0
 have HB := Aside0.mk (Below.refl w.heap.size w)
 have H : ((laws_big.f l0).bind fun t678 => (if t678 = true then (some true) else ((spec_DrawDarkNodes.f k l0).bind fun bt679 => ((impl_DarkNodes.f k bt679.1 bt679.2).bind fun bt683 => ((spec_DarkNodes.f k bt679.1 bt679.2).bind fun bt687 => ((impl_LastLit.f k bt679.1 bt679.2).bind fun bt691 => ((spec_LastLit.f k bt679.1 bt679.2).bind fun bt694 => ((spec_DrawSurelyLitBefore.f k l0).bind fun bt697 => ((impl_SurelyLitBefore.f k bt697.1 bt697.2.1 bt697.2.2.1 bt697.2.2.2).bind fun bt703 => ((spec_SurelyLitBefore.f k bt697.1 bt697.2.1 bt697.2.2.1 bt697.2.2.2).bind fun bt705 => ((spec_DrawWithoutFuse.f k l0).bind fun bt707 => ((impl_WithoutFuse.f k bt707.1 bt707.2.1 bt707.2.2).bind fun bt712 => ((spec_WithoutFuse.f k bt707.1 bt707.2.1 bt707.2.2).bind fun bt716 => (if bt683.2 = bt687.2 then ((laws_likeInts.f k bt683.1 bt687.1).bind fun t720 => (if t720 = true then (if bt691.2.2 = bt694.2.2 then (if bt691.1 = bt694.1 then (if bt691.2.1 = bt694.2.1 then (if bt703.2 = bt705.2 then (if (bt703.1 != bt705.1) = true then (laws_FnDarkNodes.j0 k bt679.1 bt679.2 bt683.1 bt683.2 bt691.1 bt691.2.1 bt697.1 bt697.2.1 bt697.2.2.1 bt697.2.2.2 bt703.1 bt703.2 bt707.1 bt707.2.1 bt712.1 bt712.2 true) else (if bt712.2 = bt716.2 then ((laws_likeFuses.f k bt712.1 bt716.1).bind fun t721 => (if t721 = true then (laws_FnDarkNodes.j0 k bt679.1 bt679.2 bt683.1 bt683.2 bt691.1 bt691.2.1 bt697.1 bt697.2.1 bt697.2.2.1 bt697.2.2.2 bt703.1 bt703.2 bt707.1 bt707.2.1 bt712.1 bt712.2 (bt691.2.2 != bt683.2)) else (laws_FnDarkNodes.j0 k bt679.1 bt679.2 bt683.1 bt683.2 bt691.1 bt691.2.1 bt697.1 bt697.2.1 bt697.2.2.1 bt697.2.2.2 bt703.1 bt703.2 bt707.1 bt707.2.1 bt712.1 bt712.2 true))) else (laws_FnDarkNodes.j0 k bt679.1 bt679.2 bt683.1 bt683.2 bt691.1 bt691.2.1 bt697.1 bt697.2.1 bt697.2.2.1 bt697.2.2.2 bt703.1 bt703.2 bt707.1 bt707.2.1 bt712.1 bt712.2 true))) else (laws_FnDarkNodes.j0 k bt679.1 bt679.2 bt683.1 bt683.2 bt691.1 bt691.2.1 bt697.1 bt697.2.1 bt697.2.2.1 bt697.2.2.2 bt703.1 bt703.2 bt707.1 bt707.2.1 bt712.1 bt712.2 true)) else (laws_FnDarkNodes.j0 k bt679.1 bt679.2 bt683.1 bt683.2 bt691.1 bt691.2.1 bt697.1 bt697.2.1 bt697.2.2.1 bt697.2.2.2 bt703.1 bt703.2 bt707.1 bt707.2.1 bt712.1 bt712.2 true)) else (laws_FnDarkNodes.j0 k bt679.1 bt679.2 bt683.1 bt683.2 bt691.1 bt691.2.1 bt697.1 bt697.2.1 bt697.2.2.1 bt697.2.2.2 bt703.1 bt703.2 bt707.1 bt707.2.1 bt712.1 bt712.2 true)) else (laws_FnDarkNodes.j0 k bt679.1 bt679.2 bt683.1 bt683.2 bt691.1 bt691.2.1 bt697.1 bt697.2.1 bt697.2.2.1 bt697.2.2.2 bt703.1 bt703.2 bt707.1 bt707.2.1 bt712.1 bt712.2 true)) else (laws_FnDarkNodes.j0 k bt679.1 bt679.2 bt683.1 bt683.2 bt691.1 bt691.2.1 bt697.1 bt697.2.1 bt697.2.2.1 bt697.2.2.2 bt703.1 bt703.2 bt707.1 bt707.2.1 bt712.1 bt712.2 true))) else (laws_FnDarkNodes.j0 k bt679.1 bt679.2 bt683.1 bt683.2 bt691.1 bt691.2.1 bt697.1 bt697.2.1 bt697.2.2.1 bt697.2.2.2 bt703.1 bt703.2 bt707.1 bt707.2.1 bt712.1 bt712.2 true))))))))))))))) = some r := h
 clear h
 replace H := Option.bind_eq_some_iff.mp H
 obtain ⟨t678, A20, H⟩ := H
 replace H : (if t678 = true then (some true) else ((spec_DrawDarkNodes.f k l0).bind fun bt679 => ((impl_DarkNodes.f k bt679.1 bt679.2).bind fun bt683 => ((spec_DarkNodes.f k bt679.1 bt679.2).bind fun bt687 => ((impl_LastLit.f k bt679.1 bt679.2).bind fun bt691 => ((spec_LastLit.f k bt679.1 bt679.2).bind fun bt694 => ((spec_DrawSurelyLitBefore.f k l0).bind fun bt697 => ((impl_SurelyLitBefore.f k bt697.1 bt697.2.1 bt697.2.2.1 bt697.2.2.2).bind fun bt703 => ((spec_SurelyLitBefore.f k bt697.1 bt697.2.1 bt697.2.2.1 bt697.2.2.2).bind fun bt705 => ((spec_DrawWithoutFuse.f k l0).bind fun bt707 => ((impl_WithoutFuse.f k bt707.1 bt707.2.1 bt707.2.2).bind fun bt712 => ((spec_WithoutFuse.f k bt707.1 bt707.2.1 bt707.2.2).bind fun bt716 => (if bt683.2 = bt687.2 then ((laws_likeInts.f k bt683.1 bt687.1).bind fun t720 => (if t720 = true then (if bt691.2.2 = bt694.2.2 then (if bt691.1 = bt694.1 then (if bt691.2.1 = bt694.2.1 then (if bt703.2 = bt705.2 then (if (bt703.1 != bt705.1) = true then (laws_FnDarkNodes.j0 k bt679.1 bt679.2 bt683.1 bt683.2 bt691.1 bt691.2.1 bt697.1 bt697.2.1 bt697.2.2.1 bt697.2.2.2 bt703.1 bt703.2 bt707.1 bt707.2.1 bt712.1 bt712.2 true) else (if bt712.2 = bt716.2 then ((laws_likeFuses.f k bt712.1 bt716.1).bind fun t721 => (if t721 = true then (laws_FnDarkNodes.j0 k bt679.1 bt679.2 bt683.1 bt683.2 bt691.1 bt691.2.1 bt697.1 bt697.2.1 bt697.2.2.1 bt697.2.2.2 bt703.1 bt703.2 bt707.1 bt707.2.1 bt712.1 bt712.2 (bt691.2.2 != bt683.2)) else (laws_FnDarkNodes.j0 k bt679.1 bt679.2 bt683.1 bt683.2 bt691.1 bt691.2.1 bt697.1 bt697.2.1 bt697.2.2.1 bt697.2.2.2 bt703.1 bt703.2 bt707.1 bt707.2.1 bt712.1 bt712.2 true))) else (laws_FnDarkNodes.j0 k bt679.1 bt679.2 bt683.1 bt683.2 bt691.1 bt691.2.1 bt697.1 bt697.2.1 bt697.2.2.1 bt697.2.2.2 bt703.1 bt703.2 bt707.1 bt707.2.1 bt712.1 bt712.2 true))) else (laws_FnDarkNodes.j0 k bt679.1 bt679.2 bt683.1 bt683.2 bt691.1 bt691.2.1 bt697.1 bt697.2.1 bt697.2.2.1 bt697.2.2.2 bt703.1 bt703.2 bt707.1 bt707.2.1 bt712.1 bt712.2 true)) else (laws_FnDarkNodes.j0 k bt679.1 bt679.2 bt683.1 bt683.2 bt691.1 bt691.2.1 bt697.1 bt697.2.1 bt697.2.2.1 bt697.2.2.2 bt703.1 bt703.2 bt707.1 bt707.2.1 bt712.1 bt712.2 true)) else (laws_FnDarkNodes.j0 k bt679.1 bt679.2 bt683.1 bt683.2 bt691.1 bt691.2.1 bt697.1 bt697.2.1 bt697.2.2.1 bt697.2.2.2 bt703.1 bt703.2 bt707.1 bt707.2.1 bt712.1 bt712.2 true)) else (laws_FnDarkNodes.j0 k bt679.1 bt679.2 bt683.1 bt683.2 bt691.1 bt691.2.1 bt697.1 bt697.2.1 bt697.2.2.1 bt697.2.2.2 bt703.1 bt703.2 bt707.1 bt707.2.1 bt712.1 bt712.2 true)) else (laws_FnDarkNodes.j0 k bt679.1 bt679.2 bt683.1 bt683.2 bt691.1 bt691.2.1 bt697.1 bt697.2.1 bt697.2.2.1 bt697.2.2.2 bt703.1 bt703.2 bt707.1 bt707.2.1 bt712.1 bt712.2 true))) else (laws_FnDarkNodes.j0 k bt679.1 bt679.2 bt683.1 bt683.2 bt691.1 bt691.2.1 bt697.1 bt697.2.1 bt697.2.2.1 bt697.2.2.2 bt703.1 bt703.2 bt707.1 bt707.2.1 bt712.1 bt712.2 true)))))))))))))) = some r := H
 have A2 := Aside0.mk A20
 clear A20
 by_cases c3 : t678 = true
 ·subst c3
  have H1 : (some true) = some r := by rw [if_pos rfl] at H; exact H
  clear H
  have H := H1
  clear H1
  obtain rfl := Option.some.inj H
  go_enter Try.func5, Try.ntmps5
  go_wp2_with (first | ((with_reducible refine gate_callee (f := 6) rfl ?_); refine goesL_ (some 41) rfl rfl Try.func6 (by kernel_rfl) rfl #[.slice A0 l0.length c0] rfl (by (try simp only [List.map_toArray, List.map_cons, List.map_nil]); first | done | rfl | (simp only [List.length_drop, List.length_take]; rfl)) ?_; (with_reducible refine (laws_big.calls _ _ l0 true _ ?side1 ?side2 A2.out).mono ?_); (case side1 => repeat (first | exact HR0.out | (with_reducible refine Kd.C_alloc ?_ _) | (with_reducible refine Kd.C_drewN ?_ _) | (with_reducible refine Kd.C_drew ?_))); (case side2 => exact HC0.out); rintro e w' ⟨rfl, ⟨nd, rfl⟩⟩; refine ⟨_, rfl, ?_⟩))
  go_ret
  exact ⟨by first | rfl | (simp [errW_none, errW_some] <;> rfl) | (simp [*, errW_none, errW_some] <;> rfl), by repeat (first | (with_reducible first | exact HB.out | apply below_alloc | apply pw_below_drewN | apply below_drew1) | exact HB.out)⟩
 ·replace c3 := Bool.eq_false_iff.mpr c3
  subst c3
  have H1 : ((spec_DrawDarkNodes.f k l0).bind fun bt679 => ((impl_DarkNodes.f k bt679.1 bt679.2).bind fun bt683 => ((spec_DarkNodes.f k bt679.1 bt679.2).bind fun bt687 => ((impl_LastLit.f k bt679.1 bt679.2).bind fun bt691 => ((spec_LastLit.f k bt679.1 bt679.2).bind fun bt694 => ((spec_DrawSurelyLitBefore.f k l0).bind fun bt697 => ((impl_SurelyLitBefore.f k bt697.1 bt697.2.1 bt697.2.2.1 bt697.2.2.2).bind fun bt703 => ((spec_SurelyLitBefore.f k bt697.1 bt697.2.1 bt697.2.2.1 bt697.2.2.2).bind fun bt705 => ((spec_DrawWithoutFuse.f k l0).bind fun bt707 => ((impl_WithoutFuse.f k bt707.1 bt707.2.1 bt707.2.2).bind fun bt712 => ((spec_WithoutFuse.f k bt707.1 bt707.2.1 bt707.2.2).bind fun bt716 => (if bt683.2 = bt687.2 then ((laws_likeInts.f k bt683.1 bt687.1).bind fun t720 => (if t720 = true then (if bt691.2.2 = bt694.2.2 then (if bt691.1 = bt694.1 then (if bt691.2.1 = bt694.2.1 then (if bt703.2 = bt705.2 then (if (bt703.1 != bt705.1) = true then (laws_FnDarkNodes.j0 k bt679.1 bt679.2 bt683.1 bt683.2 bt691.1 bt691.2.1 bt697.1 bt697.2.1 bt697.2.2.1 bt697.2.2.2 bt703.1 bt703.2 bt707.1 bt707.2.1 bt712.1 bt712.2 true) else (if bt712.2 = bt716.2 then ((laws_likeFuses.f k bt712.1 bt716.1).bind fun t721 => (if t721 = true then (laws_FnDarkNodes.j0 k bt679.1 bt679.2 bt683.1 bt683.2 bt691.1 bt691.2.1 bt697.1 bt697.2.1 bt697.2.2.1 bt697.2.2.2 bt703.1 bt703.2 bt707.1 bt707.2.1 bt712.1 bt712.2 (bt691.2.2 != bt683.2)) else (laws_FnDarkNodes.j0 k bt679.1 bt679.2 bt683.1 bt683.2 bt691.1 bt691.2.1 bt697.1 bt697.2.1 bt697.2.2.1 bt697.2.2.2 bt703.1 bt703.2 bt707.1 bt707.2.1 bt712.1 bt712.2 true))) else (laws_FnDarkNodes.j0 k bt679.1 bt679.2 bt683.1 bt683.2 bt691.1 bt691.2.1 bt697.1 bt697.2.1 bt697.2.2.1 bt697.2.2.2 bt703.1 bt703.2 bt707.1 bt707.2.1 bt712.1 bt712.2 true))) else (laws_FnDarkNodes.j0 k bt679.1 bt679.2 bt683.1 bt683.2 bt691.1 bt691.2.1 bt697.1 bt697.2.1 bt697.2.2.1 bt697.2.2.2 bt703.1 bt703.2 bt707.1 bt707.2.1 bt712.1 bt712.2 true)) else (laws_FnDarkNodes.j0 k bt679.1 bt679.2 bt683.1 bt683.2 bt691.1 bt691.2.1 bt697.1 bt697.2.1 bt697.2.2.1 bt697.2.2.2 bt703.1 bt703.2 bt707.1 bt707.2.1 bt712.1 bt712.2 true)) else (laws_FnDarkNodes.j0 k bt679.1 bt679.2 bt683.1 bt683.2 bt691.1 bt691.2.1 bt697.1 bt697.2.1 bt697.2.2.1 bt697.2.2.2 bt703.1 bt703.2 bt707.1 bt707.2.1 bt712.1 bt712.2 true)) else (laws_FnDarkNodes.j0 k bt679.1 bt679.2 bt683.1 bt683.2 bt691.1 bt691.2.1 bt697.1 bt697.2.1 bt697.2.2.1 bt697.2.2.2 bt703.1 bt703.2 bt707.1 bt707.2.1 bt712.1 bt712.2 true)) else (laws_FnDarkNodes.j0 k bt679.1 bt679.2 bt683.1 bt683.2 bt691.1 bt691.2.1 bt697.1 bt697.2.1 bt697.2.2.1 bt697.2.2.2 bt703.1 bt703.2 bt707.1 bt707.2.1 bt712.1 bt712.2 true))) else (laws_FnDarkNodes.j0 k bt679.1 bt679.2 bt683.1 bt683.2 bt691.1 bt691.2.1 bt697.1 bt697.2.1 bt697.2.2.1 bt697.2.2.2 bt703.1 bt703.2 bt707.1 bt707.2.1 bt712.1 bt712.2 true))))))))))))) = some r := by rw [if_neg (show ¬ (false = true) by decide)] at H; exact H
  clear H
  have H := H1
  clear H1
  replace H := Option.bind_eq_some_iff.mp H
  obtain ⟨⟨t679, t680⟩, A40, H⟩ := H
  replace H : ((impl_DarkNodes.f k t679 t680).bind fun bt683 => ((spec_DarkNodes.f k t679 t680).bind fun bt687 => ((impl_LastLit.f k t679 t680).bind fun bt691 => ((spec_LastLit.f k t679 t680).bind fun bt694 => ((spec_DrawSurelyLitBefore.f k l0).bind fun bt697 => ((impl_SurelyLitBefore.f k bt697.1 bt697.2.1 bt697.2.2.1 bt697.2.2.2).bind fun bt703 => ((spec_SurelyLitBefore.f k bt697.1 bt697.2.1 bt697.2.2.1 bt697.2.2.2).bind fun bt705 => ((spec_DrawWithoutFuse.f k l0).bind fun bt707 => ((impl_WithoutFuse.f k bt707.1 bt707.2.1 bt707.2.2).bind fun bt712 => ((spec_WithoutFuse.f k bt707.1 bt707.2.1 bt707.2.2).bind fun bt716 => (if bt683.2 = bt687.2 then ((laws_likeInts.f k bt683.1 bt687.1).bind fun t720 => (if t720 = true then (if bt691.2.2 = bt694.2.2 then (if bt691.1 = bt694.1 then (if bt691.2.1 = bt694.2.1 then (if bt703.2 = bt705.2 then (if (bt703.1 != bt705.1) = true then (laws_FnDarkNodes.j0 k t679 t680 bt683.1 bt683.2 bt691.1 bt691.2.1 bt697.1 bt697.2.1 bt697.2.2.1 bt697.2.2.2 bt703.1 bt703.2 bt707.1 bt707.2.1 bt712.1 bt712.2 true) else (if bt712.2 = bt716.2 then ((laws_likeFuses.f k bt712.1 bt716.1).bind fun t721 => (if t721 = true then (laws_FnDarkNodes.j0 k t679 t680 bt683.1 bt683.2 bt691.1 bt691.2.1 bt697.1 bt697.2.1 bt697.2.2.1 bt697.2.2.2 bt703.1 bt703.2 bt707.1 bt707.2.1 bt712.1 bt712.2 (bt691.2.2 != bt683.2)) else (laws_FnDarkNodes.j0 k t679 t680 bt683.1 bt683.2 bt691.1 bt691.2.1 bt697.1 bt697.2.1 bt697.2.2.1 bt697.2.2.2 bt703.1 bt703.2 bt707.1 bt707.2.1 bt712.1 bt712.2 true))) else (laws_FnDarkNodes.j0 k t679 t680 bt683.1 bt683.2 bt691.1 bt691.2.1 bt697.1 bt697.2.1 bt697.2.2.1 bt697.2.2.2 bt703.1 bt703.2 bt707.1 bt707.2.1 bt712.1 bt712.2 true))) else (laws_FnDarkNodes.j0 k t679 t680 bt683.1 bt683.2 bt691.1 bt691.2.1 bt697.1 bt697.2.1 bt697.2.2.1 bt697.2.2.2 bt703.1 bt703.2 bt707.1 bt707.2.1 bt712.1 bt712.2 true)) else (laws_FnDarkNodes.j0 k t679 t680 bt683.1 bt683.2 bt691.1 bt691.2.1 bt697.1 bt697.2.1 bt697.2.2.1 bt697.2.2.2 bt703.1 bt703.2 bt707.1 bt707.2.1 bt712.1 bt712.2 true)) else (laws_FnDarkNodes.j0 k t679 t680 bt683.1 bt683.2 bt691.1 bt691.2.1 bt697.1 bt697.2.1 bt697.2.2.1 bt697.2.2.2 bt703.1 bt703.2 bt707.1 bt707.2.1 bt712.1 bt712.2 true)) else (laws_FnDarkNodes.j0 k t679 t680 bt683.1 bt683.2 bt691.1 bt691.2.1 bt697.1 bt697.2.1 bt697.2.2.1 bt697.2.2.2 bt703.1 bt703.2 bt707.1 bt707.2.1 bt712.1 bt712.2 true)) else (laws_FnDarkNodes.j0 k t679 t680 bt683.1 bt683.2 bt691.1 bt691.2.1 bt697.1 bt697.2.1 bt697.2.2.1 bt697.2.2.2 bt703.1 bt703.2 bt707.1 bt707.2.1 bt712.1 bt712.2 true))) else (laws_FnDarkNodes.j0 k t679 t680 bt683.1 bt683.2 bt691.1 bt691.2.1 bt697.1 bt697.2.1 bt697.2.2.1 bt697.2.2.2 bt703.1 bt703.2 bt707.1 bt707.2.1 bt712.1 bt712.2 true)))))))))))) = some r := H
  have A4 := Aside0.mk A40
  clear A40
  replace H := Option.bind_eq_some_iff.mp H
  obtain ⟨⟨t683, t684⟩, A50, H⟩ := H
  replace H : ((spec_DarkNodes.f k t679 t680).bind fun bt687 => ((impl_LastLit.f k t679 t680).bind fun bt691 => ((spec_LastLit.f k t679 t680).bind fun bt694 => ((spec_DrawSurelyLitBefore.f k l0).bind fun bt697 => ((impl_SurelyLitBefore.f k bt697.1 bt697.2.1 bt697.2.2.1 bt697.2.2.2).bind fun bt703 => ((spec_SurelyLitBefore.f k bt697.1 bt697.2.1 bt697.2.2.1 bt697.2.2.2).bind fun bt705 => ((spec_DrawWithoutFuse.f k l0).bind fun bt707 => ((impl_WithoutFuse.f k bt707.1 bt707.2.1 bt707.2.2).bind fun bt712 => ((spec_WithoutFuse.f k bt707.1 bt707.2.1 bt707.2.2).bind fun bt716 => (if t684 = bt687.2 then ((laws_likeInts.f k t683 bt687.1).bind fun t720 => (if t720 = true then (if bt691.2.2 = bt694.2.2 then (if bt691.1 = bt694.1 then (if bt691.2.1 = bt694.2.1 then (if bt703.2 = bt705.2 then (if (bt703.1 != bt705.1) = true then (laws_FnDarkNodes.j0 k t679 t680 t683 t684 bt691.1 bt691.2.1 bt697.1 bt697.2.1 bt697.2.2.1 bt697.2.2.2 bt703.1 bt703.2 bt707.1 bt707.2.1 bt712.1 bt712.2 true) else (if bt712.2 = bt716.2 then ((laws_likeFuses.f k bt712.1 bt716.1).bind fun t721 => (if t721 = true then (laws_FnDarkNodes.j0 k t679 t680 t683 t684 bt691.1 bt691.2.1 bt697.1 bt697.2.1 bt697.2.2.1 bt697.2.2.2 bt703.1 bt703.2 bt707.1 bt707.2.1 bt712.1 bt712.2 (bt691.2.2 != t684)) else (laws_FnDarkNodes.j0 k t679 t680 t683 t684 bt691.1 bt691.2.1 bt697.1 bt697.2.1 bt697.2.2.1 bt697.2.2.2 bt703.1 bt703.2 bt707.1 bt707.2.1 bt712.1 bt712.2 true))) else (laws_FnDarkNodes.j0 k t679 t680 t683 t684 bt691.1 bt691.2.1 bt697.1 bt697.2.1 bt697.2.2.1 bt697.2.2.2 bt703.1 bt703.2 bt707.1 bt707.2.1 bt712.1 bt712.2 true))) else (laws_FnDarkNodes.j0 k t679 t680 t683 t684 bt691.1 bt691.2.1 bt697.1 bt697.2.1 bt697.2.2.1 bt697.2.2.2 bt703.1 bt703.2 bt707.1 bt707.2.1 bt712.1 bt712.2 true)) else (laws_FnDarkNodes.j0 k t679 t680 t683 t684 bt691.1 bt691.2.1 bt697.1 bt697.2.1 bt697.2.2.1 bt697.2.2.2 bt703.1 bt703.2 bt707.1 bt707.2.1 bt712.1 bt712.2 true)) else (laws_FnDarkNodes.j0 k t679 t680 t683 t684 bt691.1 bt691.2.1 bt697.1 bt697.2.1 bt697.2.2.1 bt697.2.2.2 bt703.1 bt703.2 bt707.1 bt707.2.1 bt712.1 bt712.2 true)) else (laws_FnDarkNodes.j0 k t679 t680 t683 t684 bt691.1 bt691.2.1 bt697.1 bt697.2.1 bt697.2.2.1 bt697.2.2.2 bt703.1 bt703.2 bt707.1 bt707.2.1 bt712.1 bt712.2 true)) else (laws_FnDarkNodes.j0 k t679 t680 t683 t684 bt691.1 bt691.2.1 bt697.1 bt697.2.1 bt697.2.2.1 bt697.2.2.2 bt703.1 bt703.2 bt707.1 bt707.2.1 bt712.1 bt712.2 true))) else (laws_FnDarkNodes.j0 k t679 t680 t683 t684 bt691.1 bt691.2.1 bt697.1 bt697.2.1 bt697.2.2.1 bt697.2.2.2 bt703.1 bt703.2 bt707.1 bt707.2.1 bt712.1 bt712.2 true))))))))))) = some r := H
  have A5 := Aside0.mk A50
  clear A50
  replace H := Option.bind_eq_some_iff.mp H
  obtain ⟨⟨t687, t688⟩, A60, H⟩ := H
  replace H : ((impl_LastLit.f k t679 t680).bind fun bt691 => ((spec_LastLit.f k t679 t680).bind fun bt694 => ((spec_DrawSurelyLitBefore.f k l0).bind fun bt697 => ((impl_SurelyLitBefore.f k bt697.1 bt697.2.1 bt697.2.2.1 bt697.2.2.2).bind fun bt703 => ((spec_SurelyLitBefore.f k bt697.1 bt697.2.1 bt697.2.2.1 bt697.2.2.2).bind fun bt705 => ((spec_DrawWithoutFuse.f k l0).bind fun bt707 => ((impl_WithoutFuse.f k bt707.1 bt707.2.1 bt707.2.2).bind fun bt712 => ((spec_WithoutFuse.f k bt707.1 bt707.2.1 bt707.2.2).bind fun bt716 => (if t684 = t688 then ((laws_likeInts.f k t683 t687).bind fun t720 => (if t720 = true then (if bt691.2.2 = bt694.2.2 then (if bt691.1 = bt694.1 then (if bt691.2.1 = bt694.2.1 then (if bt703.2 = bt705.2 then (if (bt703.1 != bt705.1) = true then (laws_FnDarkNodes.j0 k t679 t680 t683 t684 bt691.1 bt691.2.1 bt697.1 bt697.2.1 bt697.2.2.1 bt697.2.2.2 bt703.1 bt703.2 bt707.1 bt707.2.1 bt712.1 bt712.2 true) else (if bt712.2 = bt716.2 then ((laws_likeFuses.f k bt712.1 bt716.1).bind fun t721 => (if t721 = true then (laws_FnDarkNodes.j0 k t679 t680 t683 t684 bt691.1 bt691.2.1 bt697.1 bt697.2.1 bt697.2.2.1 bt697.2.2.2 bt703.1 bt703.2 bt707.1 bt707.2.1 bt712.1 bt712.2 (bt691.2.2 != t684)) else (laws_FnDarkNodes.j0 k t679 t680 t683 t684 bt691.1 bt691.2.1 bt697.1 bt697.2.1 bt697.2.2.1 bt697.2.2.2 bt703.1 bt703.2 bt707.1 bt707.2.1 bt712.1 bt712.2 true))) else (laws_FnDarkNodes.j0 k t679 t680 t683 t684 bt691.1 bt691.2.1 bt697.1 bt697.2.1 bt697.2.2.1 bt697.2.2.2 bt703.1 bt703.2 bt707.1 bt707.2.1 bt712.1 bt712.2 true))) else (laws_FnDarkNodes.j0 k t679 t680 t683 t684 bt691.1 bt691.2.1 bt697.1 bt697.2.1 bt697.2.2.1 bt697.2.2.2 bt703.1 bt703.2 bt707.1 bt707.2.1 bt712.1 bt712.2 true)) else (laws_FnDarkNodes.j0 k t679 t680 t683 t684 bt691.1 bt691.2.1 bt697.1 bt697.2.1 bt697.2.2.1 bt697.2.2.2 bt703.1 bt703.2 bt707.1 bt707.2.1 bt712.1 bt712.2 true)) else (laws_FnDarkNodes.j0 k t679 t680 t683 t684 bt691.1 bt691.2.1 bt697.1 bt697.2.1 bt697.2.2.1 bt697.2.2.2 bt703.1 bt703.2 bt707.1 bt707.2.1 bt712.1 bt712.2 true)) else (laws_FnDarkNodes.j0 k t679 t680 t683 t684 bt691.1 bt691.2.1 bt697.1 bt697.2.1 bt697.2.2.1 bt697.2.2.2 bt703.1 bt703.2 bt707.1 bt707.2.1 bt712.1 bt712.2 true)) else (laws_FnDarkNodes.j0 k t679 t680 t683 t684 bt691.1 bt691.2.1 bt697.1 bt697.2.1 bt697.2.2.1 bt697.2.2.2 bt703.1 bt703.2 bt707.1 bt707.2.1 bt712.1 bt712.2 true))) else (laws_FnDarkNodes.j0 k t679 t680 t683 t684 bt691.1 bt691.2.1 bt697.1 bt697.2.1 bt697.2.2.1 bt697.2.2.2 bt703.1 bt703.2 bt707.1 bt707.2.1 bt712.1 bt712.2 true)))))))))) = some r := H
  have A6 := Aside0.mk A60
  clear A60
  replace H := Option.bind_eq_some_iff.mp H
  obtain ⟨⟨t691, t692, t693⟩, A70, H⟩ := H
  replace H : ((spec_LastLit.f k t679 t680).bind fun bt694 => ((spec_DrawSurelyLitBefore.f k l0).bind fun bt697 => ((impl_SurelyLitBefore.f k bt697.1 bt697.2.1 bt697.2.2.1 bt697.2.2.2).bind fun bt703 => ((spec_SurelyLitBefore.f k bt697.1 bt697.2.1 bt697.2.2.1 bt697.2.2.2).bind fun bt705 => ((spec_DrawWithoutFuse.f k l0).bind fun bt707 => ((impl_WithoutFuse.f k bt707.1 bt707.2.1 bt707.2.2).bind fun bt712 => ((spec_WithoutFuse.f k bt707.1 bt707.2.1 bt707.2.2).bind fun bt716 => (if t684 = t688 then ((laws_likeInts.f k t683 t687).bind fun t720 => (if t720 = true then (if t693 = bt694.2.2 then (if t691 = bt694.1 then (if t692 = bt694.2.1 then (if bt703.2 = bt705.2 then (if (bt703.1 != bt705.1) = true then (laws_FnDarkNodes.j0 k t679 t680 t683 t684 t691 t692 bt697.1 bt697.2.1 bt697.2.2.1 bt697.2.2.2 bt703.1 bt703.2 bt707.1 bt707.2.1 bt712.1 bt712.2 true) else (if bt712.2 = bt716.2 then ((laws_likeFuses.f k bt712.1 bt716.1).bind fun t721 => (if t721 = true then (laws_FnDarkNodes.j0 k t679 t680 t683 t684 t691 t692 bt697.1 bt697.2.1 bt697.2.2.1 bt697.2.2.2 bt703.1 bt703.2 bt707.1 bt707.2.1 bt712.1 bt712.2 (t693 != t684)) else (laws_FnDarkNodes.j0 k t679 t680 t683 t684 t691 t692 bt697.1 bt697.2.1 bt697.2.2.1 bt697.2.2.2 bt703.1 bt703.2 bt707.1 bt707.2.1 bt712.1 bt712.2 true))) else (laws_FnDarkNodes.j0 k t679 t680 t683 t684 t691 t692 bt697.1 bt697.2.1 bt697.2.2.1 bt697.2.2.2 bt703.1 bt703.2 bt707.1 bt707.2.1 bt712.1 bt712.2 true))) else (laws_FnDarkNodes.j0 k t679 t680 t683 t684 t691 t692 bt697.1 bt697.2.1 bt697.2.2.1 bt697.2.2.2 bt703.1 bt703.2 bt707.1 bt707.2.1 bt712.1 bt712.2 true)) else (laws_FnDarkNodes.j0 k t679 t680 t683 t684 t691 t692 bt697.1 bt697.2.1 bt697.2.2.1 bt697.2.2.2 bt703.1 bt703.2 bt707.1 bt707.2.1 bt712.1 bt712.2 true)) else (laws_FnDarkNodes.j0 k t679 t680 t683 t684 t691 t692 bt697.1 bt697.2.1 bt697.2.2.1 bt697.2.2.2 bt703.1 bt703.2 bt707.1 bt707.2.1 bt712.1 bt712.2 true)) else (laws_FnDarkNodes.j0 k t679 t680 t683 t684 t691 t692 bt697.1 bt697.2.1 bt697.2.2.1 bt697.2.2.2 bt703.1 bt703.2 bt707.1 bt707.2.1 bt712.1 bt712.2 true)) else (laws_FnDarkNodes.j0 k t679 t680 t683 t684 t691 t692 bt697.1 bt697.2.1 bt697.2.2.1 bt697.2.2.2 bt703.1 bt703.2 bt707.1 bt707.2.1 bt712.1 bt712.2 true))) else (laws_FnDarkNodes.j0 k t679 t680 t683 t684 t691 t692 bt697.1 bt697.2.1 bt697.2.2.1 bt697.2.2.2 bt703.1 bt703.2 bt707.1 bt707.2.1 bt712.1 bt712.2 true))))))))) = some r := H
  have A7 := Aside0.mk A70
  clear A70
  replace H := Option.bind_eq_some_iff.mp H
  obtain ⟨⟨t694, t695, t696⟩, A80, H⟩ := H
  replace H : ((spec_DrawSurelyLitBefore.f k l0).bind fun bt697 => ((impl_SurelyLitBefore.f k bt697.1 bt697.2.1 bt697.2.2.1 bt697.2.2.2).bind fun bt703 => ((spec_SurelyLitBefore.f k bt697.1 bt697.2.1 bt697.2.2.1 bt697.2.2.2).bind fun bt705 => ((spec_DrawWithoutFuse.f k l0).bind fun bt707 => ((impl_WithoutFuse.f k bt707.1 bt707.2.1 bt707.2.2).bind fun bt712 => ((spec_WithoutFuse.f k bt707.1 bt707.2.1 bt707.2.2).bind fun bt716 => (if t684 = t688 then ((laws_likeInts.f k t683 t687).bind fun t720 => (if t720 = true then (if t693 = t696 then (if t691 = t694 then (if t692 = t695 then (if bt703.2 = bt705.2 then (if (bt703.1 != bt705.1) = true then (laws_FnDarkNodes.j0 k t679 t680 t683 t684 t691 t692 bt697.1 bt697.2.1 bt697.2.2.1 bt697.2.2.2 bt703.1 bt703.2 bt707.1 bt707.2.1 bt712.1 bt712.2 true) else (if bt712.2 = bt716.2 then ((laws_likeFuses.f k bt712.1 bt716.1).bind fun t721 => (if t721 = true then (laws_FnDarkNodes.j0 k t679 t680 t683 t684 t691 t692 bt697.1 bt697.2.1 bt697.2.2.1 bt697.2.2.2 bt703.1 bt703.2 bt707.1 bt707.2.1 bt712.1 bt712.2 (t693 != t684)) else (laws_FnDarkNodes.j0 k t679 t680 t683 t684 t691 t692 bt697.1 bt697.2.1 bt697.2.2.1 bt697.2.2.2 bt703.1 bt703.2 bt707.1 bt707.2.1 bt712.1 bt712.2 true))) else (laws_FnDarkNodes.j0 k t679 t680 t683 t684 t691 t692 bt697.1 bt697.2.1 bt697.2.2.1 bt697.2.2.2 bt703.1 bt703.2 bt707.1 bt707.2.1 bt712.1 bt712.2 true))) else (laws_FnDarkNodes.j0 k t679 t680 t683 t684 t691 t692 bt697.1 bt697.2.1 bt697.2.2.1 bt697.2.2.2 bt703.1 bt703.2 bt707.1 bt707.2.1 bt712.1 bt712.2 true)) else (laws_FnDarkNodes.j0 k t679 t680 t683 t684 t691 t692 bt697.1 bt697.2.1 bt697.2.2.1 bt697.2.2.2 bt703.1 bt703.2 bt707.1 bt707.2.1 bt712.1 bt712.2 true)) else (laws_FnDarkNodes.j0 k t679 t680 t683 t684 t691 t692 bt697.1 bt697.2.1 bt697.2.2.1 bt697.2.2.2 bt703.1 bt703.2 bt707.1 bt707.2.1 bt712.1 bt712.2 true)) else (laws_FnDarkNodes.j0 k t679 t680 t683 t684 t691 t692 bt697.1 bt697.2.1 bt697.2.2.1 bt697.2.2.2 bt703.1 bt703.2 bt707.1 bt707.2.1 bt712.1 bt712.2 true)) else (laws_FnDarkNodes.j0 k t679 t680 t683 t684 t691 t692 bt697.1 bt697.2.1 bt697.2.2.1 bt697.2.2.2 bt703.1 bt703.2 bt707.1 bt707.2.1 bt712.1 bt712.2 true))) else (laws_FnDarkNodes.j0 k t679 t680 t683 t684 t691 t692 bt697.1 bt697.2.1 bt697.2.2.1 bt697.2.2.2 bt703.1 bt703.2 bt707.1 bt707.2.1 bt712.1 bt712.2 true)))))))) = some r := H
  have A8 := Aside0.mk A80
  clear A80
  replace H := Option.bind_eq_some_iff.mp H
  obtain ⟨⟨t697, t698, t699, t700⟩, A90, H⟩ := H
  replace H : ((impl_SurelyLitBefore.f k t697 t698 t699 t700).bind fun bt703 => ((spec_SurelyLitBefore.f k t697 t698 t699 t700).bind fun bt705 => ((spec_DrawWithoutFuse.f k l0).bind fun bt707 => ((impl_WithoutFuse.f k bt707.1 bt707.2.1 bt707.2.2).bind fun bt712 => ((spec_WithoutFuse.f k bt707.1 bt707.2.1 bt707.2.2).bind fun bt716 => (if t684 = t688 then ((laws_likeInts.f k t683 t687).bind fun t720 => (if t720 = true then (if t693 = t696 then (if t691 = t694 then (if t692 = t695 then (if bt703.2 = bt705.2 then (if (bt703.1 != bt705.1) = true then (laws_FnDarkNodes.j0 k t679 t680 t683 t684 t691 t692 t697 t698 t699 t700 bt703.1 bt703.2 bt707.1 bt707.2.1 bt712.1 bt712.2 true) else (if bt712.2 = bt716.2 then ((laws_likeFuses.f k bt712.1 bt716.1).bind fun t721 => (if t721 = true then (laws_FnDarkNodes.j0 k t679 t680 t683 t684 t691 t692 t697 t698 t699 t700 bt703.1 bt703.2 bt707.1 bt707.2.1 bt712.1 bt712.2 (t693 != t684)) else (laws_FnDarkNodes.j0 k t679 t680 t683 t684 t691 t692 t697 t698 t699 t700 bt703.1 bt703.2 bt707.1 bt707.2.1 bt712.1 bt712.2 true))) else (laws_FnDarkNodes.j0 k t679 t680 t683 t684 t691 t692 t697 t698 t699 t700 bt703.1 bt703.2 bt707.1 bt707.2.1 bt712.1 bt712.2 true))) else (laws_FnDarkNodes.j0 k t679 t680 t683 t684 t691 t692 t697 t698 t699 t700 bt703.1 bt703.2 bt707.1 bt707.2.1 bt712.1 bt712.2 true)) else (laws_FnDarkNodes.j0 k t679 t680 t683 t684 t691 t692 t697 t698 t699 t700 bt703.1 bt703.2 bt707.1 bt707.2.1 bt712.1 bt712.2 true)) else (laws_FnDarkNodes.j0 k t679 t680 t683 t684 t691 t692 t697 t698 t699 t700 bt703.1 bt703.2 bt707.1 bt707.2.1 bt712.1 bt712.2 true)) else (laws_FnDarkNodes.j0 k t679 t680 t683 t684 t691 t692 t697 t698 t699 t700 bt703.1 bt703.2 bt707.1 bt707.2.1 bt712.1 bt712.2 true)) else (laws_FnDarkNodes.j0 k t679 t680 t683 t684 t691 t692 t697 t698 t699 t700 bt703.1 bt703.2 bt707.1 bt707.2.1 bt712.1 bt712.2 true))) else (laws_FnDarkNodes.j0 k t679 t680 t683 t684 t691 t692 t697 t698 t699 t700 bt703.1 bt703.2 bt707.1 bt707.2.1 bt712.1 bt712.2 true))))))) = some r := H
  have A9 := Aside0.mk A90
  clear A90
  replace H := Option.bind_eq_some_iff.mp H
  obtain ⟨⟨t703, t704⟩, A100, H⟩ := H
  replace H : ((spec_SurelyLitBefore.f k t697 t698 t699 t700).bind fun bt705 => ((spec_DrawWithoutFuse.f k l0).bind fun bt707 => ((impl_WithoutFuse.f k bt707.1 bt707.2.1 bt707.2.2).bind fun bt712 => ((spec_WithoutFuse.f k bt707.1 bt707.2.1 bt707.2.2).bind fun bt716 => (if t684 = t688 then ((laws_likeInts.f k t683 t687).bind fun t720 => (if t720 = true then (if t693 = t696 then (if t691 = t694 then (if t692 = t695 then (if t704 = bt705.2 then (if (t703 != bt705.1) = true then (laws_FnDarkNodes.j0 k t679 t680 t683 t684 t691 t692 t697 t698 t699 t700 t703 t704 bt707.1 bt707.2.1 bt712.1 bt712.2 true) else (if bt712.2 = bt716.2 then ((laws_likeFuses.f k bt712.1 bt716.1).bind fun t721 => (if t721 = true then (laws_FnDarkNodes.j0 k t679 t680 t683 t684 t691 t692 t697 t698 t699 t700 t703 t704 bt707.1 bt707.2.1 bt712.1 bt712.2 (t693 != t684)) else (laws_FnDarkNodes.j0 k t679 t680 t683 t684 t691 t692 t697 t698 t699 t700 t703 t704 bt707.1 bt707.2.1 bt712.1 bt712.2 true))) else (laws_FnDarkNodes.j0 k t679 t680 t683 t684 t691 t692 t697 t698 t699 t700 t703 t704 bt707.1 bt707.2.1 bt712.1 bt712.2 true))) else (laws_FnDarkNodes.j0 k t679 t680 t683 t684 t691 t692 t697 t698 t699 t700 t703 t704 bt707.1 bt707.2.1 bt712.1 bt712.2 true)) else (laws_FnDarkNodes.j0 k t679 t680 t683 t684 t691 t692 t697 t698 t699 t700 t703 t704 bt707.1 bt707.2.1 bt712.1 bt712.2 true)) else (laws_FnDarkNodes.j0 k t679 t680 t683 t684 t691 t692 t697 t698 t699 t700 t703 t704 bt707.1 bt707.2.1 bt712.1 bt712.2 true)) else (laws_FnDarkNodes.j0 k t679 t680 t683 t684 t691 t692 t697 t698 t699 t700 t703 t704 bt707.1 bt707.2.1 bt712.1 bt712.2 true)) else (laws_FnDarkNodes.j0 k t679 t680 t683 t684 t691 t692 t697 t698 t699 t700 t703 t704 bt707.1 bt707.2.1 bt712.1 bt712.2 true))) else (laws_FnDarkNodes.j0 k t679 t680 t683 t684 t691 t692 t697 t698 t699 t700 t703 t704 bt707.1 bt707.2.1 bt712.1 bt712.2 true)))))) = some r := H
  have A10 := Aside0.mk A100
  clear A100
  replace H := Option.bind_eq_some_iff.mp H
  obtain ⟨⟨t705, t706⟩, A110, H⟩ := H
  replace H : ((spec_DrawWithoutFuse.f k l0).bind fun bt707 => ((impl_WithoutFuse.f k bt707.1 bt707.2.1 bt707.2.2).bind fun bt712 => ((spec_WithoutFuse.f k bt707.1 bt707.2.1 bt707.2.2).bind fun bt716 => (if t684 = t688 then ((laws_likeInts.f k t683 t687).bind fun t720 => (if t720 = true then (if t693 = t696 then (if t691 = t694 then (if t692 = t695 then (if t704 = t706 then (if (t703 != t705) = true then (laws_FnDarkNodes.j0 k t679 t680 t683 t684 t691 t692 t697 t698 t699 t700 t703 t704 bt707.1 bt707.2.1 bt712.1 bt712.2 true) else (if bt712.2 = bt716.2 then ((laws_likeFuses.f k bt712.1 bt716.1).bind fun t721 => (if t721 = true then (laws_FnDarkNodes.j0 k t679 t680 t683 t684 t691 t692 t697 t698 t699 t700 t703 t704 bt707.1 bt707.2.1 bt712.1 bt712.2 (t693 != t684)) else (laws_FnDarkNodes.j0 k t679 t680 t683 t684 t691 t692 t697 t698 t699 t700 t703 t704 bt707.1 bt707.2.1 bt712.1 bt712.2 true))) else (laws_FnDarkNodes.j0 k t679 t680 t683 t684 t691 t692 t697 t698 t699 t700 t703 t704 bt707.1 bt707.2.1 bt712.1 bt712.2 true))) else (laws_FnDarkNodes.j0 k t679 t680 t683 t684 t691 t692 t697 t698 t699 t700 t703 t704 bt707.1 bt707.2.1 bt712.1 bt712.2 true)) else (laws_FnDarkNodes.j0 k t679 t680 t683 t684 t691 t692 t697 t698 t699 t700 t703 t704 bt707.1 bt707.2.1 bt712.1 bt712.2 true)) else (laws_FnDarkNodes.j0 k t679 t680 t683 t684 t691 t692 t697 t698 t699 t700 t703 t704 bt707.1 bt707.2.1 bt712.1 bt712.2 true)) else (laws_FnDarkNodes.j0 k t679 t680 t683 t684 t691 t692 t697 t698 t699 t700 t703 t704 bt707.1 bt707.2.1 bt712.1 bt712.2 true)) else (laws_FnDarkNodes.j0 k t679 t680 t683 t684 t691 t692 t697 t698 t699 t700 t703 t704 bt707.1 bt707.2.1 bt712.1 bt712.2 true))) else (laws_FnDarkNodes.j0 k t679 t680 t683 t684 t691 t692 t697 t698 t699 t700 t703 t704 bt707.1 bt707.2.1 bt712.1 bt712.2 true))))) = some r := H
  have A11 := Aside0.mk A110
  clear A110
  replace H := Option.bind_eq_some_iff.mp H
  obtain ⟨⟨t707, t708, t709⟩, A120, H⟩ := H
  replace H : ((impl_WithoutFuse.f k t707 t708 t709).bind fun bt712 => ((spec_WithoutFuse.f k t707 t708 t709).bind fun bt716 => (if t684 = t688 then ((laws_likeInts.f k t683 t687).bind fun t720 => (if t720 = true then (if t693 = t696 then (if t691 = t694 then (if t692 = t695 then (if t704 = t706 then (if (t703 != t705) = true then (laws_FnDarkNodes.j0 k t679 t680 t683 t684 t691 t692 t697 t698 t699 t700 t703 t704 t707 t708 bt712.1 bt712.2 true) else (if bt712.2 = bt716.2 then ((laws_likeFuses.f k bt712.1 bt716.1).bind fun t721 => (if t721 = true then (laws_FnDarkNodes.j0 k t679 t680 t683 t684 t691 t692 t697 t698 t699 t700 t703 t704 t707 t708 bt712.1 bt712.2 (t693 != t684)) else (laws_FnDarkNodes.j0 k t679 t680 t683 t684 t691 t692 t697 t698 t699 t700 t703 t704 t707 t708 bt712.1 bt712.2 true))) else (laws_FnDarkNodes.j0 k t679 t680 t683 t684 t691 t692 t697 t698 t699 t700 t703 t704 t707 t708 bt712.1 bt712.2 true))) else (laws_FnDarkNodes.j0 k t679 t680 t683 t684 t691 t692 t697 t698 t699 t700 t703 t704 t707 t708 bt712.1 bt712.2 true)) else (laws_FnDarkNodes.j0 k t679 t680 t683 t684 t691 t692 t697 t698 t699 t700 t703 t704 t707 t708 bt712.1 bt712.2 true)) else (laws_FnDarkNodes.j0 k t679 t680 t683 t684 t691 t692 t697 t698 t699 t700 t703 t704 t707 t708 bt712.1 bt712.2 true)) else (laws_FnDarkNodes.j0 k t679 t680 t683 t684 t691 t692 t697 t698 t699 t700 t703 t704 t707 t708 bt712.1 bt712.2 true)) else (laws_FnDarkNodes.j0 k t679 t680 t683 t684 t691 t692 t697 t698 t699 t700 t703 t704 t707 t708 bt712.1 bt712.2 true))) else (laws_FnDarkNodes.j0 k t679 t680 t683 t684 t691 t692 t697 t698 t699 t700 t703 t704 t707 t708 bt712.1 bt712.2 true)))) = some r := H
  have A12 := Aside0.mk A120
  clear A120
  replace H := Option.bind_eq_some_iff.mp H
  obtain ⟨⟨t712, t713⟩, A130, H⟩ := H
  replace H : ((spec_WithoutFuse.f k t707 t708 t709).bind fun bt716 => (if t684 = t688 then ((laws_likeInts.f k t683 t687).bind fun t720 => (if t720 = true then (if t693 = t696 then (if t691 = t694 then (if t692 = t695 then (if t704 = t706 then (if (t703 != t705) = true then (laws_FnDarkNodes.j0 k t679 t680 t683 t684 t691 t692 t697 t698 t699 t700 t703 t704 t707 t708 t712 t713 true) else (if t713 = bt716.2 then ((laws_likeFuses.f k t712 bt716.1).bind fun t721 => (if t721 = true then (laws_FnDarkNodes.j0 k t679 t680 t683 t684 t691 t692 t697 t698 t699 t700 t703 t704 t707 t708 t712 t713 (t693 != t684)) else (laws_FnDarkNodes.j0 k t679 t680 t683 t684 t691 t692 t697 t698 t699 t700 t703 t704 t707 t708 t712 t713 true))) else (laws_FnDarkNodes.j0 k t679 t680 t683 t684 t691 t692 t697 t698 t699 t700 t703 t704 t707 t708 t712 t713 true))) else (laws_FnDarkNodes.j0 k t679 t680 t683 t684 t691 t692 t697 t698 t699 t700 t703 t704 t707 t708 t712 t713 true)) else (laws_FnDarkNodes.j0 k t679 t680 t683 t684 t691 t692 t697 t698 t699 t700 t703 t704 t707 t708 t712 t713 true)) else (laws_FnDarkNodes.j0 k t679 t680 t683 t684 t691 t692 t697 t698 t699 t700 t703 t704 t707 t708 t712 t713 true)) else (laws_FnDarkNodes.j0 k t679 t680 t683 t684 t691 t692 t697 t698 t699 t700 t703 t704 t707 t708 t712 t713 true)) else (laws_FnDarkNodes.j0 k t679 t680 t683 t684 t691 t692 t697 t698 t699 t700 t703 t704 t707 t708 t712 t713 true))) else (laws_FnDarkNodes.j0 k t679 t680 t683 t684 t691 t692 t697 t698 t699 t700 t703 t704 t707 t708 t712 t713 true))) = some r := H
  have A13 := Aside0.mk A130
  clear A130
  replace H := Option.bind_eq_some_iff.mp H
  obtain ⟨⟨t716, t717⟩, A140, H⟩ := H
  replace H : (if t684 = t688 then ((laws_likeInts.f k t683 t687).bind fun t720 => (if t720 = true then (if t693 = t696 then (if t691 = t694 then (if t692 = t695 then (if t704 = t706 then (if (t703 != t705) = true then (laws_FnDarkNodes.j0 k t679 t680 t683 t684 t691 t692 t697 t698 t699 t700 t703 t704 t707 t708 t712 t713 true) else (if t713 = t717 then ((laws_likeFuses.f k t712 t716).bind fun t721 => (if t721 = true then (laws_FnDarkNodes.j0 k t679 t680 t683 t684 t691 t692 t697 t698 t699 t700 t703 t704 t707 t708 t712 t713 (t693 != t684)) else (laws_FnDarkNodes.j0 k t679 t680 t683 t684 t691 t692 t697 t698 t699 t700 t703 t704 t707 t708 t712 t713 true))) else (laws_FnDarkNodes.j0 k t679 t680 t683 t684 t691 t692 t697 t698 t699 t700 t703 t704 t707 t708 t712 t713 true))) else (laws_FnDarkNodes.j0 k t679 t680 t683 t684 t691 t692 t697 t698 t699 t700 t703 t704 t707 t708 t712 t713 true)) else (laws_FnDarkNodes.j0 k t679 t680 t683 t684 t691 t692 t697 t698 t699 t700 t703 t704 t707 t708 t712 t713 true)) else (laws_FnDarkNodes.j0 k t679 t680 t683 t684 t691 t692 t697 t698 t699 t700 t703 t704 t707 t708 t712 t713 true)) else (laws_FnDarkNodes.j0 k t679 t680 t683 t684 t691 t692 t697 t698 t699 t700 t703 t704 t707 t708 t712 t713 true)) else (laws_FnDarkNodes.j0 k t679 t680 t683 t684 t691 t692 t697 t698 t699 t700 t703 t704 t707 t708 t712 t713 true))) else (laws_FnDarkNodes.j0 k t679 t680 t683 t684 t691 t692 t697 t698 t699 t700 t703 t704 t707 t708 t712 t713 true)) = some r := H
  have A14 := Aside0.mk A140
  clear A140
  have HC15 := Aside0.mk H
  clear H
  go_enter Try.func5, Try.ntmps5
  go_upto_region 14 with (first | ((with_reducible refine gate_callee (f := 6) rfl ?_); refine goesL_ (some 41) rfl rfl Try.func6 (by kernel_rfl) rfl #[.slice A0 l0.length c0] rfl (by (try simp only [List.map_toArray, List.map_cons, List.map_nil]); first | done | rfl | (simp only [List.length_drop, List.length_take]; rfl)) ?_; (with_reducible refine (laws_big.calls _ _ l0 false _ ?side1 ?side2 A2.out).mono ?_); (case side1 => repeat (first | exact HR0.out | (with_reducible refine Kd.C_alloc ?_ _) | (with_reducible refine Kd.C_drewN ?_ _) | (with_reducible refine Kd.C_drew ?_))); (case side2 => exact HC0.out); rintro e w' ⟨rfl, ⟨nd, rfl⟩⟩; refine ⟨_, rfl, ?_⟩) | ((with_reducible refine gate_callee (f := 23) rfl ?_); refine goesL_ (some 44) rfl rfl Try.func23 (by kernel_rfl) rfl #[.slice A0 l0.length c0] rfl (by (try simp only [List.map_toArray, List.map_cons, List.map_nil]); first | done | rfl | (simp only [List.length_drop, List.length_take]; rfl)) ?_; (with_reducible refine (spec_DrawDarkNodes.calls k _ _ l0 t679 t680 _ ?side1 ?side2 A4.out).mono ?_); (case side1 => repeat (first | exact HR0.out | (with_reducible refine Kd.C_alloc ?_ _) | (with_reducible refine Kd.C_drewN ?_ _) | (with_reducible refine Kd.C_drew ?_))); (case side2 => exact HC0.out); rintro e w16 ⟨v681, rfl, ho0, hb⟩; refine ⟨_, rfl, ?_⟩; have n0_ := Aside0.mk (Kd.R_lower ho0 (below_size (by repeat (first | (with_reducible first | exact HB.out | apply below_alloc | apply pw_below_drewN | apply below_drew1) | exact HB.out)))); have n1_ := Aside0.mk (below_step (by repeat (first | (with_reducible first | exact HB.out | apply below_alloc | apply pw_below_drewN | apply below_drew1) | exact HB.out)) hb); clear HB; have HO682 := n0_; have HB := n1_; clear n0_ n1_; (try clear hb); (try clear hb2); (try clear hk); (try clear hi); (try clear ho0); obtain ⟨Ao17, co17, eo17⟩ := Kd.R_slice HO682.out; subst eo17) | ((with_reducible refine gate_callee (f := 24) rfl ?_); refine goesL_ (some 50) rfl rfl Try.func24 (by kernel_rfl) rfl #[.int .i64 t679, .slice Ao17 t680.length co17] rfl (by (try simp only [List.map_toArray, List.map_cons, List.map_nil]); first | done | rfl | (simp only [List.length_drop, List.length_take]; rfl)) ?_; (with_reducible refine (impl_DarkNodes.calls k t679 _ _ t680 t683 t684 _ ?side1 ?side2 A5.out).mono ?_); (case side1 => repeat (first | exact (Kd.R_reads' HO682.out).2.2 | (with_reducible refine Kd.C_alloc ?_ _) | (with_reducible refine Kd.C_drewN ?_ _) | (with_reducible refine Kd.C_drew ?_))); (case side2 => exact (Kd.R_reads' HO682.out).2.1); rintro e w18 ⟨v685, rfl, ho0, hb⟩; refine ⟨_, rfl, ?_⟩; have n0_ := Aside0.mk (Kd.R_below (by (with_reducible repeat (first | apply Kd.R_alloc | apply Kd.R_drewN | apply Kd.R_drew)); exact HO682.out) hb); have n1_ := Aside0.mk (Kd.R_lower ho0 (below_size (by repeat (first | (with_reducible first | exact HB.out | apply below_alloc | apply pw_below_drewN | apply below_drew1) | exact HB.out)))); have n2_ := Aside0.mk (below_step (by repeat (first | (with_reducible first | exact HB.out | apply below_alloc | apply pw_below_drewN | apply below_drew1) | exact HB.out)) hb); clear HO682; clear HB; have HO682 := n0_; have HO686 := n1_; have HB := n2_; clear n0_ n1_ n2_; (try clear hb); (try clear hb2); (try clear hk); (try clear hi); (try clear ho0)) | ((with_reducible refine gate_callee (f := 25) rfl ?_); refine goesL_ (some 56) rfl rfl Try.func25 (by kernel_rfl) rfl #[.int .i64 t679, .slice Ao17 t680.length co17] rfl (by (try simp only [List.map_toArray, List.map_cons, List.map_nil]); first | done | rfl | (simp only [List.length_drop, List.length_take]; rfl)) ?_; (with_reducible refine (spec_DarkNodes.calls k t679 _ _ t680 t687 t688 _ ?side1 ?side2 A6.out).mono ?_); (case side1 => repeat (first | exact (Kd.R_reads' HO682.out).2.2 | (with_reducible refine Kd.C_alloc ?_ _) | (with_reducible refine Kd.C_drewN ?_ _) | (with_reducible refine Kd.C_drew ?_))); (case side2 => exact (Kd.R_reads' HO682.out).2.1); rintro e w19 ⟨v689, rfl, ho0, hb⟩; refine ⟨_, rfl, ?_⟩; have n0_ := Aside0.mk (Kd.R_below (by (with_reducible repeat (first | apply Kd.R_alloc | apply Kd.R_drewN | apply Kd.R_drew)); exact HO682.out) hb); have n1_ := Aside0.mk (Kd.R_elder' (by (with_reducible repeat (first | apply Kd.R_alloc | apply Kd.R_drewN | apply Kd.R_drew)); exact HO686.out) (Kd.R_base ho0) hb); have n2_ := Aside0.mk (Kd.R_lower (Kd.R_new' ho0 (Kd.R_lt (by (with_reducible repeat (first | apply Kd.R_alloc | apply Kd.R_drewN | apply Kd.R_drew)); exact HO686.out))) (below_size (by repeat (first | (with_reducible first | exact HB.out | apply below_alloc | apply pw_below_drewN | apply below_drew1) | exact HB.out)))); have n3_ := Aside0.mk (below_step (by repeat (first | (with_reducible first | exact HB.out | apply below_alloc | apply pw_below_drewN | apply below_drew1) | exact HB.out)) hb); clear HO682; clear HO686; clear HB; have HO682 := n0_; have HO686 := n1_; have HO690 := n2_; have HB := n3_; clear n0_ n1_ n2_ n3_; (try clear hb); (try clear hb2); (try clear hk); (try clear hi); (try clear ho0)) | ((with_reducible refine gate_callee (f := 26) rfl ?_); refine goesL_ (some 62) rfl rfl Try.func26 (by kernel_rfl) rfl #[.int .i64 t679, .slice Ao17 t680.length co17] rfl (by (try simp only [List.map_toArray, List.map_cons, List.map_nil]); first | done | rfl | (simp only [List.length_drop, List.length_take]; rfl)) ?_; (with_reducible refine (impl_LastLit.calls k t679 _ _ t680 t691 t692 t693 _ ?side1 ?side2 A7.out).mono ?_); (case side1 => repeat (first | exact (Kd.R_reads' HO682.out).2.2 | (with_reducible refine Kd.C_alloc ?_ _) | (with_reducible refine Kd.C_drewN ?_ _) | (with_reducible refine Kd.C_drew ?_))); (case side2 => exact (Kd.R_reads' HO682.out).2.1); rintro e w20 ⟨rfl, hb⟩; refine ⟨_, rfl, ?_⟩; have n0_ := Aside0.mk (Kd.R_below (by (with_reducible repeat (first | apply Kd.R_alloc | apply Kd.R_drewN | apply Kd.R_drew)); exact HO682.out) hb); have n1_ := Aside0.mk (Kd.R_below (by (with_reducible repeat (first | apply Kd.R_alloc | apply Kd.R_drewN | apply Kd.R_drew)); exact HO686.out) hb); have n2_ := Aside0.mk (Kd.R_below (by (with_reducible repeat (first | apply Kd.R_alloc | apply Kd.R_drewN | apply Kd.R_drew)); exact HO690.out) hb); have n3_ := Aside0.mk (below_step (by repeat (first | (with_reducible first | exact HB.out | apply below_alloc | apply pw_below_drewN | apply below_drew1) | exact HB.out)) hb); clear HO682; clear HO686; clear HO690; clear HB; have HO682 := n0_; have HO686 := n1_; have HO690 := n2_; have HB := n3_; clear n0_ n1_ n2_ n3_; (try clear hb); (try clear hb2); (try clear hk); (try clear hi)) | ((with_reducible refine gate_callee (f := 27) rfl ?_); refine goesL_ (some 69) rfl rfl Try.func27 (by kernel_rfl) rfl #[.int .i64 t679, .slice Ao17 t680.length co17] rfl (by (try simp only [List.map_toArray, List.map_cons, List.map_nil]); first | done | rfl | (simp only [List.length_drop, List.length_take]; rfl)) ?_; (with_reducible refine (spec_LastLit.calls k t679 _ _ t680 t694 t695 t696 _ ?side1 ?side2 A8.out).mono ?_); (case side1 => repeat (first | exact (Kd.R_reads' HO682.out).2.2 | (with_reducible refine Kd.C_alloc ?_ _) | (with_reducible refine Kd.C_drewN ?_ _) | (with_reducible refine Kd.C_drew ?_))); (case side2 => exact (Kd.R_reads' HO682.out).2.1); rintro e w21 ⟨rfl, hb⟩; refine ⟨_, rfl, ?_⟩; have n0_ := Aside0.mk (Kd.R_below (by (with_reducible repeat (first | apply Kd.R_alloc | apply Kd.R_drewN | apply Kd.R_drew)); exact HO682.out) hb); have n1_ := Aside0.mk (Kd.R_below (by (with_reducible repeat (first | apply Kd.R_alloc | apply Kd.R_drewN | apply Kd.R_drew)); exact HO686.out) hb); have n2_ := Aside0.mk (Kd.R_below (by (with_reducible repeat (first | apply Kd.R_alloc | apply Kd.R_drewN | apply Kd.R_drew)); exact HO690.out) hb); have n3_ := Aside0.mk (below_step (by repeat (first | (with_reducible first | exact HB.out | apply below_alloc | apply pw_below_drewN | apply below_drew1) | exact HB.out)) hb); clear HO682; clear HO686; clear HO690; clear HB; have HO682 := n0_; have HO686 := n1_; have HO690 := n2_; have HB := n3_; clear n0_ n1_ n2_ n3_; (try clear hb); (try clear hb2); (try clear hk); (try clear hi)) | ((with_reducible refine gate_callee (f := 28) rfl ?_); refine goesL_ (some 75) rfl rfl Try.func28 (by kernel_rfl) rfl #[.slice A0 l0.length c0] rfl (by (try simp only [List.map_toArray, List.map_cons, List.map_nil]); first | done | rfl | (simp only [List.length_drop, List.length_take]; rfl)) ?_; (with_reducible refine (spec_DrawSurelyLitBefore.calls k _ _ l0 t697 t698 t699 t700 _ ?side1 ?side2 A9.out).mono ?_); (case side1 => repeat (first | exact (Kd.C_below HR0.out HB.out) | (with_reducible refine Kd.C_alloc ?_ _) | (with_reducible refine Kd.C_drewN ?_ _) | (with_reducible refine Kd.C_drew ?_))); (case side2 => exact HC0.out); rintro e w22 ⟨v701, rfl, ho0, hb⟩; refine ⟨_, rfl, ?_⟩; have n0_ := Aside0.mk (Kd.R_elder' (by (with_reducible repeat (first | apply Kd.R_alloc | apply Kd.R_drewN | apply Kd.R_drew)); exact HO682.out) (Kd.R_base ho0) hb); have n1_ := Aside0.mk (Kd.R_below (by (with_reducible repeat (first | apply Kd.R_alloc | apply Kd.R_drewN | apply Kd.R_drew)); exact HO686.out) hb); have n2_ := Aside0.mk (Kd.R_below (by (with_reducible repeat (first | apply Kd.R_alloc | apply Kd.R_drewN | apply Kd.R_drew)); exact HO690.out) hb); have n3_ := Aside0.mk (Kd.R_lower (Kd.R_new' ho0 (Kd.R_lt (by (with_reducible repeat (first | apply Kd.R_alloc | apply Kd.R_drewN | apply Kd.R_drew)); exact HO682.out))) (below_size (by repeat (first | (with_reducible first | exact HB.out | apply below_alloc | apply pw_below_drewN | apply below_drew1) | exact HB.out)))); have n4_ := Aside0.mk (below_step (by repeat (first | (with_reducible first | exact HB.out | apply below_alloc | apply pw_below_drewN | apply below_drew1) | exact HB.out)) hb); clear HO682; clear HO686; clear HO690; clear HB; have HO682 := n0_; have HO686 := n1_; have HO690 := n2_; have HO702 := n3_; have HB := n4_; clear n0_ n1_ n2_ n3_ n4_; (try clear hb); (try clear hb2); (try clear hk); (try clear hi); (try clear ho0); obtain ⟨Ao23, co23, eo23⟩ := Kd.R_slice HO702.out; subst eo23) | ((with_reducible refine gate_callee (f := 29) rfl ?_); refine goesL_ (some 85) rfl rfl Try.func29 (by kernel_rfl) rfl #[.int .i64 t697, .slice Ao23 t698.length co23, .int .i64 t699, .int .i64 t700] rfl (by (try simp only [List.map_toArray, List.map_cons, List.map_nil]); first | done | rfl | (simp only [List.length_drop, List.length_take]; rfl)) ?_; (with_reducible refine (impl_SurelyLitBefore.calls k t697 _ _ t698 t699 t700 t703 t704 _ ?side1 ?side2 A10.out).mono ?_); (case side1 => repeat (first | exact (Kd.R_reads' HO702.out).2.2 | (with_reducible refine Kd.C_alloc ?_ _) | (with_reducible refine Kd.C_drewN ?_ _) | (with_reducible refine Kd.C_drew ?_))); (case side2 => exact (Kd.R_reads' HO702.out).2.1); rintro e w24 ⟨rfl, hb⟩; refine ⟨_, rfl, ?_⟩; have n0_ := Aside0.mk (Kd.R_below (by (with_reducible repeat (first | apply Kd.R_alloc | apply Kd.R_drewN | apply Kd.R_drew)); exact HO682.out) hb); have n1_ := Aside0.mk (Kd.R_below (by (with_reducible repeat (first | apply Kd.R_alloc | apply Kd.R_drewN | apply Kd.R_drew)); exact HO686.out) hb); have n2_ := Aside0.mk (Kd.R_below (by (with_reducible repeat (first | apply Kd.R_alloc | apply Kd.R_drewN | apply Kd.R_drew)); exact HO690.out) hb); have n3_ := Aside0.mk (Kd.R_below (by (with_reducible repeat (first | apply Kd.R_alloc | apply Kd.R_drewN | apply Kd.R_drew)); exact HO702.out) hb); have n4_ := Aside0.mk (below_step (by repeat (first | (with_reducible first | exact HB.out | apply below_alloc | apply pw_below_drewN | apply below_drew1) | exact HB.out)) hb); clear HO682; clear HO686; clear HO690; clear HO702; clear HB; have HO682 := n0_; have HO686 := n1_; have HO690 := n2_; have HO702 := n3_; have HB := n4_; clear n0_ n1_ n2_ n3_ n4_; (try clear hb); (try clear hb2); (try clear hk); (try clear hi)) | ((with_reducible refine gate_callee (f := 30) rfl ?_); refine goesL_ (some 93) rfl rfl Try.func30 (by kernel_rfl) rfl #[.int .i64 t697, .slice Ao23 t698.length co23, .int .i64 t699, .int .i64 t700] rfl (by (try simp only [List.map_toArray, List.map_cons, List.map_nil]); first | done | rfl | (simp only [List.length_drop, List.length_take]; rfl)) ?_; (with_reducible refine (spec_SurelyLitBefore.calls k t697 _ _ t698 t699 t700 t705 t706 _ ?side1 ?side2 A11.out).mono ?_); (case side1 => repeat (first | exact (Kd.R_reads' HO702.out).2.2 | (with_reducible refine Kd.C_alloc ?_ _) | (with_reducible refine Kd.C_drewN ?_ _) | (with_reducible refine Kd.C_drew ?_))); (case side2 => exact (Kd.R_reads' HO702.out).2.1); rintro e w25 ⟨rfl, hb⟩; refine ⟨_, rfl, ?_⟩; have n0_ := Aside0.mk (Kd.R_below (by (with_reducible repeat (first | apply Kd.R_alloc | apply Kd.R_drewN | apply Kd.R_drew)); exact HO682.out) hb); have n1_ := Aside0.mk (Kd.R_below (by (with_reducible repeat (first | apply Kd.R_alloc | apply Kd.R_drewN | apply Kd.R_drew)); exact HO686.out) hb); have n2_ := Aside0.mk (Kd.R_below (by (with_reducible repeat (first | apply Kd.R_alloc | apply Kd.R_drewN | apply Kd.R_drew)); exact HO690.out) hb); have n3_ := Aside0.mk (Kd.R_below (by (with_reducible repeat (first | apply Kd.R_alloc | apply Kd.R_drewN | apply Kd.R_drew)); exact HO702.out) hb); have n4_ := Aside0.mk (below_step (by repeat (first | (with_reducible first | exact HB.out | apply below_alloc | apply pw_below_drewN | apply below_drew1) | exact HB.out)) hb); clear HO682; clear HO686; clear HO690; clear HO702; clear HB; have HO682 := n0_; have HO686 := n1_; have HO690 := n2_; have HO702 := n3_; have HB := n4_; clear n0_ n1_ n2_ n3_ n4_; (try clear hb); (try clear hb2); (try clear hk); (try clear hi)) | ((with_reducible refine gate_callee (f := 31) rfl ?_); refine goesL_ (some 98) rfl rfl Try.func31 (by kernel_rfl) rfl #[.slice A0 l0.length c0] rfl (by (try simp only [List.map_toArray, List.map_cons, List.map_nil]); first | done | rfl | (simp only [List.length_drop, List.length_take]; rfl)) ?_; (with_reducible refine (spec_DrawWithoutFuse.calls k _ _ l0 t707 t708 t709 _ ?side1 ?side2 A12.out).mono ?_); (case side1 => repeat (first | exact (Kd.C_below HR0.out HB.out) | (with_reducible refine Kd.C_alloc ?_ _) | (with_reducible refine Kd.C_drewN ?_ _) | (with_reducible refine Kd.C_drew ?_))); (case side2 => exact HC0.out); rintro e w26 ⟨v710, rfl, ho0, hb⟩; refine ⟨_, rfl, ?_⟩; have n0_ := Aside0.mk (Kd.R_elder' (by (with_reducible repeat (first | apply Kd.R_alloc | apply Kd.R_drewN | apply Kd.R_drew)); exact HO682.out) (Kd.R_base ho0) hb); have n1_ := Aside0.mk (Kd.R_below (by (with_reducible repeat (first | apply Kd.R_alloc | apply Kd.R_drewN | apply Kd.R_drew)); exact HO686.out) hb); have n2_ := Aside0.mk (Kd.R_below (by (with_reducible repeat (first | apply Kd.R_alloc | apply Kd.R_drewN | apply Kd.R_drew)); exact HO690.out) hb); have n3_ := Aside0.mk (Kd.R_elder' (by (with_reducible repeat (first | apply Kd.R_alloc | apply Kd.R_drewN | apply Kd.R_drew)); exact HO702.out) (Kd.R_base ho0) hb); have n4_ := Aside0.mk (Kd.R_lower (Kd.R_new' (Kd.R_new' ho0 (Kd.R_lt (by (with_reducible repeat (first | apply Kd.R_alloc | apply Kd.R_drewN | apply Kd.R_drew)); exact HO682.out))) (Kd.R_lt (by (with_reducible repeat (first | apply Kd.R_alloc | apply Kd.R_drewN | apply Kd.R_drew)); exact HO702.out))) (below_size (by repeat (first | (with_reducible first | exact HB.out | apply below_alloc | apply pw_below_drewN | apply below_drew1) | exact HB.out)))); have n5_ := Aside0.mk (below_step (by repeat (first | (with_reducible first | exact HB.out | apply below_alloc | apply pw_below_drewN | apply below_drew1) | exact HB.out)) hb); clear HO682; clear HO686; clear HO690; clear HO702; clear HB; have HO682 := n0_; have HO686 := n1_; have HO690 := n2_; have HO702 := n3_; have HO711 := n4_; have HB := n5_; clear n0_ n1_ n2_ n3_ n4_ n5_; (try clear hb); (try clear hb2); (try clear hk); (try clear hi); (try clear ho0); obtain ⟨Ao27, co27, eo27⟩ := Kd.R_slice HO711.out; subst eo27) | ((with_reducible refine gate_callee (f := 14) rfl ?_); refine goesL_ (some 106) rfl rfl Try.func14 (by kernel_rfl) rfl #[.int .i64 t707, .slice Ao27 t708.length co27, .int .i64 t709] rfl (by (try simp only [List.map_toArray, List.map_cons, List.map_nil]); first | done | rfl | (simp only [List.length_drop, List.length_take]; rfl)) ?_; (with_reducible refine (impl_WithoutFuse.calls k t707 _ _ t708 t709 t712 t713 _ ?side1 ?side2 A13.out).mono ?_); (case side1 => repeat (first | exact (Kd.R_reads' HO711.out).2.2 | (with_reducible refine Kd.C_alloc ?_ _) | (with_reducible refine Kd.C_drewN ?_ _) | (with_reducible refine Kd.C_drew ?_))); (case side2 => exact (Kd.R_reads' HO711.out).2.1); rintro e w28 ⟨v714, rfl, ho0, hb⟩; refine ⟨_, rfl, ?_⟩; have n0_ := Aside0.mk (Kd.R_elder' (by (with_reducible repeat (first | apply Kd.R_alloc | apply Kd.R_drewN | apply Kd.R_drew)); exact HO682.out) (Kd.R_base ho0) hb); have n1_ := Aside0.mk (Kd.R_below (by (with_reducible repeat (first | apply Kd.R_alloc | apply Kd.R_drewN | apply Kd.R_drew)); exact HO686.out) hb); have n2_ := Aside0.mk (Kd.R_below (by (with_reducible repeat (first | apply Kd.R_alloc | apply Kd.R_drewN | apply Kd.R_drew)); exact HO690.out) hb); have n3_ := Aside0.mk (Kd.R_elder' (by (with_reducible repeat (first | apply Kd.R_alloc | apply Kd.R_drewN | apply Kd.R_drew)); exact HO702.out) (Kd.R_base ho0) hb); have n4_ := Aside0.mk (Kd.R_elder' (by (with_reducible repeat (first | apply Kd.R_alloc | apply Kd.R_drewN | apply Kd.R_drew)); exact HO711.out) (Kd.R_base ho0) hb); have n5_ := Aside0.mk (Kd.R_lower (Kd.R_new' (Kd.R_new' (Kd.R_new' ho0 (Kd.R_lt (by (with_reducible repeat (first | apply Kd.R_alloc | apply Kd.R_drewN | apply Kd.R_drew)); exact HO682.out))) (Kd.R_lt (by (with_reducible repeat (first | apply Kd.R_alloc | apply Kd.R_drewN | apply Kd.R_drew)); exact HO702.out))) (Kd.R_lt (by (with_reducible repeat (first | apply Kd.R_alloc | apply Kd.R_drewN | apply Kd.R_drew)); exact HO711.out))) (below_size (by repeat (first | (with_reducible first | exact HB.out | apply below_alloc | apply pw_below_drewN | apply below_drew1) | exact HB.out)))); have n6_ := Aside0.mk (below_step (by repeat (first | (with_reducible first | exact HB.out | apply below_alloc | apply pw_below_drewN | apply below_drew1) | exact HB.out)) hb); clear HO682; clear HO686; clear HO690; clear HO702; clear HO711; clear HB; have HO682 := n0_; have HO686 := n1_; have HO690 := n2_; have HO702 := n3_; have HO711 := n4_; have HO715 := n5_; have HB := n6_; clear n0_ n1_ n2_ n3_ n4_ n5_ n6_; (try clear hb); (try clear hb2); (try clear hk); (try clear hi); (try clear ho0)) | ((with_reducible refine gate_callee (f := 32) rfl ?_); refine goesL_ (some 113) rfl rfl Try.func32 (by kernel_rfl) rfl #[.int .i64 t707, .slice Ao27 t708.length co27, .int .i64 t709] rfl (by (try simp only [List.map_toArray, List.map_cons, List.map_nil]); first | done | rfl | (simp only [List.length_drop, List.length_take]; rfl)) ?_; (with_reducible refine (spec_WithoutFuse.calls k t707 _ _ t708 t709 t716 t717 _ ?side1 ?side2 A14.out).mono ?_); (case side1 => repeat (first | exact (Kd.R_reads' HO711.out).2.2 | (with_reducible refine Kd.C_alloc ?_ _) | (with_reducible refine Kd.C_drewN ?_ _) | (with_reducible refine Kd.C_drew ?_))); (case side2 => exact (Kd.R_reads' HO711.out).2.1); rintro e w29 ⟨v718, rfl, ho0, hb⟩; refine ⟨_, rfl, ?_⟩; have n0_ := Aside0.mk (Kd.R_elder' (by (with_reducible repeat (first | apply Kd.R_alloc | apply Kd.R_drewN | apply Kd.R_drew)); exact HO682.out) (Kd.R_base ho0) hb); have n1_ := Aside0.mk (Kd.R_below (by (with_reducible repeat (first | apply Kd.R_alloc | apply Kd.R_drewN | apply Kd.R_drew)); exact HO686.out) hb); have n2_ := Aside0.mk (Kd.R_below (by (with_reducible repeat (first | apply Kd.R_alloc | apply Kd.R_drewN | apply Kd.R_drew)); exact HO690.out) hb); have n3_ := Aside0.mk (Kd.R_elder' (by (with_reducible repeat (first | apply Kd.R_alloc | apply Kd.R_drewN | apply Kd.R_drew)); exact HO702.out) (Kd.R_base ho0) hb); have n4_ := Aside0.mk (Kd.R_elder' (by (with_reducible repeat (first | apply Kd.R_alloc | apply Kd.R_drewN | apply Kd.R_drew)); exact HO711.out) (Kd.R_base ho0) hb); have n5_ := Aside0.mk (Kd.R_elder' (by (with_reducible repeat (first | apply Kd.R_alloc | apply Kd.R_drewN | apply Kd.R_drew)); exact HO715.out) (Kd.R_base ho0) hb); have n6_ := Aside0.mk (Kd.R_lower (Kd.R_new' (Kd.R_new' (Kd.R_new' (Kd.R_new' ho0 (Kd.R_lt (by (with_reducible repeat (first | apply Kd.R_alloc | apply Kd.R_drewN | apply Kd.R_drew)); exact HO682.out))) (Kd.R_lt (by (with_reducible repeat (first | apply Kd.R_alloc | apply Kd.R_drewN | apply Kd.R_drew)); exact HO702.out))) (Kd.R_lt (by (with_reducible repeat (first | apply Kd.R_alloc | apply Kd.R_drewN | apply Kd.R_drew)); exact HO711.out))) (Kd.R_lt (by (with_reducible repeat (first | apply Kd.R_alloc | apply Kd.R_drewN | apply Kd.R_drew)); exact HO715.out))) (below_size (by repeat (first | (with_reducible first | exact HB.out | apply below_alloc | apply pw_below_drewN | apply below_drew1) | exact HB.out)))); have n7_ := Aside0.mk (below_step (by repeat (first | (with_reducible first | exact HB.out | apply below_alloc | apply pw_below_drewN | apply below_drew1) | exact HB.out)) hb); clear HO682; clear HO686; clear HO690; clear HO702; clear HO711; clear HO715; clear HB; have HO682 := n0_; have HO686 := n1_; have HO690 := n2_; have HO702 := n3_; have HO711 := n4_; have HO715 := n5_; have HO719 := n6_; have HB := n7_; clear n0_ n1_ n2_ n3_ n4_ n5_ n6_ n7_; (try clear hb); (try clear hb2); (try clear hk); (try clear hi); (try clear ho0)))
  (try simp only [Act.put, List.setIfInBounds_toArray, List.set_cons_zero, List.set_cons_succ])
  go_cut [165] (fun v165 wc => ∃ (kq : Nat) (x165_14 : Bool), v165 = .bool x165_14 ∧ Aside0 (laws_FnDarkNodes.j0 kq t679 t680 t683 t684 t691 t692 t697 t698 t699 t700 t703 t704 t707 t708 t712 t713 x165_14 = some r) ∧ Aside0 (kq ≤ k) ∧ Aside0 (Kd.R k39 39 wc w.heap.size (fun k_ => some k_ ≠ ((.slice Ao23 t698.length co23) : Value).ownBlock ∧ some k_ ≠ ((.slice Ao27 t708.length co27) : Value).ownBlock ∧ some k_ ≠ (v714 : Value).ownBlock) (.slice Ao17 t680.length co17) t680) ∧ Aside0 (Kd.R (Kd.int .i64) 2 wc w.heap.size (fun _ => True) v685 t683) ∧ Aside0 (Kd.R k39 39 wc w.heap.size (fun k_ => some k_ ≠ ((.slice Ao17 t680.length co17) : Value).ownBlock ∧ some k_ ≠ ((.slice Ao27 t708.length co27) : Value).ownBlock ∧ some k_ ≠ (v714 : Value).ownBlock) (.slice Ao23 t698.length co23) t698) ∧ Aside0 (Kd.R k39 39 wc w.heap.size (fun k_ => some k_ ≠ ((.slice Ao17 t680.length co17) : Value).ownBlock ∧ some k_ ≠ ((.slice Ao23 t698.length co23) : Value).ownBlock ∧ some k_ ≠ (v714 : Value).ownBlock) (.slice Ao27 t708.length co27) t708) ∧ Aside0 (Kd.R k39 39 wc w.heap.size (fun k_ => some k_ ≠ ((.slice Ao17 t680.length co17) : Value).ownBlock ∧ some k_ ≠ ((.slice Ao23 t698.length co23) : Value).ownBlock ∧ some k_ ≠ ((.slice Ao27 t708.length co27) : Value).ownBlock) v714 t712) ∧ Aside0 (Below w.heap.size w wc))
  case first => as_aux_lemma =>
   have H := HC15.out
   clear HC15
   by_cases c30 : t684 = t688
   ·rw [if_pos c30] at H
    have c30b0 : (t684 == t688) = true := beq_iff_eq.mpr c30
    have c30b1 : (t684 != t688) = false := bne_eq_false_iff_eq.mpr c30
    clear c30
    (first | rw [c30b0] | (simp only [i64_w, i32_w]; rw [c30b0]) | skip)
    replace H := Option.bind_eq_some_iff.mp H
    obtain ⟨t720, A310, H⟩ := H
    replace H : (if t720 = true then (if t693 = t696 then (if t691 = t694 then (if t692 = t695 then (if t704 = t706 then (if (t703 != t705) = true then (laws_FnDarkNodes.j0 k t679 t680 t683 t684 t691 t692 t697 t698 t699 t700 t703 t704 t707 t708 t712 t713 true) else (if t713 = t717 then ((laws_likeFuses.f k t712 t716).bind fun t721 => (if t721 = true then (laws_FnDarkNodes.j0 k t679 t680 t683 t684 t691 t692 t697 t698 t699 t700 t703 t704 t707 t708 t712 t713 (t693 != t684)) else (laws_FnDarkNodes.j0 k t679 t680 t683 t684 t691 t692 t697 t698 t699 t700 t703 t704 t707 t708 t712 t713 true))) else (laws_FnDarkNodes.j0 k t679 t680 t683 t684 t691 t692 t697 t698 t699 t700 t703 t704 t707 t708 t712 t713 true))) else (laws_FnDarkNodes.j0 k t679 t680 t683 t684 t691 t692 t697 t698 t699 t700 t703 t704 t707 t708 t712 t713 true)) else (laws_FnDarkNodes.j0 k t679 t680 t683 t684 t691 t692 t697 t698 t699 t700 t703 t704 t707 t708 t712 t713 true)) else (laws_FnDarkNodes.j0 k t679 t680 t683 t684 t691 t692 t697 t698 t699 t700 t703 t704 t707 t708 t712 t713 true)) else (laws_FnDarkNodes.j0 k t679 t680 t683 t684 t691 t692 t697 t698 t699 t700 t703 t704 t707 t708 t712 t713 true)) else (laws_FnDarkNodes.j0 k t679 t680 t683 t684 t691 t692 t697 t698 t699 t700 t703 t704 t707 t708 t712 t713 true)) = some r := H
    have A31 := Aside0.mk A310
    clear A310
    by_cases c32 : t720 = true
    ·subst c32
     have H1 : (if t693 = t696 then (if t691 = t694 then (if t692 = t695 then (if t704 = t706 then (if (t703 != t705) = true then (laws_FnDarkNodes.j0 k t679 t680 t683 t684 t691 t692 t697 t698 t699 t700 t703 t704 t707 t708 t712 t713 true) else (if t713 = t717 then ((laws_likeFuses.f k t712 t716).bind fun t721 => (if t721 = true then (laws_FnDarkNodes.j0 k t679 t680 t683 t684 t691 t692 t697 t698 t699 t700 t703 t704 t707 t708 t712 t713 (t693 != t684)) else (laws_FnDarkNodes.j0 k t679 t680 t683 t684 t691 t692 t697 t698 t699 t700 t703 t704 t707 t708 t712 t713 true))) else (laws_FnDarkNodes.j0 k t679 t680 t683 t684 t691 t692 t697 t698 t699 t700 t703 t704 t707 t708 t712 t713 true))) else (laws_FnDarkNodes.j0 k t679 t680 t683 t684 t691 t692 t697 t698 t699 t700 t703 t704 t707 t708 t712 t713 true)) else (laws_FnDarkNodes.j0 k t679 t680 t683 t684 t691 t692 t697 t698 t699 t700 t703 t704 t707 t708 t712 t713 true)) else (laws_FnDarkNodes.j0 k t679 t680 t683 t684 t691 t692 t697 t698 t699 t700 t703 t704 t707 t708 t712 t713 true)) else (laws_FnDarkNodes.j0 k t679 t680 t683 t684 t691 t692 t697 t698 t699 t700 t703 t704 t707 t708 t712 t713 true)) = some r := by rw [if_pos rfl] at H; exact H
     clear H
     have H := H1
     clear H1
     by_cases c33 : t693 = t696
     ·rw [if_pos c33] at H
      have c33b0 : (t693 == t696) = true := beq_iff_eq.mpr c33
      have c33b1 : (t693 != t696) = false := bne_eq_false_iff_eq.mpr c33
      clear c33
      by_cases c34 : t691 = t694
      ·rw [if_pos c34] at H
       have c34b0 : (t691 == t694) = true := beq_iff_eq.mpr c34
       have c34b1 : (t691 != t694) = false := bne_eq_false_iff_eq.mpr c34
       clear c34
       by_cases c35 : t692 = t695
       ·rw [if_pos c35] at H
        have c35b0 : (t692 == t695) = true := beq_iff_eq.mpr c35
        have c35b1 : (t692 != t695) = false := bne_eq_false_iff_eq.mpr c35
        clear c35
        by_cases c36 : t704 = t706
        ·rw [if_pos c36] at H
         have c36b0 : (t704 == t706) = true := beq_iff_eq.mpr c36
         have c36b1 : (t704 != t706) = false := bne_eq_false_iff_eq.mpr c36
         clear c36
         by_cases c37 : (t703 != t705) = true
         ·rw [if_pos c37] at H
          have c37b0 : (t703 != t705) = true := c37
          (try (have c37b1 : decide (t703 = t705) = false := by simpa using c37))
          (try (have c37b2 : (t703 == t705) = false := by simpa using c37))
          (try (have c37b3 : ¬ (t703 = t705) := by simpa using c37))
          clear c37
          exact absurd (H.trans (congrArg some HR_.out)) (laws_FnDarkNodes.j0_true _ _ _ _ _ _ _ _ _ _ _ _ _ _ _ _ _)
         ·rw [if_neg c37] at H
          have c37b0 : (t703 != t705) = false := by simpa using c37
          (try (have c37b1 : decide (t703 = t705) = true := by simpa using c37))
          (try (have c37b2 : (t703 == t705) = true := by simpa using c37))
          clear c37
          by_cases c40 : t713 = t717
          ·rw [if_pos c40] at H
           have c40b0 : (t713 == t717) = true := beq_iff_eq.mpr c40
           have c40b1 : (t713 != t717) = false := bne_eq_false_iff_eq.mpr c40
           clear c40
           replace H := Option.bind_eq_some_iff.mp H
           obtain ⟨t721, A410, H⟩ := H
           replace H : (if t721 = true then (laws_FnDarkNodes.j0 k t679 t680 t683 t684 t691 t692 t697 t698 t699 t700 t703 t704 t707 t708 t712 t713 (t693 != t684)) else (laws_FnDarkNodes.j0 k t679 t680 t683 t684 t691 t692 t697 t698 t699 t700 t703 t704 t707 t708 t712 t713 true)) = some r := H
           have A41 := Aside0.mk A410
           clear A410
           by_cases c42 : t721 = true
           ·subst c42
            have H1 : (laws_FnDarkNodes.j0 k t679 t680 t683 t684 t691 t692 t697 t698 t699 t700 t703 t704 t707 t708 t712 t713 (t693 != t684)) = some r := by rw [if_pos rfl] at H; exact H
            clear H
            have H := H1
            clear H1
            have H' := Aside0.mk H
            clear H
            obtain ⟨Ao43, co43, eo43⟩ := Kd.R_slice HO686.out
            subst eo43
            obtain ⟨Ao44, co44, eo44⟩ := Kd.R_slice HO690.out
            subst eo44
            go_wp2_with (first | (go_at_call 12; (with_reducible refine (laws_likeInts.calls k _ _ t683 _ _ t687 true _ ?side1 ?side2 ?side3 ?side4 A31.out).mono ?_); (case side1 => repeat (first | exact (Kd.R_reads' HO686.out).2.2 | (with_reducible refine Kd.C_alloc ?_ _) | (with_reducible refine Kd.C_drewN ?_ _) | (with_reducible refine Kd.C_drew ?_))); (case side2 => exact (Kd.R_reads' HO686.out).2.1); (case side3 => repeat (first | exact (Kd.R_reads' HO690.out).2.2 | (with_reducible refine Kd.C_alloc ?_ _) | (with_reducible refine Kd.C_drewN ?_ _) | (with_reducible refine Kd.C_drew ?_))); (case side4 => exact (Kd.R_reads' HO690.out).2.1); rintro e w' ⟨rfl, ⟨nd, rfl⟩⟩; obtain ⟨Ao45, co45, eo45⟩ := Kd.R_slice HO715.out; subst eo45; obtain ⟨Ao46, co46, eo46⟩ := Kd.R_slice HO719.out; subst eo46) | (go_at_call 33; (with_reducible refine (laws_likeFuses.calls k _ _ t712 _ _ t716 true _ ?side1 ?side2 ?side3 ?side4 A41.out).mono ?_); (case side1 => repeat (first | exact (Kd.R_reads' HO715.out).2.2 | (with_reducible refine Kd.C_alloc ?_ _) | (with_reducible refine Kd.C_drewN ?_ _) | (with_reducible refine Kd.C_drew ?_))); (case side2 => exact (Kd.R_reads' HO715.out).2.1); (case side3 => repeat (first | exact (Kd.R_reads' HO719.out).2.2 | (with_reducible refine Kd.C_alloc ?_ _) | (with_reducible refine Kd.C_drewN ?_ _) | (with_reducible refine Kd.C_drew ?_))); (case side4 => exact (Kd.R_reads' HO719.out).2.1); rintro e w' ⟨rfl, ⟨nd, rfl⟩⟩))
            go_meet
            case rel => exact ⟨_, ((t693 != t684)), (by first | rfl | (simp; done) | (simp [*]; done)), H', ⟨by first | omega | exact Nat.le_refl _⟩, ⟨by (with_reducible repeat (first | apply Kd.R_alloc | apply Kd.R_drewN | apply Kd.R_drew)); exact Kd.R_mono HO682.out (fun _ hk => ⟨hk.1.1.1.2, ⟨hk.1.1.2, hk.1.2⟩⟩)⟩, ⟨by (with_reducible repeat (first | apply Kd.R_alloc | apply Kd.R_drewN | apply Kd.R_drew)); exact Kd.R_mono HO686.out (fun _ hk => trivial)⟩, ⟨by (with_reducible repeat (first | apply Kd.R_alloc | apply Kd.R_drewN | apply Kd.R_drew)); exact Kd.R_mono HO702.out (fun _ hk => ⟨hk.1.1.1.2, ⟨hk.1.1.2, hk.1.2⟩⟩)⟩, ⟨by (with_reducible repeat (first | apply Kd.R_alloc | apply Kd.R_drewN | apply Kd.R_drew)); exact Kd.R_mono HO711.out (fun _ hk => ⟨hk.1.1.1.2, ⟨hk.1.1.2, hk.1.2⟩⟩)⟩, ⟨by (with_reducible repeat (first | apply Kd.R_alloc | apply Kd.R_drewN | apply Kd.R_drew)); exact Kd.R_mono HO715.out (fun _ hk => ⟨hk.1.1.1.2, ⟨hk.1.1.2, hk.1.2⟩⟩)⟩, ⟨by repeat (first | (with_reducible first | exact HB.out | apply below_alloc | apply pw_below_drewN | apply below_drew1) | exact HB.out)⟩⟩
           ·replace c42 := Bool.eq_false_iff.mpr c42
            subst c42
            have H1 : (laws_FnDarkNodes.j0 k t679 t680 t683 t684 t691 t692 t697 t698 t699 t700 t703 t704 t707 t708 t712 t713 true) = some r := by rw [if_neg (show ¬ (false = true) by decide)] at H; exact H
            clear H
            have H := H1
            clear H1
            exact absurd (H.trans (congrArg some HR_.out)) (laws_FnDarkNodes.j0_true _ _ _ _ _ _ _ _ _ _ _ _ _ _ _ _ _)
          ·rw [if_neg c40] at H
           have c40b0 : (t713 == t717) = false := beq_eq_false_iff_ne.mpr c40
           have c40b1 : (t713 != t717) = true := bne_iff_ne.mpr c40
           exact absurd (H.trans (congrArg some HR_.out)) (laws_FnDarkNodes.j0_true _ _ _ _ _ _ _ _ _ _ _ _ _ _ _ _ _)
        ·rw [if_neg c36] at H
         have c36b0 : (t704 == t706) = false := beq_eq_false_iff_ne.mpr c36
         have c36b1 : (t704 != t706) = true := bne_iff_ne.mpr c36
         exact absurd (H.trans (congrArg some HR_.out)) (laws_FnDarkNodes.j0_true _ _ _ _ _ _ _ _ _ _ _ _ _ _ _ _ _)
       ·rw [if_neg c35] at H
        have c35b0 : (t692 == t695) = false := beq_eq_false_iff_ne.mpr c35
        have c35b1 : (t692 != t695) = true := bne_iff_ne.mpr c35
        exact absurd (H.trans (congrArg some HR_.out)) (laws_FnDarkNodes.j0_true _ _ _ _ _ _ _ _ _ _ _ _ _ _ _ _ _)
      ·rw [if_neg c34] at H
       have c34b0 : (t691 == t694) = false := beq_eq_false_iff_ne.mpr c34
       have c34b1 : (t691 != t694) = true := bne_iff_ne.mpr c34
       exact absurd (H.trans (congrArg some HR_.out)) (laws_FnDarkNodes.j0_true _ _ _ _ _ _ _ _ _ _ _ _ _ _ _ _ _)
     ·rw [if_neg c33] at H
      have c33b0 : (t693 == t696) = false := beq_eq_false_iff_ne.mpr c33
      have c33b1 : (t693 != t696) = true := bne_iff_ne.mpr c33
      exact absurd (H.trans (congrArg some HR_.out)) (laws_FnDarkNodes.j0_true _ _ _ _ _ _ _ _ _ _ _ _ _ _ _ _ _)
    ·replace c32 := Bool.eq_false_iff.mpr c32
     subst c32
     have H1 : (laws_FnDarkNodes.j0 k t679 t680 t683 t684 t691 t692 t697 t698 t699 t700 t703 t704 t707 t708 t712 t713 true) = some r := by rw [if_neg (show ¬ (false = true) by decide)] at H; exact H
     clear H
     have H := H1
     clear H1
     exact absurd (H.trans (congrArg some HR_.out)) (laws_FnDarkNodes.j0_true _ _ _ _ _ _ _ _ _ _ _ _ _ _ _ _ _)
   ·rw [if_neg c30] at H
    have c30b0 : (t684 == t688) = false := beq_eq_false_iff_ne.mpr c30
    have c30b1 : (t684 != t688) = true := bne_iff_ne.mpr c30
    (first | rw [c30b0] | (simp only [i64_w, i32_w]; rw [c30b0]) | skip)
    exact absurd (H.trans (congrArg some HR_.out)) (laws_FnDarkNodes.j0_true _ _ _ _ _ _ _ _ _ _ _ _ _ _ _ _ _)
  case rest => as_aux_lemma =>
   clear HC15
   try clear c1
   try clear c2
   try clear p2
   try clear c3
   try clear c4
   try clear c5
   try clear c6
   try clear c14
   try clear c23
   try clear c24
   try clear c25
   try clear c26
   try clear c27
   try clear c28
   try clear c29
   try clear c30
   try clear c30b0
   try clear c30b1
   try clear c31
   try clear c32
   try clear c33
   try clear c33b0
   try clear c33b1
   try clear c34
   try clear c34b0
   try clear c34b1
   try clear c35
   try clear c35b0
   try clear c35b1
   try clear c36
   try clear c36b0
   try clear c36b1
   try clear c37
   try clear c37b0
   try clear c37b1
   try clear c37b2
   try clear c40
   try clear c40b0
   try clear c40b1
   try clear c42
   obtain ⟨kq, x165_14, rfl, HA, HJ14, HO_4, HO_5, HO_16, HO_24, HO_26, HB⟩ := hcut
   cases kq with
   | zero => exact absurd HA.out (by simp [laws_FnDarkNodes.j0])
   | succ kj14 =>
    have H := HA.out
    clear HA
    simp only [laws_FnDarkNodes.j0] at H
    by_cases c63 : x165_14 = true
    ·subst c63
     have H1 : (some false) = some r := by rw [if_pos rfl] at H; exact H
     clear H
     have H := H1
     clear H1
     exact absurd ((Option.some.inj H).trans HR_.out) (by decide)
    ·replace c63 := Bool.eq_false_iff.mpr c63
     subst c63
     have H1 : (if t713 = 0 then (if (t712.length : Int) = (wrap64 ((t708.length : Int) - 1)) then ((impl_AreFuses.f kj14 t707 t712).bind fun t722 => (laws_FnDarkNodes.j1 kj14 t679 t680 t683 t684 t691 t692 t697 t698 t699 t700 t703 t704 (!t722))) else (laws_FnDarkNodes.j1 kj14 t679 t680 t683 t684 t691 t692 t697 t698 t699 t700 t703 t704 true)) else (laws_FnDarkNodes.j1 kj14 t679 t680 t683 t684 t691 t692 t697 t698 t699 t700 t703 t704 false)) = some r := by rw [if_neg (show ¬ (false = true) by decide)] at H; exact H
     clear H
     have H := H1
     clear H1
     have HC64 := Aside0.mk H
     clear H
     go_upto_region 16 with (fail)
     go_cut [181] (fun v181 wc => ∃ (kq : Nat) (x181_63 : Bool), v181 = .bool x181_63 ∧ Aside0 (laws_FnDarkNodes.j1 kq t679 t680 t683 t684 t691 t692 t697 t698 t699 t700 t703 t704 x181_63 = some r) ∧ Aside0 (kq ≤ kj14) ∧ Aside0 (Kd.R k39 39 wc w.heap.size (fun k_ => some k_ ≠ ((.slice Ao23 t698.length co23) : Value).ownBlock) (.slice Ao17 t680.length co17) t680) ∧ Aside0 (Kd.R (Kd.int .i64) 2 wc w.heap.size (fun _ => True) v685 t683) ∧ Aside0 (Kd.R k39 39 wc w.heap.size (fun k_ => some k_ ≠ ((.slice Ao17 t680.length co17) : Value).ownBlock) (.slice Ao23 t698.length co23) t698) ∧ Aside0 (Below w.heap.size w wc))
     case first => as_aux_lemma =>
      have H := HC64.out
      clear HC64
      by_cases c65 : t713 = 0
      ·rw [if_pos c65] at H
       have c65b0 : (t713 == 0) = true := beq_iff_eq.mpr c65
       have c65b1 : (t713 != 0) = false := bne_eq_false_iff_eq.mpr c65
       clear c65
       (first | rw [c65b0] | (simp only [i64_w, i32_w]; rw [c65b0]) | skip)
       by_cases c66 : (t712.length : Int) = (wrap64 ((t708.length : Int) - 1))
       ·rw [if_pos c66] at H
        have c66b0 : ((t712.length : Int) == (wrap64 ((t708.length : Int) - 1))) = true := beq_iff_eq.mpr c66
        have c66b1 : ((t712.length : Int) != (wrap64 ((t708.length : Int) - 1))) = false := bne_eq_false_iff_eq.mpr c66
        clear c66
        replace H := Option.bind_eq_some_iff.mp H
        obtain ⟨t722, A670, H⟩ := H
        replace H : (laws_FnDarkNodes.j1 kj14 t679 t680 t683 t684 t691 t692 t697 t698 t699 t700 t703 t704 (!t722)) = some r := H
        have A67 := Aside0.mk A670
        clear A670
        have H' := Aside0.mk H
        clear H
        obtain ⟨Ao68, co68, eo68⟩ := Kd.R_slice HO_26.out
        subst eo68
        go_wp2_with (first | (go_at_call 20; (with_reducible refine (impl_AreFuses.calls kj14 t707 _ _ t712 t722 _ ?side1 ?side2 A67.out).mono ?_); (case side1 => repeat (first | exact (Kd.R_reads' HO_26.out).2.2 | (with_reducible refine Kd.C_alloc ?_ _) | (with_reducible refine Kd.C_drewN ?_ _) | (with_reducible refine Kd.C_drew ?_))); (case side2 => exact (Kd.R_reads' HO_26.out).2.1); rintro e w69 ⟨rfl, hb⟩; have n0_ := Aside0.mk (Kd.R_below (by (with_reducible repeat (first | apply Kd.R_alloc | apply Kd.R_drewN | apply Kd.R_drew)); exact HO_4.out) hb); have n1_ := Aside0.mk (Kd.R_below (by (with_reducible repeat (first | apply Kd.R_alloc | apply Kd.R_drewN | apply Kd.R_drew)); exact HO_5.out) hb); have n2_ := Aside0.mk (Kd.R_below (by (with_reducible repeat (first | apply Kd.R_alloc | apply Kd.R_drewN | apply Kd.R_drew)); exact HO_16.out) hb); have n3_ := Aside0.mk (Kd.R_below (by (with_reducible repeat (first | apply Kd.R_alloc | apply Kd.R_drewN | apply Kd.R_drew)); exact HO_24.out) hb); have n4_ := Aside0.mk (Kd.R_below (by (with_reducible repeat (first | apply Kd.R_alloc | apply Kd.R_drewN | apply Kd.R_drew)); exact HO_26.out) hb); have n5_ := Aside0.mk (below_step (by repeat (first | (with_reducible first | exact HB.out | apply below_alloc | apply pw_below_drewN | apply below_drew1) | exact HB.out)) hb); clear HO_4; clear HO_5; clear HO_16; clear HO_24; clear HO_26; clear HB; have HO_4 := n0_; have HO_5 := n1_; have HO_16 := n2_; have HO_24 := n3_; have HO_26 := n4_; have HB := n5_; clear n0_ n1_ n2_ n3_ n4_ n5_; (try clear hb); (try clear hb2); (try clear hk); (try clear hi)))
        go_meet
        case rel => exact ⟨_, (!t722), (by first | rfl | (simp; done) | (simp [*]; done)), H', ⟨by have := HJ14.out; first | omega | exact Nat.le_refl _⟩, ⟨by (with_reducible repeat (first | apply Kd.R_alloc | apply Kd.R_drewN | apply Kd.R_drew)); exact Kd.R_mono HO_4.out (fun _ hk => hk.1)⟩, ⟨by (with_reducible repeat (first | apply Kd.R_alloc | apply Kd.R_drewN | apply Kd.R_drew)); exact HO_5.out⟩, ⟨by (with_reducible repeat (first | apply Kd.R_alloc | apply Kd.R_drewN | apply Kd.R_drew)); exact Kd.R_mono HO_16.out (fun _ hk => hk.1)⟩, ⟨by repeat (first | (with_reducible first | exact HB.out | apply below_alloc | apply pw_below_drewN | apply below_drew1) | exact HB.out)⟩⟩
       ·rw [if_neg c66] at H
        have c66b0 : ((t712.length : Int) == (wrap64 ((t708.length : Int) - 1))) = false := beq_eq_false_iff_ne.mpr c66
        have c66b1 : ((t712.length : Int) != (wrap64 ((t708.length : Int) - 1))) = true := bne_iff_ne.mpr c66
        exact absurd (H.trans (congrArg some HR_.out)) (laws_FnDarkNodes.j1_true _ _ _ _ _ _ _ _ _ _ _ _ _)
      ·rw [if_neg c65] at H
       have c65b0 : (t713 == 0) = false := beq_eq_false_iff_ne.mpr c65
       have c65b1 : (t713 != 0) = true := bne_iff_ne.mpr c65
       (first | rw [c65b0] | (simp only [i64_w, i32_w]; rw [c65b0]) | skip)
       have H' := Aside0.mk H
       clear H
       go_wp2
       go_meet
       case rel => exact ⟨_, (false), (by first | rfl | (simp; done) | (simp [*]; done)), H', ⟨by have := HJ14.out; first | omega | exact Nat.le_refl _⟩, ⟨by (with_reducible repeat (first | apply Kd.R_alloc | apply Kd.R_drewN | apply Kd.R_drew)); exact Kd.R_mono HO_4.out (fun _ hk => hk.1)⟩, ⟨by (with_reducible repeat (first | apply Kd.R_alloc | apply Kd.R_drewN | apply Kd.R_drew)); exact HO_5.out⟩, ⟨by (with_reducible repeat (first | apply Kd.R_alloc | apply Kd.R_drewN | apply Kd.R_drew)); exact Kd.R_mono HO_16.out (fun _ hk => hk.1)⟩, ⟨by repeat (first | (with_reducible first | exact HB.out | apply below_alloc | apply pw_below_drewN | apply below_drew1) | exact HB.out)⟩⟩
     case rest => as_aux_lemma =>
      clear HC64
      try clear c1
      try clear c2
      try clear p2
      try clear c3
      try clear c4
      try clear c5
      try clear c6
      try clear p6
      try clear c14
      try clear c23
      try clear c24
      try clear c25
      try clear c26
      try clear c27
      try clear c28
      try clear c29
      try clear c30
      try clear c30b0
      try clear c30b1
      try clear c31
      try clear c32
      try clear c33
      try clear c33b0
      try clear c33b1
      try clear c34
      try clear c34b0
      try clear c34b1
      try clear c35
      try clear c35b0
      try clear c35b1
      try clear c36
      try clear c36b0
      try clear c36b1
      try clear c37
      try clear c37b0
      try clear c37b1
      try clear c37b2
      try clear c40
      try clear c40b0
      try clear c40b1
      try clear c42
      try clear c63
      try clear p64
      try clear c65
      try clear c65b0
      try clear c65b1
      try clear c66
      try clear c66b0
      try clear c66b1
      try clear p2
      obtain ⟨kq, x181_63, rfl, HA, HJ63, HO_4, HO_5, HO_16, HB⟩ := hcut
      cases kq with
      | zero => exact absurd HA.out (by simp [laws_FnDarkNodes.j1])
      | succ kj63 =>
       have H := HA.out
       clear HA
       simp only [laws_FnDarkNodes.j1] at H
       by_cases c71 : x181_63 = true
       ·subst c71
        have H1 : (some false) = some r := by rw [if_pos rfl] at H; exact H
        clear H
        have H := H1
        clear H1
        exact absurd ((Option.some.inj H).trans HR_.out) (by decide)
       ·replace c71 := Bool.eq_false_iff.mpr c71
        subst c71
        have H1 : (if t704 = 0 then ((impl_LitBetween.f kj63 t697 t698 t699).bind fun bt723 => ((impl_LitBetween.f kj63 t697 t698 t700).bind fun bt726 => (if bt723.2.2 = 0 then (if bt726.2.2 = 0 then (if (t703 != (decide (bt723.2.1 < bt726.1))) = true then (some false) else (laws_FnDarkNodes.j2 kj63 t679 t680 t683 t684 t691 t692)) else (some false)) else (some false)))) else (laws_FnDarkNodes.j2 kj63 t679 t680 t683 t684 t691 t692)) = some r := by rw [if_neg (show ¬ (false = true) by decide)] at H; exact H
        clear H
        have H := H1
        clear H1
        have HC72 := Aside0.mk H
        clear H
        go_upto_if 183 with (fail)
        go_cut [] (fun wc => ∃ (kq : Nat), Aside0 (laws_FnDarkNodes.j2 kq t679 t680 t683 t684 t691 t692 = some r) ∧ Aside0 (kq ≤ kj63) ∧ Aside0 (Kd.R k39 39 wc w.heap.size (fun _ => True) (.slice Ao17 t680.length co17) t680) ∧ Aside0 (Kd.R (Kd.int .i64) 2 wc w.heap.size (fun _ => True) v685 t683) ∧ Aside0 (Below w.heap.size w wc))
        case first => as_aux_lemma =>
         have H := HC72.out
         clear HC72
         by_cases c73 : t704 = 0
         ·rw [if_pos c73] at H
          have c73b0 : (t704 == 0) = true := beq_iff_eq.mpr c73
          have c73b1 : (t704 != 0) = false := bne_eq_false_iff_eq.mpr c73
          clear c73
          (first | rw [c73b0] | (simp only [i64_w, i32_w]; rw [c73b0]) | skip)
          replace H := Option.bind_eq_some_iff.mp H
          obtain ⟨⟨t723, t724, t725⟩, A740, H⟩ := H
          replace H : ((impl_LitBetween.f kj63 t697 t698 t700).bind fun bt726 => (if t725 = 0 then (if bt726.2.2 = 0 then (if (t703 != (decide (t724 < bt726.1))) = true then (some false) else (laws_FnDarkNodes.j2 kj63 t679 t680 t683 t684 t691 t692)) else (some false)) else (some false))) = some r := H
          have A74 := Aside0.mk A740
          clear A740
          replace H := Option.bind_eq_some_iff.mp H
          obtain ⟨⟨t726, t727, t728⟩, A750, H⟩ := H
          replace H : (if t725 = 0 then (if t728 = 0 then (if (t703 != (decide (t724 < t726))) = true then (some false) else (laws_FnDarkNodes.j2 kj63 t679 t680 t683 t684 t691 t692)) else (some false)) else (some false)) = some r := H
          have A75 := Aside0.mk A750
          clear A750
          by_cases c76 : t725 = 0
          ·rw [if_pos c76] at H
           have c76b0 : (t725 == 0) = true := beq_iff_eq.mpr c76
           have c76b1 : (t725 != 0) = false := bne_eq_false_iff_eq.mpr c76
           clear c76
           by_cases c77 : t728 = 0
           ·rw [if_pos c77] at H
            have c77b0 : (t728 == 0) = true := beq_iff_eq.mpr c77
            have c77b1 : (t728 != 0) = false := bne_eq_false_iff_eq.mpr c77
            clear c77
            by_cases c78 : (t703 != (decide (t724 < t726))) = true
            ·rw [if_pos c78] at H
             have c78b0 : (t703 != (decide (t724 < t726))) = true := c78
             (try (have c78b1 : decide (t703 = (decide (t724 < t726))) = false := by simpa using c78))
             (try (have c78b2 : (t703 == (decide (t724 < t726))) = false := by simpa using c78))
             (try (have c78b3 : ¬ (t703 = (decide (t724 < t726))) := by simpa using c78))
             clear c78
             exact absurd ((Option.some.inj H).trans HR_.out) (by decide)
            ·rw [if_neg c78] at H
             have c78b0 : (t703 != (decide (t724 < t726))) = false := by simpa using c78
             (try (have c78b1 : decide (t703 = (decide (t724 < t726))) = true := by simpa using c78))
             (try (have c78b2 : (t703 == (decide (t724 < t726))) = true := by simpa using c78))
             clear c78
             have H' := Aside0.mk H
             clear H
             go_wp2_with (first | ((with_reducible refine gate_callee (f := 13) rfl ?_); refine goesL_ (some 188) rfl rfl Try.func13 (by kernel_rfl) rfl #[.int .i64 t697, .slice Ao23 t698.length co23, .int .i64 t699] rfl (by (try simp only [List.map_toArray, List.map_cons, List.map_nil]); first | done | rfl | (simp only [List.length_drop, List.length_take]; rfl)) ?_; (with_reducible refine (impl_LitBetween.calls kj63 t697 _ _ t698 t699 t723 t724 t725 _ ?side1 ?side2 A74.out).mono ?_); (case side1 => repeat (first | exact (Kd.R_reads' HO_16.out).2.2 | (with_reducible refine Kd.C_alloc ?_ _) | (with_reducible refine Kd.C_drewN ?_ _) | (with_reducible refine Kd.C_drew ?_))); (case side2 => exact (Kd.R_reads' HO_16.out).2.1); rintro e w81 ⟨rfl, hb⟩; refine ⟨_, rfl, ?_⟩; have n0_ := Aside0.mk (Kd.R_below (by (with_reducible repeat (first | apply Kd.R_alloc | apply Kd.R_drewN | apply Kd.R_drew)); exact HO_4.out) hb); have n1_ := Aside0.mk (Kd.R_below (by (with_reducible repeat (first | apply Kd.R_alloc | apply Kd.R_drewN | apply Kd.R_drew)); exact HO_5.out) hb); have n2_ := Aside0.mk (Kd.R_below (by (with_reducible repeat (first | apply Kd.R_alloc | apply Kd.R_drewN | apply Kd.R_drew)); exact HO_16.out) hb); have n3_ := Aside0.mk (below_step (by repeat (first | (with_reducible first | exact HB.out | apply below_alloc | apply pw_below_drewN | apply below_drew1) | exact HB.out)) hb); clear HO_4; clear HO_5; clear HO_16; clear HB; have HO_4 := n0_; have HO_5 := n1_; have HO_16 := n2_; have HB := n3_; clear n0_ n1_ n2_ n3_; (try clear hb); (try clear hb2); (try clear hk); (try clear hi)) | ((with_reducible refine gate_callee (f := 13) rfl ?_); refine goesL_ (some 196) rfl rfl Try.func13 (by kernel_rfl) rfl #[.int .i64 t697, .slice Ao23 t698.length co23, .int .i64 t700] rfl (by (try simp only [List.map_toArray, List.map_cons, List.map_nil]); first | done | rfl | (simp only [List.length_drop, List.length_take]; rfl)) ?_; (with_reducible refine (impl_LitBetween.calls kj63 t697 _ _ t698 t700 t726 t727 t728 _ ?side1 ?side2 A75.out).mono ?_); (case side1 => repeat (first | exact (Kd.R_reads' HO_16.out).2.2 | (with_reducible refine Kd.C_alloc ?_ _) | (with_reducible refine Kd.C_drewN ?_ _) | (with_reducible refine Kd.C_drew ?_))); (case side2 => exact (Kd.R_reads' HO_16.out).2.1); rintro e w82 ⟨rfl, hb⟩; refine ⟨_, rfl, ?_⟩; have n0_ := Aside0.mk (Kd.R_below (by (with_reducible repeat (first | apply Kd.R_alloc | apply Kd.R_drewN | apply Kd.R_drew)); exact HO_4.out) hb); have n1_ := Aside0.mk (Kd.R_below (by (with_reducible repeat (first | apply Kd.R_alloc | apply Kd.R_drewN | apply Kd.R_drew)); exact HO_5.out) hb); have n2_ := Aside0.mk (Kd.R_below (by (with_reducible repeat (first | apply Kd.R_alloc | apply Kd.R_drewN | apply Kd.R_drew)); exact HO_16.out) hb); have n3_ := Aside0.mk (below_step (by repeat (first | (with_reducible first | exact HB.out | apply below_alloc | apply pw_below_drewN | apply below_drew1) | exact HB.out)) hb); clear HO_4; clear HO_5; clear HO_16; clear HB; have HO_4 := n0_; have HO_5 := n1_; have HO_16 := n2_; have HB := n3_; clear n0_ n1_ n2_ n3_; (try clear hb); (try clear hb2); (try clear hk); (try clear hi)))
             go_meet
             case rel => exact ⟨_, H', ⟨by have := HJ14.out; have := HJ63.out; first | omega | exact Nat.le_refl _⟩, ⟨by (with_reducible repeat (first | apply Kd.R_alloc | apply Kd.R_drewN | apply Kd.R_drew)); exact Kd.R_mono HO_4.out (fun _ hk => trivial)⟩, ⟨by (with_reducible repeat (first | apply Kd.R_alloc | apply Kd.R_drewN | apply Kd.R_drew)); exact HO_5.out⟩, ⟨by repeat (first | (with_reducible first | exact HB.out | apply below_alloc | apply pw_below_drewN | apply below_drew1) | exact HB.out)⟩⟩
           ·rw [if_neg c77] at H
            have c77b0 : (t728 == 0) = false := beq_eq_false_iff_ne.mpr c77
            have c77b1 : (t728 != 0) = true := bne_iff_ne.mpr c77
            exact absurd ((Option.some.inj H).trans HR_.out) (by decide)
          ·rw [if_neg c76] at H
           have c76b0 : (t725 == 0) = false := beq_eq_false_iff_ne.mpr c76
           have c76b1 : (t725 != 0) = true := bne_iff_ne.mpr c76
           exact absurd ((Option.some.inj H).trans HR_.out) (by decide)
         ·rw [if_neg c73] at H
          have c73b0 : (t704 == 0) = false := beq_eq_false_iff_ne.mpr c73
          have c73b1 : (t704 != 0) = true := bne_iff_ne.mpr c73
          (first | rw [c73b0] | (simp only [i64_w, i32_w]; rw [c73b0]) | skip)
          have H' := Aside0.mk H
          clear H
          go_wp2
          go_meet
          case rel => exact ⟨_, H', ⟨by have := HJ14.out; have := HJ63.out; first | omega | exact Nat.le_refl _⟩, ⟨by (with_reducible repeat (first | apply Kd.R_alloc | apply Kd.R_drewN | apply Kd.R_drew)); exact Kd.R_mono HO_4.out (fun _ hk => trivial)⟩, ⟨by (with_reducible repeat (first | apply Kd.R_alloc | apply Kd.R_drewN | apply Kd.R_drew)); exact HO_5.out⟩, ⟨by repeat (first | (with_reducible first | exact HB.out | apply below_alloc | apply pw_below_drewN | apply below_drew1) | exact HB.out)⟩⟩
        case rest => as_aux_lemma =>
         clear HC72
         try clear c1
         try clear c2
         try clear p2
         try clear c3
         try clear c4
         try clear c5
         try clear c6
         try clear p6
         try clear c7
         try clear c13
         try clear c14
         try clear c23
         try clear c24
         try clear c25
         try clear c26
         try clear c27
         try clear c28
         try clear c29
         try clear c30
         try clear c30b0
         try clear c30b1
         try clear c31
         try clear c32
         try clear c33
         try clear c33b0
         try clear c33b1
         try clear c34
         try clear c34b0
         try clear c34b1
         try clear c35
         try clear c35b0
         try clear c35b1
         try clear c36
         try clear c36b0
         try clear c36b1
         try clear c37
         try clear c37b0
         try clear c37b1
         try clear c37b2
         try clear c40
         try clear c40b0
         try clear c40b1
         try clear c42
         try clear c63
         try clear p64
         try clear c65
         try clear c65b0
         try clear c65b1
         try clear c66
         try clear c66b0
         try clear c66b1
         try clear c71
         try clear c73
         try clear c73b0
         try clear c73b1
         try clear c76
         try clear c76b0
         try clear c76b1
         try clear c77
         try clear c77b0
         try clear c77b1
         try clear c78
         try clear c78b0
         try clear c78b1
         try clear c78b2
         try clear p2
         try clear p6
         try clear p64
         obtain ⟨kq, HA, HJ71, HO_4, HO_5, HB⟩ := hcut
         cases kq with
         | zero => exact absurd HA.out (by simp [laws_FnDarkNodes.j2])
         | succ kj71 =>
          have H := HA.out
          clear HA
          simp only [laws_FnDarkNodes.j2] at H
          have H' := Aside0.mk H
          clear H
          go_wp2
          go_loopg [36] kj71 (fun kq v36 w' => ∃ (x36_4 : Int), v36 = .int .i64 x36_4 ∧ Aside0 (laws_FnDarkNodes.l0 kq t679 t680 t683 t684 t691 t692 x36_4 = some r) ∧ Aside0 (kq ≤ kj71) ∧ Aside0 (Kd.R k39 39 w' w.heap.size (fun _ => True) (.slice Ao17 t680.length co17) t680) ∧ Aside0 (Kd.R (Kd.int .i64) 2 w' w.heap.size (fun _ => True) v685 t683) ∧ Aside0 (Below w.heap.size w w'))
          case atStart => exact ⟨(0), (by first | rfl | (simp; done) | (simp [*]; done)), H', ⟨Nat.le_refl _⟩, ⟨by (with_reducible repeat (first | apply Kd.R_alloc | apply Kd.R_drewN | apply Kd.R_drew)); exact HO_4.out⟩, ⟨by (with_reducible repeat (first | apply Kd.R_alloc | apply Kd.R_drewN | apply Kd.R_drew)); exact HO_5.out⟩, ⟨by repeat (first | (with_reducible first | exact HB.out | apply below_alloc | apply pw_below_drewN | apply below_drew1) | exact HB.out)⟩⟩
          case round => as_aux_lemma =>
           clear H'
           try clear c1
           try clear c2
           try clear p2
           try clear c3
           try clear c4
           try clear c5
           try clear c6
           try clear p6
           try clear c7
           try clear c13
           try clear c14
           try clear c23
           try clear c24
           try clear c25
           try clear c26
           try clear c27
           try clear c28
           try clear c29
           try clear c30
           try clear c30b0
           try clear c30b1
           try clear c31
           try clear c32
           try clear c33
           try clear c33b0
           try clear c33b1
           try clear c34
           try clear c34b0
           try clear c34b1
           try clear c35
           try clear c35b0
           try clear c35b1
           try clear c36
           try clear c36b0
           try clear c36b1
           try clear c37
           try clear c37b0
           try clear c37b1
           try clear c37b2
           try clear c40
           try clear c40b0
           try clear c40b1
           try clear c42
           try clear c63
           try clear p64
           try clear c65
           try clear c65b0
           try clear c65b1
           try clear c66
           try clear c66b0
           try clear c66b1
           try clear c71
           try clear c73
           try clear c73b0
           try clear c73b1
           try clear c76
           try clear c76b0
           try clear c76b1
           try clear c77
           try clear c77b0
           try clear c77b1
           try clear c78
           try clear c78b0
           try clear c78b1
           try clear c78b2
           try clear p2
           try clear p6
           try clear p64
           obtain ⟨x36_4, rfl, HA, HK4, HO_4, HO_5, HB⟩ := hrel
           cases gk with
           | zero => exact absurd HA.out (by simp [laws_FnDarkNodes.l0])
           | succ k4 =>
            have H := HA.out
            clear HA
            simp only [laws_FnDarkNodes.l0] at H
            have HC87 := Aside0.mk H
            clear H
            go_upto_region 24 with (fail)
            go_cut [219] (fun v219 wc => ∃ (kq : Nat) (x219_86 : Bool), v219 = .bool x219_86 ∧ Aside0 (laws_FnDarkNodes.j4 kq t679 t680 t683 t684 t691 t692 x36_4 x219_86 = some r) ∧ Aside0 (kq ≤ k4) ∧ Aside0 (Kd.R k39 39 wc w.heap.size (fun _ => True) (.slice Ao17 t680.length co17) t680) ∧ Aside0 (Kd.R (Kd.int .i64) 2 wc w.heap.size (fun _ => True) v685 t683) ∧ Aside0 (Below w.heap.size w wc))
            case first => as_aux_lemma =>
             have H := HC87.out
             clear HC87
             by_cases c88 : t684 = 0
             ·rw [if_pos c88] at H
              have c88b0 : (t684 == 0) = true := beq_iff_eq.mpr c88
              have c88b1 : (t684 != 0) = false := bne_eq_false_iff_eq.mpr c88
              clear c88
              (first | rw [c88b0] | (simp only [i64_w, i32_w]; rw [c88b0]) | skip)
              have H' := Aside0.mk H
              clear H
              go_wp2
              go_meet
              case rel => exact ⟨_, (decide (x36_4 < t679)), (by first | rfl | (simp; done) | (simp [*]; done)), H', ⟨by have := HJ14.out; have := HJ63.out; have := HJ71.out; have := HK4.out; first | omega | exact Nat.le_refl _⟩, ⟨by (with_reducible repeat (first | apply Kd.R_alloc | apply Kd.R_drewN | apply Kd.R_drew)); exact HO_4.out⟩, ⟨by (with_reducible repeat (first | apply Kd.R_alloc | apply Kd.R_drewN | apply Kd.R_drew)); exact HO_5.out⟩, ⟨by repeat (first | (with_reducible first | exact HB.out | apply below_alloc | apply pw_below_drewN | apply below_drew1) | exact HB.out)⟩⟩
             ·rw [if_neg c88] at H
              have c88b0 : (t684 == 0) = false := beq_eq_false_iff_ne.mpr c88
              have c88b1 : (t684 != 0) = true := bne_iff_ne.mpr c88
              (first | rw [c88b0] | (simp only [i64_w, i32_w]; rw [c88b0]) | skip)
              have H' := Aside0.mk H
              clear H
              go_wp2
              go_meet
              case rel => exact ⟨_, (false), (by first | rfl | (simp; done) | (simp [*]; done)), H', ⟨by have := HJ14.out; have := HJ63.out; have := HJ71.out; have := HK4.out; first | omega | exact Nat.le_refl _⟩, ⟨by (with_reducible repeat (first | apply Kd.R_alloc | apply Kd.R_drewN | apply Kd.R_drew)); exact HO_4.out⟩, ⟨by (with_reducible repeat (first | apply Kd.R_alloc | apply Kd.R_drewN | apply Kd.R_drew)); exact HO_5.out⟩, ⟨by repeat (first | (with_reducible first | exact HB.out | apply below_alloc | apply pw_below_drewN | apply below_drew1) | exact HB.out)⟩⟩
            case rest => as_aux_lemma =>
             clear HC87
             try clear c1
             try clear c2
             try clear p2
             try clear c3
             try clear c4
             try clear c5
             try clear c6
             try clear p6
             try clear c7
             try clear c8
             try clear c13
             try clear c14
             try clear c23
             try clear c24
             try clear c25
             try clear c26
             try clear c27
             try clear c28
             try clear c29
             try clear c30
             try clear c30b0
             try clear c30b1
             try clear c31
             try clear c32
             try clear c33
             try clear c33b0
             try clear c33b1
             try clear c34
             try clear c34b0
             try clear c34b1
             try clear c35
             try clear c35b0
             try clear c35b1
             try clear c36
             try clear c36b0
             try clear c36b1
             try clear c37
             try clear c37b0
             try clear c37b1
             try clear c37b2
             try clear c40
             try clear c40b0
             try clear c40b1
             try clear c42
             try clear c63
             try clear p64
             try clear c65
             try clear c65b0
             try clear c65b1
             try clear c66
             try clear c66b0
             try clear c66b1
             try clear c71
             try clear c73
             try clear c73b0
             try clear c73b1
             try clear c76
             try clear c76b0
             try clear c76b1
             try clear c77
             try clear c77b0
             try clear c77b1
             try clear c78
             try clear c78b0
             try clear c78b1
             try clear c78b2
             try clear c88
             try clear c88b0
             try clear c88b1
             try clear p2
             try clear p6
             try clear p64
             obtain ⟨kq, x219_86, rfl, HA, HJ86, HO_4, HO_5, HB⟩ := hcut
             cases kq with
             | zero => exact absurd HA.out (by simp [laws_FnDarkNodes.j4])
             | succ kj86 =>
              have H := HA.out
              clear HA
              simp only [laws_FnDarkNodes.j4] at H
              by_cases c89 : x219_86 = true
              ·subst c89
               have H1 : ((impl_LitBetween.f kj86 t679 t680 x36_4).bind fun bt729 => ((laws_hasInt.f kj86 t683 x36_4).bind fun t732 => (if (t732 != (bt729.2.2 == 4)) = true then (some false) else (if bt729.2.2 = 0 then (if bt729.2.1 > t692 then (some false) else (if bt729.2.1 = t692 then (if x36_4 < t691 then (some false) else (laws_FnDarkNodes.l0 kj86 t679 t680 t683 t684 t691 t692 (wrap64 (x36_4 + 1)))) else (laws_FnDarkNodes.l0 kj86 t679 t680 t683 t684 t691 t692 (wrap64 (x36_4 + 1))))) else (laws_FnDarkNodes.l0 kj86 t679 t680 t683 t684 t691 t692 (wrap64 (x36_4 + 1))))))) = some r := by rw [if_pos rfl] at H; exact H
               clear H
               have H := H1
               clear H1
               replace H := Option.bind_eq_some_iff.mp H
               obtain ⟨⟨t729, t730, t731⟩, A900, H⟩ := H
               replace H : ((laws_hasInt.f kj86 t683 x36_4).bind fun t732 => (if (t732 != (t731 == 4)) = true then (some false) else (if t731 = 0 then (if t730 > t692 then (some false) else (if t730 = t692 then (if x36_4 < t691 then (some false) else (laws_FnDarkNodes.l0 kj86 t679 t680 t683 t684 t691 t692 (wrap64 (x36_4 + 1)))) else (laws_FnDarkNodes.l0 kj86 t679 t680 t683 t684 t691 t692 (wrap64 (x36_4 + 1))))) else (laws_FnDarkNodes.l0 kj86 t679 t680 t683 t684 t691 t692 (wrap64 (x36_4 + 1)))))) = some r := H
               have A90 := Aside0.mk A900
               clear A900
               replace H := Option.bind_eq_some_iff.mp H
               obtain ⟨t732, A910, H⟩ := H
               replace H : (if (t732 != (t731 == 4)) = true then (some false) else (if t731 = 0 then (if t730 > t692 then (some false) else (if t730 = t692 then (if x36_4 < t691 then (some false) else (laws_FnDarkNodes.l0 kj86 t679 t680 t683 t684 t691 t692 (wrap64 (x36_4 + 1)))) else (laws_FnDarkNodes.l0 kj86 t679 t680 t683 t684 t691 t692 (wrap64 (x36_4 + 1))))) else (laws_FnDarkNodes.l0 kj86 t679 t680 t683 t684 t691 t692 (wrap64 (x36_4 + 1))))) = some r := H
               have A91 := Aside0.mk A910
               clear A910
               by_cases c92 : (t732 != (t731 == 4)) = true
               ·rw [if_pos c92] at H
                have c92b0 : (t732 != (t731 == 4)) = true := c92
                (try (have c92b1 : decide (t732 = (t731 == 4)) = false := by simpa using c92))
                (try (have c92b2 : (t732 == (t731 == 4)) = false := by simpa using c92))
                (try (have c92b3 : ¬ (t732 = (t731 == 4)) := by simpa using c92))
                clear c92
                exact absurd ((Option.some.inj H).trans HR_.out) (by decide)
               ·rw [if_neg c92] at H
                have c92b0 : (t732 != (t731 == 4)) = false := by simpa using c92
                (try (have c92b1 : decide (t732 = (t731 == 4)) = true := by simpa using c92))
                (try (have c92b2 : (t732 == (t731 == 4)) = true := by simpa using c92))
                clear c92
                by_cases c95 : t731 = 0
                ·rw [if_pos c95] at H
                 have c95b0 : (t731 == 0) = true := beq_iff_eq.mpr c95
                 have c95b1 : (t731 != 0) = false := bne_eq_false_iff_eq.mpr c95
                 clear c95
                 by_cases c96 : t730 > t692
                 ·rw [if_pos c96] at H
                  have c96b0 : decide (t692 < t730) = true := decide_eq_true c96
                  clear c96
                  exact absurd ((Option.some.inj H).trans HR_.out) (by decide)
                 ·rw [if_neg c96] at H
                  have c96b0 : decide (t692 < t730) = false := decide_eq_false c96
                  clear c96
                  by_cases c99 : t730 = t692
                  ·rw [if_pos c99] at H
                   have c99b0 : (t730 == t692) = true := beq_iff_eq.mpr c99
                   have c99b1 : (t730 != t692) = false := bne_eq_false_iff_eq.mpr c99
                   clear c99
                   by_cases c100 : x36_4 < t691
                   ·rw [if_pos c100] at H
                    have c100b0 : decide (x36_4 < t691) = true := decide_eq_true c100
                    clear c100
                    exact absurd ((Option.some.inj H).trans HR_.out) (by decide)
                   ·rw [if_neg c100] at H
                    have c100b0 : decide (x36_4 < t691) = false := decide_eq_false c100
                    clear c100
                    have H' := Aside0.mk H
                    clear H
                    go_wp2_with (first | ((with_reducible refine gate_callee (f := 13) rfl ?_); refine goesL_ (some 226) rfl rfl Try.func13 (by kernel_rfl) rfl #[.int .i64 t679, .slice Ao17 t680.length co17, .int .i64 x36_4] rfl (by (try simp only [List.map_toArray, List.map_cons, List.map_nil]); first | done | rfl | (simp only [List.length_drop, List.length_take]; rfl)) ?_; (with_reducible refine (impl_LitBetween.calls kj86 t679 _ _ t680 x36_4 t729 t730 t731 _ ?side1 ?side2 A90.out).mono ?_); (case side1 => repeat (first | exact (Kd.R_reads' HO_4.out).2.2 | (with_reducible refine Kd.C_alloc ?_ _) | (with_reducible refine Kd.C_drewN ?_ _) | (with_reducible refine Kd.C_drew ?_))); (case side2 => exact (Kd.R_reads' HO_4.out).2.1); rintro e w103 ⟨rfl, hb⟩; refine ⟨_, rfl, ?_⟩; have n0_ := Aside0.mk (Kd.R_below (by (with_reducible repeat (first | apply Kd.R_alloc | apply Kd.R_drewN | apply Kd.R_drew)); exact HO_4.out) hb); have n1_ := Aside0.mk (Kd.R_below (by (with_reducible repeat (first | apply Kd.R_alloc | apply Kd.R_drewN | apply Kd.R_drew)); exact HO_5.out) hb); have n2_ := Aside0.mk (below_step (by repeat (first | (with_reducible first | exact HB.out | apply below_alloc | apply pw_below_drewN | apply below_drew1) | exact HB.out)) hb); clear HO_4; clear HO_5; clear HB; have HO_4 := n0_; have HO_5 := n1_; have HB := n2_; clear n0_ n1_ n2_; (try clear hb); (try clear hb2); (try clear hk); (try clear hi); obtain ⟨Ao104, co104, eo104⟩ := Kd.R_slice HO_5.out; subst eo104) | ((with_reducible refine gate_callee (f := 15) rfl ?_); refine goesL_ (some 232) rfl rfl Try.func15 (by kernel_rfl) rfl #[.slice Ao104 t683.length co104, .int .i64 x36_4] rfl (by (try simp only [List.map_toArray, List.map_cons, List.map_nil]); first | done | rfl | (simp only [List.length_drop, List.length_take]; rfl)) ?_; (with_reducible refine (laws_hasInt.calls kj86 _ _ t683 x36_4 t732 _ ?side1 ?side2 A91.out).mono ?_); (case side1 => repeat (first | exact (Kd.R_reads' HO_5.out).2.2 | (with_reducible refine Kd.C_alloc ?_ _) | (with_reducible refine Kd.C_drewN ?_ _) | (with_reducible refine Kd.C_drew ?_))); (case side2 => exact (Kd.R_reads' HO_5.out).2.1); rintro e w' ⟨rfl, ⟨nd, rfl⟩⟩; refine ⟨_, rfl, ?_⟩))
                    go_roundg kj86
                    case measure => have := HJ14.out; have := HJ63.out; have := HJ71.out; have := HK4.out; have := HJ86.out; omega
                    case rel => exact ⟨(wrap64 (x36_4 + 1)), (by first | rfl | (simp; done) | (simp [*]; done)), H', ⟨by have := HJ14.out; have := HJ63.out; have := HJ71.out; have := HK4.out; have := HJ86.out; omega⟩, ⟨by (with_reducible repeat (first | apply Kd.R_alloc | apply Kd.R_drewN | apply Kd.R_drew)); exact HO_4.out⟩, ⟨by (with_reducible repeat (first | apply Kd.R_alloc | apply Kd.R_drewN | apply Kd.R_drew)); exact HO_5.out⟩, ⟨by repeat (first | (with_reducible first | exact HB.out | apply below_alloc | apply pw_below_drewN | apply below_drew1) | exact HB.out)⟩⟩
                  ·rw [if_neg c99] at H
                   have c99b0 : (t730 == t692) = false := beq_eq_false_iff_ne.mpr c99
                   have c99b1 : (t730 != t692) = true := bne_iff_ne.mpr c99
                   have H' := Aside0.mk H
                   clear H
                   go_wp2_with (first | ((with_reducible refine gate_callee (f := 13) rfl ?_); refine goesL_ (some 226) rfl rfl Try.func13 (by kernel_rfl) rfl #[.int .i64 t679, .slice Ao17 t680.length co17, .int .i64 x36_4] rfl (by (try simp only [List.map_toArray, List.map_cons, List.map_nil]); first | done | rfl | (simp only [List.length_drop, List.length_take]; rfl)) ?_; (with_reducible refine (impl_LitBetween.calls kj86 t679 _ _ t680 x36_4 t729 t730 t731 _ ?side1 ?side2 A90.out).mono ?_); (case side1 => repeat (first | exact (Kd.R_reads' HO_4.out).2.2 | (with_reducible refine Kd.C_alloc ?_ _) | (with_reducible refine Kd.C_drewN ?_ _) | (with_reducible refine Kd.C_drew ?_))); (case side2 => exact (Kd.R_reads' HO_4.out).2.1); rintro e w105 ⟨rfl, hb⟩; refine ⟨_, rfl, ?_⟩; have n0_ := Aside0.mk (Kd.R_below (by (with_reducible repeat (first | apply Kd.R_alloc | apply Kd.R_drewN | apply Kd.R_drew)); exact HO_4.out) hb); have n1_ := Aside0.mk (Kd.R_below (by (with_reducible repeat (first | apply Kd.R_alloc | apply Kd.R_drewN | apply Kd.R_drew)); exact HO_5.out) hb); have n2_ := Aside0.mk (below_step (by repeat (first | (with_reducible first | exact HB.out | apply below_alloc | apply pw_below_drewN | apply below_drew1) | exact HB.out)) hb); clear HO_4; clear HO_5; clear HB; have HO_4 := n0_; have HO_5 := n1_; have HB := n2_; clear n0_ n1_ n2_; (try clear hb); (try clear hb2); (try clear hk); (try clear hi); obtain ⟨Ao106, co106, eo106⟩ := Kd.R_slice HO_5.out; subst eo106) | ((with_reducible refine gate_callee (f := 15) rfl ?_); refine goesL_ (some 232) rfl rfl Try.func15 (by kernel_rfl) rfl #[.slice Ao106 t683.length co106, .int .i64 x36_4] rfl (by (try simp only [List.map_toArray, List.map_cons, List.map_nil]); first | done | rfl | (simp only [List.length_drop, List.length_take]; rfl)) ?_; (with_reducible refine (laws_hasInt.calls kj86 _ _ t683 x36_4 t732 _ ?side1 ?side2 A91.out).mono ?_); (case side1 => repeat (first | exact (Kd.R_reads' HO_5.out).2.2 | (with_reducible refine Kd.C_alloc ?_ _) | (with_reducible refine Kd.C_drewN ?_ _) | (with_reducible refine Kd.C_drew ?_))); (case side2 => exact (Kd.R_reads' HO_5.out).2.1); rintro e w' ⟨rfl, ⟨nd, rfl⟩⟩; refine ⟨_, rfl, ?_⟩))
                   go_roundg kj86
                   case measure => have := HJ14.out; have := HJ63.out; have := HJ71.out; have := HK4.out; have := HJ86.out; omega
                   case rel => exact ⟨(wrap64 (x36_4 + 1)), (by first | rfl | (simp; done) | (simp [*]; done)), H', ⟨by have := HJ14.out; have := HJ63.out; have := HJ71.out; have := HK4.out; have := HJ86.out; omega⟩, ⟨by (with_reducible repeat (first | apply Kd.R_alloc | apply Kd.R_drewN | apply Kd.R_drew)); exact HO_4.out⟩, ⟨by (with_reducible repeat (first | apply Kd.R_alloc | apply Kd.R_drewN | apply Kd.R_drew)); exact HO_5.out⟩, ⟨by repeat (first | (with_reducible first | exact HB.out | apply below_alloc | apply pw_below_drewN | apply below_drew1) | exact HB.out)⟩⟩
                ·rw [if_neg c95] at H
                 have c95b0 : (t731 == 0) = false := beq_eq_false_iff_ne.mpr c95
                 have c95b1 : (t731 != 0) = true := bne_iff_ne.mpr c95
                 have H' := Aside0.mk H
                 clear H
                 go_wp2_with (first | ((with_reducible refine gate_callee (f := 13) rfl ?_); refine goesL_ (some 226) rfl rfl Try.func13 (by kernel_rfl) rfl #[.int .i64 t679, .slice Ao17 t680.length co17, .int .i64 x36_4] rfl (by (try simp only [List.map_toArray, List.map_cons, List.map_nil]); first | done | rfl | (simp only [List.length_drop, List.length_take]; rfl)) ?_; (with_reducible refine (impl_LitBetween.calls kj86 t679 _ _ t680 x36_4 t729 t730 t731 _ ?side1 ?side2 A90.out).mono ?_); (case side1 => repeat (first | exact (Kd.R_reads' HO_4.out).2.2 | (with_reducible refine Kd.C_alloc ?_ _) | (with_reducible refine Kd.C_drewN ?_ _) | (with_reducible refine Kd.C_drew ?_))); (case side2 => exact (Kd.R_reads' HO_4.out).2.1); rintro e w107 ⟨rfl, hb⟩; refine ⟨_, rfl, ?_⟩; have n0_ := Aside0.mk (Kd.R_below (by (with_reducible repeat (first | apply Kd.R_alloc | apply Kd.R_drewN | apply Kd.R_drew)); exact HO_4.out) hb); have n1_ := Aside0.mk (Kd.R_below (by (with_reducible repeat (first | apply Kd.R_alloc | apply Kd.R_drewN | apply Kd.R_drew)); exact HO_5.out) hb); have n2_ := Aside0.mk (below_step (by repeat (first | (with_reducible first | exact HB.out | apply below_alloc | apply pw_below_drewN | apply below_drew1) | exact HB.out)) hb); clear HO_4; clear HO_5; clear HB; have HO_4 := n0_; have HO_5 := n1_; have HB := n2_; clear n0_ n1_ n2_; (try clear hb); (try clear hb2); (try clear hk); (try clear hi); obtain ⟨Ao108, co108, eo108⟩ := Kd.R_slice HO_5.out; subst eo108) | ((with_reducible refine gate_callee (f := 15) rfl ?_); refine goesL_ (some 232) rfl rfl Try.func15 (by kernel_rfl) rfl #[.slice Ao108 t683.length co108, .int .i64 x36_4] rfl (by (try simp only [List.map_toArray, List.map_cons, List.map_nil]); first | done | rfl | (simp only [List.length_drop, List.length_take]; rfl)) ?_; (with_reducible refine (laws_hasInt.calls kj86 _ _ t683 x36_4 t732 _ ?side1 ?side2 A91.out).mono ?_); (case side1 => repeat (first | exact (Kd.R_reads' HO_5.out).2.2 | (with_reducible refine Kd.C_alloc ?_ _) | (with_reducible refine Kd.C_drewN ?_ _) | (with_reducible refine Kd.C_drew ?_))); (case side2 => exact (Kd.R_reads' HO_5.out).2.1); rintro e w' ⟨rfl, ⟨nd, rfl⟩⟩; refine ⟨_, rfl, ?_⟩))
                 go_roundg kj86
                 case measure => have := HJ14.out; have := HJ63.out; have := HJ71.out; have := HK4.out; have := HJ86.out; omega
                 case rel => exact ⟨(wrap64 (x36_4 + 1)), (by first | rfl | (simp; done) | (simp [*]; done)), H', ⟨by have := HJ14.out; have := HJ63.out; have := HJ71.out; have := HK4.out; have := HJ86.out; omega⟩, ⟨by (with_reducible repeat (first | apply Kd.R_alloc | apply Kd.R_drewN | apply Kd.R_drew)); exact HO_4.out⟩, ⟨by (with_reducible repeat (first | apply Kd.R_alloc | apply Kd.R_drewN | apply Kd.R_drew)); exact HO_5.out⟩, ⟨by repeat (first | (with_reducible first | exact HB.out | apply below_alloc | apply pw_below_drewN | apply below_drew1) | exact HB.out)⟩⟩
              ·replace c89 := Bool.eq_false_iff.mpr c89
               subst c89
               have H1 : (some true) = some r := by rw [if_neg (show ¬ (false = true) by decide)] at H; exact H
               clear H
               have H := H1
               clear H1
               obtain rfl := Option.some.inj H
               go_wp2
               go_ret
               exact ⟨by first | rfl | (simp [errW_none, errW_some] <;> rfl) | (simp [*, errW_none, errW_some] <;> rfl), by repeat (first | (with_reducible first | exact HB.out | apply below_alloc | apply pw_below_drewN | apply below_drew1) | exact HB.out)⟩
def laws_FnDarkNodes.Pure : Prop := ∀ (l0 : List Int), l0.length ≤ maxLen → l0.length * 1 ≤ 140737488351232 → (∀ x ∈ l0, (Lit.int .u8 x).wf = true) → ∃ k, laws_FnDarkNodes.f k l0 = some true
theorem laws_FnDarkNodes.walk (P : laws_FnDarkNodes.Pure) (a0 : Option Addr) (len0 cap0 : Nat) (z0 : List Int) (w : World) (w0 : (a0 = none ∧ len0 = 0 ∧ cap0 = 0 ∧ z0 = []) ∨ ∃ x, a0 = some x ∧ len0 ≤ cap0 ∧ cap0 ≤ maxLen ∧ z0.length = cap0 ∧ (∀ i, i < z0.length → w.cell? (x.add i) = some (.int .u8 (z0.getD i 0))) ∧ ∀ n ∈ z0, (Lit.int .u8 n).wf = true) (y0 : len0 * 1 ≤ 140737488351232) :
  Calls Try.prog 5 #[.slice a0 len0 cap0] w fun e w' => e = .returned (.bool true) ∧ Below w.heap.size w w' := by
 obtain ⟨l0, rfl, hr0, hm0, hw0, hc0⟩ := ReadsInt.ofRowC w0
 obtain ⟨k, h⟩ := P l0 hm0 y0 hw0
 refine (laws_FnDarkNodes.calls k _ _ l0 true w (Kd.C_of_reads (d := (0 : Int)) (h1 := fun _ => rfl) hr0) hc0 h rfl).mono ?_
 rintro e w' ⟨rfl, hd⟩
 exact ⟨rfl, hd⟩
end Go.Proofs.Ytlnfjhahnacmiaa.F
namespace Go.Proofs.Ytlnfjhahnacmiaa.F
open Go.RowKit Go.Proofs.YtlnfjhahnacmiaaW.PrintWords Go.Proofs.YtlnfjhahnacmiaaW.PrintLast Go.Proofs.YtlnfjhahnacmiaaW.PrintMore
set_option linter.unusedVariables false
set_option linter.unusedSimpArgs false
def Evt (P : Nat → Prop) : Prop := ∃ K, ∀ k, K ≤ k → P k
theorem Evt.mono {P Q : Nat → Prop} (h : Evt P) (hq : ∀ k, P k → Q k) : Evt Q := by
 obtain ⟨K, h⟩ := h
 exact ⟨K, fun k hk => hq k (h k hk)⟩
theorem Evt.succ {P : Nat → Prop} (h : Evt (fun k => P (k + 1))) : Evt P := by
 obtain ⟨K, h⟩ := h
 refine ⟨K + 1, fun k hk => ?_⟩
 obtain ⟨m, rfl⟩ : ∃ m, k = m + 1 := ⟨k - 1, by omega⟩
 exact h m (by omega)
theorem w64 {n : Int} (h : -9223372036854775808 ≤ n ∧ n ≤ 9223372036854775807) : wrap64 n = n := by unfold wrap64; omega
def allF (p : Nat → Bool) : Nat → Nat → Bool
 | _, 0 => true
 | i, d + 1 => p i && allF p (i + 1) d
theorem allF_true {p : Nat → Bool} : ∀ (d i : Nat), allF p i d = true ↔ ∀ j, i ≤ j → j < i + d → p j = true
 | 0, i => by simp [allF]; intro j h1 h2; omega
 | d + 1, i => by
  unfold allF
  rw [Bool.and_eq_true, allF_true d (i + 1)]
  constructor
  ·rintro ⟨h1, h2⟩ j h3 h4
   rcases Nat.eq_or_lt_of_le h3 with e | e
   ·exact e ▸ h1
   ·exact h2 j e (by omega)
  ·exact fun h => ⟨h i (Nat.le_refl _) (by omega), fun j h1 h2 => h j (by omega) (by omega)⟩
theorem all_loopF {f : Nat → Nat → Option Bool} {p : Nat → Bool} {e : Bool} (a n : Nat) (hs : ∀ k i, a ≤ i → i < n → f (k + 1) i = if p i = true then f k (i + 1) else some false) (he : ∀ k, f (k + 1) n = some e) :
  ∀ d k i, a ≤ i → n - i = d → i ≤ n → d < k → f k i = some (allF p i d && e) := by
 intro d
 induction d with
 | zero =>
  intro k i ha hd hi hk
  obtain ⟨k, rfl⟩ : ∃ m, k = m + 1 := ⟨k - 1, by omega⟩
  have : i = n := by omega
  subst this
  rw [he]
  rfl
 | succ d ih =>
  intro k i ha hd hi hk
  obtain ⟨k, rfl⟩ : ∃ m, k = m + 1 := ⟨k - 1, by omega⟩
  rw [hs k i ha (by omega)]
  unfold allF
  by_cases hp : p i = true
  ·rw [if_pos hp, ih k (i + 1) (by omega) (by omega) (by omega) (by omega), hp, Bool.true_and]
  ·rw [if_neg hp]
   replace hp := Bool.eq_false_iff.mpr hp
   rw [hp, Bool.false_and, Bool.false_and]
theorem all_loop {f : Nat → Nat → Option Bool} {p : Nat → Bool} {e : Bool} (n : Nat) (hs : ∀ k i, i < n → f (k + 1) i = if p i = true then f k (i + 1) else some false) (he : ∀ k, f (k + 1) n = some e) :
  ∀ d k i, n - i = d → i ≤ n → d < k → f k i = some (allF p i d && e) := fun d k i => all_loopF 0 n (fun k i _ h => hs k i h) he d k i (Nat.zero_le _)
def inB (n lo hi : Int) : Bool := decide (lo ≤ n ∧ n ≤ hi)
theorem inB_true {n lo hi : Int} : inB n lo hi = true ↔ lo ≤ n ∧ n ≤ hi := by unfold inB; exact decide_eq_true_iff
end Go.Proofs.Ytlnfjhahnacmiaa.F
namespace Go.Proofs.Ytlnfjhahnacmiaa.F
open Go.RowKit Go.Proofs.YtlnfjhahnacmiaaW.PrintWords Go.Proofs.YtlnfjhahnacmiaaW.PrintLast Go.Proofs.YtlnfjhahnacmiaaW.PrintMore
set_option linter.unusedVariables false
set_option linter.unusedSimpArgs false
theorem In_eq (n lo hi : Int) : spec_l01In.f n lo hi = some (inB n lo hi) := by
 unfold spec_l01In.f inB
 by_cases h : n ≥ lo
 ·rw [if_pos h]; congr 1; simp; omega
 ·rw [if_neg h]; congr 1; simp; omega
theorem Wi_eq (n lo hi : Int) : impl_within.f n lo hi = some (inB n lo hi) := by
 unfold impl_within.f inB
 by_cases h : lo ≤ n
 ·rw [if_pos h]; congr 1; simp; omega
 ·rw [if_neg h]; congr 1; simp; omega
end Go.Proofs.Ytlnfjhahnacmiaa.F
namespace Go.Proofs.Ytlnfjhahnacmiaa.F
open Go.RowKit Go.Proofs.YtlnfjhahnacmiaaW.PrintWords Go.Proofs.YtlnfjhahnacmiaaW.PrintLast Go.Proofs.YtlnfjhahnacmiaaW.PrintMore
set_option linter.unusedVariables false
set_option linter.unusedSimpArgs false
def fu_at (xs : List S39) (i : Nat) : S39 := xs.getD i z39
def fuseAt (n : Int) (xs : List S39) (i : Nat) : Bool := inB (fu_at xs i).f0 0 (wrap64 (n - 1)) && (inB (fu_at xs i).f1 (wrap64 ((fu_at xs i).f0 + 1)) (wrap64 (n - 1)) && (inB (fu_at xs i).f2 0 100000 && inB (fu_at xs i).f3 (fu_at xs i).f2 100000))
def areFuses (n : Int) (xs : List S39) : Bool := allF (fuseAt n xs) 0 xs.length && (inB n 1 10 && decide ((xs.length : Int) ≤ 20))
theorem rd_fuse (xs : List S39) (i : Nat) : rd_T39 xs (i : Int) = fu_at xs i := by unfold rd_T39 fu_at; rw [Int.toNat_natCast]
theorem spec_fuses (n : Int) (xs : List S39) (hx : xs.length ≤ 4000000) (k : Nat) (hk : xs.length < k) : spec_AreFuses.f k n xs = some (areFuses n xs) := by
 refine all_loop (f := fun k i => spec_AreFuses.l0 k n xs (i : Int)) xs.length (fun k i hi => ?_) (fun k => ?_) xs.length k 0 (by omega) (by omega) (by omega)
 ·show spec_AreFuses.l0 (k + 1) n xs i = _
  simp only [spec_AreFuses.l0, In_eq, Option.bind_some]
  rw [if_pos (by omega), if_pos (by omega), w64 (n := (i : Int) + 1) (by omega), rd_fuse]
  unfold fuseAt
  cases inB (fu_at xs i).f0 0 (wrap64 (n - 1)) <;> cases inB (fu_at xs i).f1 (wrap64 ((fu_at xs i).f0 + 1)) (wrap64 (n - 1)) <;> cases inB (fu_at xs i).f2 0 100000 <;> cases inB (fu_at xs i).f3 (fu_at xs i).f2 100000 <;> rfl
 ·show spec_AreFuses.l0 (k + 1) n xs _ = _
  simp only [spec_AreFuses.l0, In_eq, Option.bind_some]
  rw [if_neg (by omega)]
  cases inB n 1 10 <;> rfl
theorem impl_fuses (n : Int) (xs : List S39) (hx : xs.length ≤ 4000000) (k : Nat) (hk : xs.length + 1 < k) : impl_AreFuses.f k n xs = some (areFuses n xs) := by
 obtain ⟨k, rfl⟩ : ∃ m, k = m + 1 := ⟨k - 1, by omega⟩
 unfold impl_AreFuses.f areFuses
 simp only [impl_AreFuses.j0, Wi_eq, Option.bind_some]
 cases h1 : inB n 1 10 with
 | false => rw [if_neg (by decide), if_pos trivial, Bool.false_and, Bool.and_false]
 | true =>
  rw [if_pos rfl, Bool.true_and]
  by_cases h2 : (xs.length : Int) > 20
  ·rw [if_pos (decide_eq_true h2), decide_eq_false (by omega : ¬ ((xs.length : Int) ≤ 20)), Bool.and_false]
  ·rw [if_neg (by simpa using h2), decide_eq_true (by omega : ((xs.length : Int) ≤ 20))]
   refine all_loop (f := fun k i => impl_AreFuses.l0 k n xs (xs.length : Int) (i : Int)) xs.length (fun k i hi => ?_) (fun k => ?_) xs.length k 0 (by omega) (by omega) (by omega)
   ·show impl_AreFuses.l0 (k + 1) n xs (xs.length : Int) i = _
    simp only [impl_AreFuses.l0, Wi_eq, Option.bind_some]
    rw [if_pos (by omega), if_pos (by omega), if_pos (by omega), w64 (n := (i : Int) + 1) (by omega), rd_fuse]
    unfold fuseAt
    cases inB (fu_at xs i).f0 0 (wrap64 (n - 1)) <;> cases inB (fu_at xs i).f1 (wrap64 ((fu_at xs i).f0 + 1)) (wrap64 (n - 1)) <;> cases inB (fu_at xs i).f2 0 100000 <;> cases inB (fu_at xs i).f3 (fu_at xs i).f2 100000 <;> rfl
   ·show impl_AreFuses.l0 (k + 1) n xs (xs.length : Int) _ = _
    simp only [impl_AreFuses.l0]
    rw [if_neg (by omega)]
end Go.Proofs.Ytlnfjhahnacmiaa.F
namespace Go.Proofs.Ytlnfjhahnacmiaa.F
open Go.RowKit Go.Proofs.YtlnfjhahnacmiaaW.PrintWords Go.Proofs.YtlnfjhahnacmiaaW.PrintLast Go.Proofs.YtlnfjhahnacmiaaW.PrintMore
set_option linter.unusedVariables false
set_option linter.unusedSimpArgs false
theorem areFuses_true {n : Int} {xs : List S39} (h : areFuses n xs = true) : ∃ m : Nat, n = (m : Int) ∧ 1 ≤ m ∧ m ≤ 10 ∧ xs.length ≤ 20 ∧ ∀ i, i < xs.length → 0 ≤ (fu_at xs i).f0 ∧ (fu_at xs i).f0 < (fu_at xs i).f1 ∧ (fu_at xs i).f1 < (m : Int) ∧ 0 ≤ (fu_at xs i).f2 ∧ (fu_at xs i).f2 ≤ (fu_at xs i).f3 ∧ (fu_at xs i).f3 ≤ 100000 := by
 unfold areFuses at h
 rw [Bool.and_eq_true, Bool.and_eq_true, allF_true, inB_true, decide_eq_true_iff] at h
 obtain ⟨h1, h2, h3⟩ := h
 refine ⟨n.toNat, by omega, by omega, by omega, by omega, fun i hi => ?_⟩
 have := h1 i (by omega) (by omega)
 unfold fuseAt at this
 rw [Bool.and_eq_true, Bool.and_eq_true, Bool.and_eq_true, inB_true, inB_true, inB_true, inB_true, w64 (by omega)] at this
 obtain ⟨a, b, c, d⟩ := this
 rw [w64 (by omega)] at b
 omega
theorem set0 (xs : List Int) (v : Nat) (y : Int) (h : 0 < v) : (xs.set v y).getD 0 0 = xs.getD 0 0 := by
 rw [List.getD_eq_getElem?_getD, List.getD_eq_getElem?_getD, List.getElem?_set_ne (by omega)]
theorem tstep {m : Nat} {xs : List S39} (hx : xs.length ≤ 20) (E L : List Int) (hE : E.length = m) (hL : L.length = m) (v i : Nat) (h0 : 0 < v) (hv : v < m) (hi : i < xs.length) (hf : 0 ≤ (fu_at xs i).f0 ∧ (fu_at xs i).f0 < (m : Int)) :
  ∃ E' L' b, 2 ≤ b ∧ b ≤ 3 ∧ E'.length = m ∧ L'.length = m ∧ E'.getD 0 0 = E.getD 0 0 ∧ (∀ k, spec_l10Times.l1 (k + b) (m : Int) xs E L (v : Int) (i : Int) = spec_l10Times.l1 k (m : Int) xs E' L' (v : Int) ((i + 1 : Nat) : Int)) ∧ (∀ k, impl_litTimes.l1 (k + b) (m : Int) xs E L (v : Int) xs (xs.length : Int) (i : Int) = impl_litTimes.l1 k (m : Int) xs E' L' (v : Int) xs (xs.length : Int) ((i + 1 : Nat) : Int)) := by
 have g1 : (i : Int) < (xs.length : Int) := by omega
 have g2 : 0 ≤ (i : Int) := by omega
 have hw : wrap64 ((i : Int) + 1) = ((i + 1 : Nat) : Int) := w64 (by omega)
 have v0 : 0 ≤ (v : Int) := by omega
 have vE : (v : Int) < (E.length : Int) := by omega
 have vL : (v : Int) < (L.length : Int) := by omega
 have fE : (fu_at xs i).f0 < (E.length : Int) := by omega
 have fL : (fu_at xs i).f0 < (L.length : Int) := by omega
 have f0 := hf.1
 have et : ((v : Int)).toNat = v := Int.toNat_natCast v
 have lE : ∀ y, (E.set v y).length = m := fun y => by rw [List.length_set]; exact hE
 have lL : ∀ y, (L.set v y).length = m := fun y => by rw [List.length_set]; exact hL
 by_cases c1 : (fu_at xs i).f1 = (v : Int)
 ·by_cases c2 : rd E (fu_at xs i).f0 < 0
  ·refine ⟨E, L, 2, by omega, by omega, hE, hL, rfl, fun k => ?_, fun k => ?_⟩
   ·simp only [spec_l10Times.l1, spec_l10Times.j2, rd_fuse, if_pos g1, if_pos g2, if_pos c1, if_pos f0, if_pos fE, decide_eq_true c2, if_true, hw]
   ·simp only [impl_litTimes.l1, impl_litTimes.j2, rd_fuse, if_pos g1, if_pos g2, if_pos c1, if_pos f0, if_pos fE, decide_eq_true c2, if_true, hw]
  ·-- the early time
   by_cases c3 : rd E (v : Int) < 0 ∨ wrap64 (rd E (fu_at xs i).f0 + (fu_at xs i).f2) < rd E (v : Int)
   ·by_cases c4 : rd L (v : Int) < 0 ∨ wrap64 (rd L (fu_at xs i).f0 + (fu_at xs i).f3) < rd L (v : Int)
    ·refine ⟨E.set v (wrap64 (rd E (fu_at xs i).f0 + (fu_at xs i).f2)), L.set v (wrap64 (rd L (fu_at xs i).f0 + (fu_at xs i).f3)), 3, by omega, by omega, lE _, lL _, set0 _ _ _ h0, fun k => ?_, fun k => ?_⟩
     ·rcases Classical.em (rd E (v : Int) < 0) with d3 | d3 <;> rcases Classical.em (rd L (v : Int) < 0) with d4 | d4 <;>
       simp only [d3, d4, false_or, true_or] at c3 c4 <;>
       simp only [spec_l10Times.l1, spec_l10Times.j2, spec_l10Times.j3, rd_fuse, if_pos g1, if_pos g2, if_pos c1, if_pos f0, if_pos fE, if_pos fL, if_pos vE, if_pos vL, if_pos v0, decide_eq_false c2, d3, d4, c3, c4, decide_true, if_true, if_false, Bool.false_eq_true, hw, et, Option.bind_some]
     ·rcases Classical.em (rd E (v : Int) < 0) with d3 | d3 <;> rcases Classical.em (rd L (v : Int) < 0) with d4 | d4 <;>
       simp only [d3, d4, false_or, true_or] at c3 c4 <;>
       simp only [impl_litTimes.l1, impl_litTimes.j2, impl_litTimes.j3, rd_fuse, if_pos g1, if_pos g2, if_pos c1, if_pos f0, if_pos fE, if_pos fL, if_pos vE, if_pos vL, if_pos v0, decide_eq_false c2, d3, d4, c3, c4, decide_true, if_true, if_false, Bool.false_eq_true, hw, et, Option.bind_some]
    ·rw [not_or] at c4
     refine ⟨E.set v (wrap64 (rd E (fu_at xs i).f0 + (fu_at xs i).f2)), L, 3, by omega, by omega, lE _, hL, set0 _ _ _ h0, fun k => ?_, fun k => ?_⟩
     ·rcases Classical.em (rd E (v : Int) < 0) with d3 | d3 <;>
       simp only [d3, false_or, true_or] at c3 <;>
       simp only [spec_l10Times.l1, spec_l10Times.j2, spec_l10Times.j3, rd_fuse, if_pos g1, if_pos g2, if_pos c1, if_pos f0, if_pos fE, if_pos fL, if_pos vE, if_pos vL, if_pos v0, decide_eq_false c2, d3, c3, c4.1, c4.2, decide_true, if_true, if_false, Bool.false_eq_true, hw, et, Option.bind_some]
     ·rcases Classical.em (rd E (v : Int) < 0) with d3 | d3 <;>
       simp only [d3, false_or, true_or] at c3 <;>
       simp only [impl_litTimes.l1, impl_litTimes.j2, impl_litTimes.j3, rd_fuse, if_pos g1, if_pos g2, if_pos c1, if_pos f0, if_pos fE, if_pos fL, if_pos vE, if_pos vL, if_pos v0, decide_eq_false c2, d3, c3, c4.1, c4.2, decide_true, if_true, if_false, Bool.false_eq_true, hw, et, Option.bind_some]
   ·rw [not_or] at c3
    by_cases c4 : rd L (v : Int) < 0 ∨ wrap64 (rd L (fu_at xs i).f0 + (fu_at xs i).f3) < rd L (v : Int)
    ·refine ⟨E, L.set v (wrap64 (rd L (fu_at xs i).f0 + (fu_at xs i).f3)), 3, by omega, by omega, hE, lL _, rfl, fun k => ?_, fun k => ?_⟩
     ·rcases Classical.em (rd L (v : Int) < 0) with d4 | d4 <;>
       simp only [d4, false_or, true_or] at c4 <;>
       simp only [spec_l10Times.l1, spec_l10Times.j2, spec_l10Times.j3, rd_fuse, if_pos g1, if_pos g2, if_pos c1, if_pos f0, if_pos fE, if_pos fL, if_pos vE, if_pos vL, if_pos v0, decide_eq_false c2, c3.1, c3.2, d4, c4, decide_true, decide_false, if_true, if_false, Bool.false_eq_true, hw, et, Option.bind_some]
     ·rcases Classical.em (rd L (v : Int) < 0) with d4 | d4 <;>
       simp only [d4, false_or, true_or] at c4 <;>
       simp only [impl_litTimes.l1, impl_litTimes.j2, impl_litTimes.j3, rd_fuse, if_pos g1, if_pos g2, if_pos c1, if_pos f0, if_pos fE, if_pos fL, if_pos vE, if_pos vL, if_pos v0, decide_eq_false c2, c3.1, c3.2, d4, c4, decide_true, decide_false, if_true, if_false, Bool.false_eq_true, hw, et, Option.bind_some]
    ·rw [not_or] at c4
     refine ⟨E, L, 3, by omega, by omega, hE, hL, rfl, fun k => ?_, fun k => ?_⟩
     ·simp only [spec_l10Times.l1, spec_l10Times.j2, spec_l10Times.j3, rd_fuse, if_pos g1, if_pos g2, if_pos c1, if_pos f0, if_pos fE, if_pos fL, if_pos vE, if_pos vL, if_pos v0, decide_eq_false c2, c3.1, c3.2, c4.1, c4.2, decide_true, decide_false, if_true, if_false, Bool.false_eq_true, hw, et, Option.bind_some]
     ·simp only [impl_litTimes.l1, impl_litTimes.j2, impl_litTimes.j3, rd_fuse, if_pos g1, if_pos g2, if_pos c1, if_pos f0, if_pos fE, if_pos fL, if_pos vE, if_pos vL, if_pos v0, decide_eq_false c2, c3.1, c3.2, c4.1, c4.2, decide_true, decide_false, if_true, if_false, Bool.false_eq_true, hw, et, Option.bind_some]
 ·refine ⟨E, L, 2, by omega, by omega, hE, hL, rfl, fun k => ?_, fun k => ?_⟩
  ·simp only [spec_l10Times.l1, spec_l10Times.j2, rd_fuse, if_pos g1, if_pos g2, if_neg c1, if_true, hw]
  ·simp only [impl_litTimes.l1, impl_litTimes.j2, rd_fuse, if_pos g1, if_pos g2, if_neg c1, if_true, hw]
theorem times_in {m : Nat} {xs : List S39} (hx : xs.length ≤ 20) (hm : m ≤ 10) (hf : ∀ i, i < xs.length → 0 ≤ (fu_at xs i).f0 ∧ (fu_at xs i).f0 < (m : Int)) (v : Nat) (h0 : 0 < v) (hv : v < m)
  (hnext : ∀ E L : List Int, E.length = m → L.length = m → E.getD 0 0 = 0 → ∃ E' L' : List Int, E'.length = m ∧ L'.length = m ∧ E'.getD 0 0 = 0 ∧ Evt (fun k => spec_l10Times.l0 k (m : Int) xs E L ((v + 1 : Nat) : Int) = some (E', L')) ∧ Evt (fun k => impl_litTimes.l0 k (m : Int) xs E L ((v + 1 : Nat) : Int) = some (E', L'))) :
  ∀ (d i : Nat) (E L : List Int), xs.length - i = d → i ≤ xs.length → E.length = m → L.length = m → E.getD 0 0 = 0 → ∃ E' L' : List Int, E'.length = m ∧ L'.length = m ∧ E'.getD 0 0 = 0 ∧ Evt (fun k => spec_l10Times.l1 k (m : Int) xs E L (v : Int) (i : Int) = some (E', L')) ∧ Evt (fun k => impl_litTimes.l1 k (m : Int) xs E L (v : Int) xs (xs.length : Int) (i : Int) = some (E', L')) := by
 intro d
 induction d with
 | zero =>
  intro i E L hd hi hE hL h00
  obtain ⟨E', L', e1, e2, e3, ⟨K, hs⟩, ⟨K', ht⟩⟩ := hnext E L hE hL h00
  refine ⟨E', L', e1, e2, e3, ⟨K + 1, fun k hk => ?_⟩, ⟨K' + 1, fun k hk => ?_⟩⟩
  ·obtain ⟨k, rfl⟩ : ∃ m, k = m + 1 := ⟨k - 1, by omega⟩
   show spec_l10Times.l1 (k + 1) (m : Int) xs E L (v : Int) (i : Int) = _
   simp only [spec_l10Times.l1]
   rw [if_neg (by omega), w64 (by omega)]
   exact hs k (by omega)
  ·obtain ⟨k, rfl⟩ : ∃ m, k = m + 1 := ⟨k - 1, by omega⟩
   show impl_litTimes.l1 (k + 1) (m : Int) xs E L (v : Int) xs (xs.length : Int) (i : Int) = _
   simp only [impl_litTimes.l1]
   rw [if_neg (by omega), w64 (by omega)]
   exact ht k (by omega)
 | succ d ih =>
  intro i E L hd hi hE hL h00
  obtain ⟨E1, L1, b, b2, b3, l1, l2, l3, f1, f2⟩ := tstep hx E L hE hL v i h0 hv (by omega) (hf i (by omega))
  obtain ⟨E', L', e1, e2, e3, ⟨K, hs⟩, ⟨K', ht⟩⟩ := ih (i + 1) E1 L1 (by omega) (by omega) l1 l2 (l3.trans h00)
  refine ⟨E', L', e1, e2, e3, ⟨K + b, fun k hk => ?_⟩, ⟨K' + b, fun k hk => ?_⟩⟩
  ·obtain ⟨k, rfl⟩ : ∃ m, k = m + b := ⟨k - b, by omega⟩
   exact (f1 k).trans (hs k (by omega))
  ·obtain ⟨k, rfl⟩ : ∃ m, k = m + b := ⟨k - b, by omega⟩
   exact (f2 k).trans (ht k (by omega))
theorem times_out {m : Nat} {xs : List S39} (hx : xs.length ≤ 20) (hm : m ≤ 10) (hf : ∀ i, i < xs.length → 0 ≤ (fu_at xs i).f0 ∧ (fu_at xs i).f0 < (m : Int)) :
  ∀ (d v : Nat) (E L : List Int), m - v = d → 0 < v → E.length = m → L.length = m → E.getD 0 0 = 0 → ∃ E' L' : List Int, E'.length = m ∧ L'.length = m ∧ E'.getD 0 0 = 0 ∧ Evt (fun k => spec_l10Times.l0 k (m : Int) xs E L (v : Int) = some (E', L')) ∧ Evt (fun k => impl_litTimes.l0 k (m : Int) xs E L (v : Int) = some (E', L')) := by
 intro d
 induction d with
 | zero =>
  intro v E L hd hv hE hL h00
  refine ⟨E, L, hE, hL, h00, ⟨1, fun k hk => ?_⟩, ⟨1, fun k hk => ?_⟩⟩
  ·obtain ⟨k, rfl⟩ : ∃ m, k = m + 1 := ⟨k - 1, by omega⟩
   show spec_l10Times.l0 (k + 1) (m : Int) xs E L (v : Int) = _
   simp only [spec_l10Times.l0]
   rw [if_neg (by omega)]
  ·obtain ⟨k, rfl⟩ : ∃ m, k = m + 1 := ⟨k - 1, by omega⟩
   show impl_litTimes.l0 (k + 1) (m : Int) xs E L (v : Int) = _
   simp only [impl_litTimes.l0]
   rw [if_neg (by omega)]
 | succ d ih =>
  intro v E L hd hv hE hL h00
  obtain ⟨E', L', e1, e2, e3, ⟨K, hs⟩, ⟨K', ht⟩⟩ := times_in hx hm hf v hv (by omega) (fun E L a b c => ih (v + 1) E L (by omega) (by omega) a b c) xs.length 0 (E.set v (-1)) (L.set v (-1)) (by omega) (by omega) (by rw [List.length_set]; exact hE) (by rw [List.length_set]; exact hL) ((set0 _ _ _ hv).trans h00)
  refine ⟨E', L', e1, e2, e3, ⟨K + 1, fun k hk => ?_⟩, ⟨K' + 1, fun k hk => ?_⟩⟩
  ·obtain ⟨k, rfl⟩ : ∃ m, k = m + 1 := ⟨k - 1, by omega⟩
   show spec_l10Times.l0 (k + 1) (m : Int) xs E L (v : Int) = _
   simp only [spec_l10Times.l0]
   rw [if_pos (by omega), if_pos (by omega), if_pos (by omega), if_pos (by omega), Int.toNat_natCast]
   exact hs k (by omega)
  ·obtain ⟨k, rfl⟩ : ∃ m, k = m + 1 := ⟨k - 1, by omega⟩
   show impl_litTimes.l0 (k + 1) (m : Int) xs E L (v : Int) = _
   simp only [impl_litTimes.l0]
   rw [if_pos (by omega), if_pos (by omega), if_pos (by omega), if_pos (by omega), Int.toNat_natCast]
   exact ht k (by omega)
theorem times_is {n : Int} {xs : List S39} (h : areFuses n xs = true) : ∃ (m : Nat) (E L : List Int), n = (m : Int) ∧ 1 ≤ m ∧ m ≤ 10 ∧ xs.length ≤ 20 ∧ E.length = m ∧ L.length = m ∧ E.getD 0 0 = 0 ∧ Evt (fun k => spec_l10Times.f k n xs = some (E, L)) ∧ Evt (fun k => impl_litTimes.f k n xs = some (E, L)) := by
 obtain ⟨m, rfl, h1, h2, h3, h4⟩ := areFuses_true h
 obtain ⟨E, L, e1, e2, e3, ⟨K, hs⟩, ⟨K', ht⟩⟩ := times_out h3 h2 (fun i hi => by have := h4 i hi; omega) (m - 1) 1 (List.replicate m 0) (List.replicate m 0) (by omega) (by omega) (by simp) (by simp) (by cases m <;> rfl)
 refine ⟨m, E, L, rfl, h1, h2, h3, e1, e2, e3, ⟨K, fun k hk => ?_⟩, ⟨K', fun k hk => ?_⟩⟩
 ·show spec_l10Times.f k (m : Int) xs = _
  unfold spec_l10Times.f
  rw [if_pos (by omega), if_pos (by omega), Int.toNat_natCast]
  exact hs k hk
 ·show impl_litTimes.f k (m : Int) xs = _
  unfold impl_litTimes.f
  rw [if_pos (by omega), if_pos (by omega), Int.toNat_natCast]
  exact ht k hk
theorem fu_mem {xs : List S39} {i : Nat} (h : i < xs.length) : fu_at xs i ∈ xs := by
 unfold fu_at
 rw [List.getD_eq_getElem?_getD, List.getElem?_eq_getElem h]
 exact List.getElem_mem _
end Go.Proofs.Ytlnfjhahnacmiaa.F
namespace Go.Proofs.Ytlnfjhahnacmiaa.F
open Go.RowKit Go.Proofs.YtlnfjhahnacmiaaW.PrintWords Go.Proofs.YtlnfjhahnacmiaaW.PrintLast Go.Proofs.YtlnfjhahnacmiaaW.PrintMore
set_option linter.unusedVariables false
set_option linter.unusedSimpArgs false
def cdo (E : List Int) (m : Nat) (a : Int) : Int := if inB a 0 ((m : Int) - 1) = true then (if rd E a < 0 then 4 else 0) else 2
theorem spec_code {m : Nat} {xs : List S39} (h : areFuses (m : Int) xs = true) (h1 : 1 ≤ m) (h2 : m ≤ 10) (hx : xs.length ≤ 20) {E L : List Int} (hE : E.length = m) {K : Nat} (hs : ∀ k, K ≤ k → spec_l10Times.f k (m : Int) xs = some (E, L)) (a : Int) (k : Nat) (hk : K + 30 ≤ k) : spec_l10Code.f k (m : Int) xs a = some (cdo E m a) := by
 have hw : wrap64 ((m : Int) - 1) = (m : Int) - 1 := w64 (by omega)
 unfold spec_l10Code.f cdo
 rw [spec_fuses _ xs (by omega) k (by omega), h]
 simp only [Option.bind_some, In_eq, hw, if_true]
 cases g : inB a 0 ((m : Int) - 1) with
 | false => rfl
 | true =>
  rw [inB_true] at g
  simp only [if_true]
  rw [hs k (by omega)]
  simp only [Option.bind_some]
  rw [if_pos (by omega), if_pos (by omega)]
  by_cases c : rd E a < 0
  ·rw [if_pos c, if_pos c]
  ·rw [if_neg c, if_neg c]
theorem impl_code1 {m : Nat} {xs : List S39} (h : areFuses (m : Int) xs = true) (h1 : 1 ≤ m) (h2 : m ≤ 10) (hx : xs.length ≤ 20) {E L : List Int} (hE : E.length = m) {K : Nat} (ht : ∀ k, K ≤ k → impl_litTimes.f k (m : Int) xs = some (E, L)) (a : Int) (k : Nat) (hk : K + 30 ≤ k) : impl_nodeAsked.f k (m : Int) xs [a] = some (cdo E m a) := by
 have hw : wrap64 ((m : Int) - 1) = (m : Int) - 1 := w64 (by omega)
 have w1 : wrap64 (0 + 1) = 1 := w64 (by omega)
 have r0 : rd [a] 0 = a := rfl
 obtain ⟨k, rfl⟩ : ∃ m, k = m + 6 := ⟨k - 6, by omega⟩
 unfold impl_nodeAsked.f cdo
 rw [impl_fuses _ xs (by omega) (k + 6) (by omega), h]
 have l1 : ([a] : List Int).length = 1 := rfl
 simp only [Option.bind_some, if_true, impl_nodeAsked.l0, Wi_eq, hw, l1, w1, r0]
 rw [if_pos (by omega), if_pos (by omega), if_pos (by omega)]
 cases g : inB a 0 ((m : Int) - 1) with
 | false => rfl
 | true =>
  rw [inB_true] at g
  simp only [if_true]
  rw [if_neg (by omega), ht (k + 4) (by omega)]
  simp only [Option.bind_some, impl_nodeAsked.l1, r0, w1, l1]
  rw [if_pos (by omega), if_pos (by omega), if_pos (by omega), if_pos (by omega), if_pos (by omega)]
  by_cases c : rd E a < 0
  ·rw [if_pos c, if_pos c]
  ·rw [if_neg c, if_neg c, if_neg (by omega)]
theorem impl_code2 {m : Nat} {xs : List S39} (h : areFuses (m : Int) xs = true) (h1 : 1 ≤ m) (h2 : m ≤ 10) (hx : xs.length ≤ 20) {E L : List Int} (hE : E.length = m) {K : Nat} (ht : ∀ k, K ≤ k → impl_litTimes.f k (m : Int) xs = some (E, L)) (a b : Int) (k : Nat) (hk : K + 30 ≤ k) : impl_nodeAsked.f k (m : Int) xs [a, b] = some (if cdo E m a = 2 then 2 else if cdo E m b = 2 then 2 else if cdo E m a = 4 then 4 else cdo E m b) := by
 have hw : wrap64 ((m : Int) - 1) = (m : Int) - 1 := w64 (by omega)
 have w1 : wrap64 (0 + 1) = 1 := w64 (by omega)
 have w2 : wrap64 (1 + 1) = 2 := w64 (by omega)
 have r0 : rd [a, b] 0 = a := rfl
 have r1 : rd [a, b] 1 = b := rfl
 have l1 : ([a, b] : List Int).length = 2 := rfl
 obtain ⟨k, rfl⟩ : ∃ m, k = m + 8 := ⟨k - 8, by omega⟩
 unfold impl_nodeAsked.f cdo
 rw [impl_fuses _ xs (by omega) (k + 8) (by omega), h]
 simp only [Option.bind_some, if_true, impl_nodeAsked.l0, Wi_eq, hw, l1, w1, w2, r0, r1]
 rw [if_pos (by omega), if_pos (by omega), if_pos (by omega)]
 cases g : inB a 0 ((m : Int) - 1) with
 | false => rfl
 | true =>
  rw [inB_true] at g
  simp only [if_true]
  rw [if_pos (by omega), if_pos (by omega), if_pos (by omega)]
  have n1 : (if rd E a < 0 then (4 : Int) else 0) ≠ 2 := by split <;> omega
  rw [if_neg n1]
  cases g2 : inB b 0 ((m : Int) - 1) with
  | false => rfl
  | true =>
   rw [inB_true] at g2
   simp only [if_true]
   have n2 : (if rd E b < 0 then (4 : Int) else 0) ≠ 2 := by split <;> omega
   rw [if_neg n2, if_neg (by omega), ht (k + 5) (by omega)]
   simp only [Option.bind_some, impl_nodeAsked.l1, r0, r1, w1, w2, l1]
   rw [if_pos (by omega), if_pos (by omega), if_pos (by omega), if_pos (by omega), if_pos (by omega)]
   by_cases c : rd E a < 0
   ·rw [if_pos c, if_pos c, if_pos rfl]
   ·have z4 : ¬ ((0 : Int) = 4) := by omega
    rw [if_neg c, if_neg c, if_neg z4, if_pos (by omega), if_pos (by omega), if_pos (by omega), if_pos (by omega), if_pos (by omega)]
    by_cases c2 : rd E b < 0
    ·rw [if_pos c2, if_pos c2]
    ·rw [if_neg c2, if_neg c2, if_neg (by omega)]
theorem cdo_0 {E : List Int} {m : Nat} (h1 : 1 ≤ m) (h : E.getD 0 0 = 0) : cdo E m 0 = 0 := by
 have : rd E 0 = E.getD 0 0 := rfl
 unfold cdo
 rw [inB_true.2 (by omega), if_pos rfl, if_neg (by omega)]
theorem cdo_in {E : List Int} {m : Nat} {a : Int} (h : cdo E m a = 0) : 0 ≤ a ∧ a < (m : Int) := by
 unfold cdo at h
 by_cases g : inB a 0 ((m : Int) - 1) = true
 ·rw [inB_true] at g; omega
 ·rw [if_neg g] at h; omega
theorem cdo_cases (E : List Int) (m : Nat) (a : Int) : cdo E m a = 0 ∨ cdo E m a = 2 ∨ cdo E m a = 4 := by
 unfold cdo
 split
 ·split
  ·exact .inr (.inr rfl)
  ·exact .inl rfl
 ·exact .inr (.inl rfl)
end Go.Proofs.Ytlnfjhahnacmiaa.F
namespace Go.Proofs.Ytlnfjhahnacmiaa.F
open Go.RowKit Go.Proofs.YtlnfjhahnacmiaaW.PrintWords Go.Proofs.YtlnfjhahnacmiaaW.PrintLast Go.Proofs.YtlnfjhahnacmiaaW.PrintMore
set_option linter.unusedVariables false
set_option linter.unusedSimpArgs false
def without (xs : List S39) (n : Nat) : List S39 := xs.take n ++ xs.drop (n + 1)
theorem without_len (xs : List S39) (n : Nat) (h : n < xs.length) : (without xs n).length = xs.length - 1 := by
 unfold without
 rw [List.length_append, List.length_take, List.length_drop]; omega
theorem spec_without (xs : List S39) (n : Nat) (hx : xs.length ≤ 4000000) (h : n < xs.length) : spec_l10Without.f xs (n : Int) = some (without xs n) := by
 unfold spec_l10Without.f
 have e : wrap64 ((n : Int) + 1) = ((n + 1 : Nat) : Int) := by rw [w64 (by omega)]; rfl
 simp only [Option.bind_some, List.nil_append, List.length_nil, e, Int.toNat_natCast]
 have h1 := List.length_take_le n xs
 have h2 := List.length_take_le' n xs
 have h3 : (xs.drop (n + 1)).length = xs.length - (n + 1) := List.length_drop
 rw [if_pos (by omega), if_pos (by omega), if_pos (by omega), if_pos (by omega), if_pos (by omega), if_pos (by omega)]
 rfl
theorem impl_without (xs : List S39) (n : Nat) (hx : xs.length ≤ 4000000) (h : n < xs.length) : impl_withoutFuse.f xs (n : Int) = some (without xs n) := by
 unfold impl_withoutFuse.f
 have e : wrap64 ((n : Int) + 1) = ((n + 1 : Nat) : Int) := by rw [w64 (by omega)]; rfl
 simp only [Option.bind_some, List.nil_append, List.length_nil, e, Int.toNat_natCast]
 have h1 := List.length_take_le n xs
 have h2 := List.length_take_le' n xs
 have h3 : (xs.drop (n + 1)).length = xs.length - (n + 1) := List.length_drop
 rw [if_pos (by omega), if_pos (by omega), if_pos (by omega), if_pos (by omega), if_pos (by omega), if_pos (by omega)]
 rfl
end Go.Proofs.Ytlnfjhahnacmiaa.F
namespace Go.Proofs.Ytlnfjhahnacmiaa.F
open Go.RowKit Go.Proofs.YtlnfjhahnacmiaaW.PrintWords Go.Proofs.YtlnfjhahnacmiaaW.PrintLast Go.Proofs.YtlnfjhahnacmiaaW.PrintMore
attribute [local go_sem] max2_int min2_int max_two min_two max_three min_three max_four min_four   -- for this text's walks alone
set_option linter.unusedVariables false
set_option linter.unusedSimpArgs false
def spec_LitBetween.f (k : Nat) (a0 : Int) (l1 : List (S39)) (a2 : Int) : Option (Int × Int × Int) := (spec_l10Code.f k a0 l1 a2).bind fun t443 => (if t443 = 0 then ((spec_l10Times.f k a0 l1).bind fun bt444 => (if 0 ≤ a2 then (if a2 < (bt444.1.length : Int) then (if a2 < (bt444.2.length : Int) then (some (rd bt444.1 a2, rd bt444.2 a2, 0)) else (none)) else (none)) else (none))) else (some (0, 0, t443)))
theorem spec_LitBetween.mono : ∀ a0 a1 a2 k, LeO (spec_LitBetween.f k a0 a1 a2) (spec_LitBetween.f (k + 1) a0 a1 a2) := by
 intro a0 a1 a2 k
 unfold spec_LitBetween.f
 repeat' first
   | (with_reducible exact spec_l10Code.mono _ _ _ _)
   | (with_reducible exact spec_l10Times.mono _ _ _)
   | (with_reducible exact LeO.refl _)
   | (with_reducible exact LeO.none _)
   | (with_reducible refine LeO.ite ?_ ?_)
   | (with_reducible refine LeO.bind ?_ (fun _ => ?_))
   | exact spec_l10Code.mono _ _ _ _
   | exact spec_l10Times.mono _ _ _
   | exact LeO.none _
   | refine LeO.ite ?_ ?_
   | refine LeO.bind ?_ (fun _ => ?_)
set_option maxHeartbeats 8000000 in
set_option maxRecDepth 100000 in
theorem spec_LitBetween.calls (k : Nat) (a0 : Int) (A1 : Option Addr) (c1 : Nat) (l1 : List (S39)) (a2 : Int) (r1 : Int) (r2 : Int) (r3 : Int) (w : World) (hr1 : Kd.C k39 w A1 l1.length l1) (hc1 : l1.length ≤ c1) (h : spec_LitBetween.f k a0 l1 a2 = some (r1, r2, r3)) :
  Calls Try.prog 17 #[.int .i64 a0, .slice A1 l1.length c1, .int .i64 a2] w fun e w' => e = .returned (.tuple #[.int .i64 r1, .int .i64 r2, .int .i64 r3]) ∧ Below w.heap.size w w' := by
 have HR1 := Aside0.mk hr1
 have HC1 := Aside0.mk hc1
 clear hr1 hc1
 have HB := Aside0.mk (Below.refl w.heap.size w)
 have H : ((spec_l10Code.f k a0 l1 a2).bind fun t443 => (if t443 = 0 then ((spec_l10Times.f k a0 l1).bind fun bt444 => (if 0 ≤ a2 then (if a2 < (bt444.1.length : Int) then (if a2 < (bt444.2.length : Int) then (some (rd bt444.1 a2, rd bt444.2 a2, 0)) else (none)) else (none)) else (none))) else (some (0, 0, t443)))) = some (r1, r2, r3) := h
 clear h
 replace H := Option.bind_eq_some_iff.mp H
 obtain ⟨t443, A40, H⟩ := H
 replace H : (if t443 = 0 then ((spec_l10Times.f k a0 l1).bind fun bt444 => (if 0 ≤ a2 then (if a2 < (bt444.1.length : Int) then (if a2 < (bt444.2.length : Int) then (some (rd bt444.1 a2, rd bt444.2 a2, 0)) else (none)) else (none)) else (none))) else (some (0, 0, t443))) = some (r1, r2, r3) := H
 have A4 := Aside0.mk A40
 clear A40
 by_cases c5 : t443 = 0
 ·rw [if_pos c5] at H
  have c5b0 : (t443 == 0) = true := beq_iff_eq.mpr c5
  have c5b1 : (t443 != 0) = false := bne_eq_false_iff_eq.mpr c5
  clear c5
  replace H := Option.bind_eq_some_iff.mp H
  obtain ⟨⟨t444, t445⟩, A60, H⟩ := H
  replace H : (if 0 ≤ a2 then (if a2 < (t444.length : Int) then (if a2 < (t445.length : Int) then (some (rd t444 a2, rd t445 a2, 0)) else (none)) else (none)) else (none)) = some (r1, r2, r3) := H
  have A6 := Aside0.mk A60
  clear A60
  by_cases c7 : 0 ≤ a2
  ·rw [if_pos c7] at H
   have c7b0 : decide (0 ≤ a2) = true := decide_eq_true c7
   clear c7
   by_cases c8 : a2 < (t444.length : Int)
   ·rw [if_pos c8] at H
    have c8b0 : decide (a2 < (t444.length : Int)) = true := decide_eq_true c8
    clear c8
    by_cases c9 : a2 < (t445.length : Int)
    ·rw [if_pos c9] at H
     have c9b0 : decide (a2 < (t445.length : Int)) = true := decide_eq_true c9
     clear c9
     simp only [Option.some.injEq, Prod.mk.injEq] at H
     obtain ⟨rfl, rfl, rfl⟩ := H
     go_enter Try.func17, Try.ntmps17
     go_wp2_with (first | (go_at_call 37; (with_reducible refine (spec_l10Code.calls k a0 _ _ l1 a2 t443 _ ?side1 ?side2 A4.out).mono ?_); (case side1 => repeat (first | exact HR1.out | (with_reducible refine Kd.C_alloc ?_ _) | (with_reducible refine Kd.C_drewN ?_ _) | (with_reducible refine Kd.C_drew ?_))); (case side2 => exact HC1.out); rintro e w10 ⟨rfl, hb⟩; have n0_ := Aside0.mk (below_step (by repeat (first | (with_reducible first | exact HB.out | apply below_alloc | apply pw_below_drewN | apply below_drew1) | exact HB.out)) hb); clear HB; have HB := n0_; clear n0_; (try clear hb); (try clear hb2); (try clear hk); (try clear hi)) | (go_at_call 38; (with_reducible refine (spec_l10Times.calls k a0 _ _ l1 t444 t445 _ ?side1 ?side2 A6.out).mono ?_); (case side1 => repeat (first | exact (Kd.C_below HR1.out HB.out) | (with_reducible refine Kd.C_alloc ?_ _) | (with_reducible refine Kd.C_drewN ?_ _) | (with_reducible refine Kd.C_drew ?_))); (case side2 => exact HC1.out); rintro e w11 ⟨v446, v448, rfl, ho0, ho1, hb⟩; have n0_ := Aside0.mk (Kd.R_lower ho0 (below_size (by repeat (first | (with_reducible first | exact HB.out | apply below_alloc | apply pw_below_drewN | apply below_drew1) | exact HB.out)))); have n1_ := Aside0.mk (Kd.R_lower ho1 (below_size (by repeat (first | (with_reducible first | exact HB.out | apply below_alloc | apply pw_below_drewN | apply below_drew1) | exact HB.out)))); have n2_ := Aside0.mk (below_step (by repeat (first | (with_reducible first | exact HB.out | apply below_alloc | apply pw_below_drewN | apply below_drew1) | exact HB.out)) hb); clear HB; have HO447 := n0_; have HO449 := n1_; have HB := n2_; clear n0_ n1_ n2_; (try clear hb); (try clear hb2); (try clear hk); (try clear hi); (try clear ho0); (try clear ho1); obtain ⟨Ao12, co12, eo12⟩ := Kd.R_slice HO447.out; subst eo12; have p450 : 0 ≤ (a2 : Int) := of_decide_eq_true (by first | (with_reducible assumption) | assumption); have q450 : a2 < (t444.length : Int) := of_decide_eq_true (by first | (with_reducible assumption) | assumption); obtain ⟨ad450, e450, hx450_0⟩ := Kd.at_int (Kd.R_reads' HO447.out).2.2 a2 p450 q450; cases e450; replace p450 := eq_true p450; replace q450 := eq_true q450; obtain ⟨Ao13, co13, eo13⟩ := Kd.R_slice HO449.out; subst eo13; have p451 : 0 ≤ (a2 : Int) := of_decide_eq_true (by first | (with_reducible assumption) | assumption); have q451 : a2 < (t445.length : Int) := of_decide_eq_true (by first | (with_reducible assumption) | assumption); obtain ⟨ad451, e451, hx451_0⟩ := Kd.at_int (Kd.R_reads' HO449.out).2.2 a2 p451 q451; cases e451; replace p451 := eq_true p451; replace q451 := eq_true q451))
     repeat (go_quiet (first | (go_at_call 37; (with_reducible refine (spec_l10Code.calls k a0 _ _ l1 a2 t443 _ ?side1 ?side2 A4.out).mono ?_); (case side1 => repeat (first | exact HR1.out | (with_reducible refine Kd.C_alloc ?_ _) | (with_reducible refine Kd.C_drewN ?_ _) | (with_reducible refine Kd.C_drew ?_))); (case side2 => exact HC1.out); rintro e w10 ⟨rfl, hb⟩; have n0_ := Aside0.mk (below_step (by repeat (first | (with_reducible first | exact HB.out | apply below_alloc | apply pw_below_drewN | apply below_drew1) | exact HB.out)) hb); clear HB; have HB := n0_; clear n0_; (try clear hb); (try clear hb2); (try clear hk); (try clear hi)) | (go_at_call 38; (with_reducible refine (spec_l10Times.calls k a0 _ _ l1 t444 t445 _ ?side1 ?side2 A6.out).mono ?_); (case side1 => repeat (first | exact (Kd.C_below HR1.out HB.out) | (with_reducible refine Kd.C_alloc ?_ _) | (with_reducible refine Kd.C_drewN ?_ _) | (with_reducible refine Kd.C_drew ?_))); (case side2 => exact HC1.out); rintro e w11 ⟨v446, v448, rfl, ho0, ho1, hb⟩; have n0_ := Aside0.mk (Kd.R_lower ho0 (below_size (by repeat (first | (with_reducible first | exact HB.out | apply below_alloc | apply pw_below_drewN | apply below_drew1) | exact HB.out)))); have n1_ := Aside0.mk (Kd.R_lower ho1 (below_size (by repeat (first | (with_reducible first | exact HB.out | apply below_alloc | apply pw_below_drewN | apply below_drew1) | exact HB.out)))); have n2_ := Aside0.mk (below_step (by repeat (first | (with_reducible first | exact HB.out | apply below_alloc | apply pw_below_drewN | apply below_drew1) | exact HB.out)) hb); clear HB; have HO447 := n0_; have HO449 := n1_; have HB := n2_; clear n0_ n1_ n2_; (try clear hb); (try clear hb2); (try clear hk); (try clear hi); (try clear ho0); (try clear ho1); obtain ⟨Ao12, co12, eo12⟩ := Kd.R_slice HO447.out; subst eo12; have p450 : 0 ≤ (a2 : Int) := of_decide_eq_true (by first | (with_reducible assumption) | assumption); have q450 : a2 < (t444.length : Int) := of_decide_eq_true (by first | (with_reducible assumption) | assumption); obtain ⟨ad450, e450, hx450_0⟩ := Kd.at_int (Kd.R_reads' HO447.out).2.2 a2 p450 q450; cases e450; replace p450 := eq_true p450; replace q450 := eq_true q450; obtain ⟨Ao13, co13, eo13⟩ := Kd.R_slice HO449.out; subst eo13; have p451 : 0 ≤ (a2 : Int) := of_decide_eq_true (by first | (with_reducible assumption) | assumption); have q451 : a2 < (t445.length : Int) := of_decide_eq_true (by first | (with_reducible assumption) | assumption); obtain ⟨ad451, e451, hx451_0⟩ := Kd.at_int (Kd.R_reads' HO449.out).2.2 a2 p451 q451; cases e451; replace p451 := eq_true p451; replace q451 := eq_true q451)); try go_wp2_with (first | (go_at_call 37; (with_reducible refine (spec_l10Code.calls k a0 _ _ l1 a2 t443 _ ?side1 ?side2 A4.out).mono ?_); (case side1 => repeat (first | exact HR1.out | (with_reducible refine Kd.C_alloc ?_ _) | (with_reducible refine Kd.C_drewN ?_ _) | (with_reducible refine Kd.C_drew ?_))); (case side2 => exact HC1.out); rintro e w10 ⟨rfl, hb⟩; have n0_ := Aside0.mk (below_step (by repeat (first | (with_reducible first | exact HB.out | apply below_alloc | apply pw_below_drewN | apply below_drew1) | exact HB.out)) hb); clear HB; have HB := n0_; clear n0_; (try clear hb); (try clear hb2); (try clear hk); (try clear hi)) | (go_at_call 38; (with_reducible refine (spec_l10Times.calls k a0 _ _ l1 t444 t445 _ ?side1 ?side2 A6.out).mono ?_); (case side1 => repeat (first | exact (Kd.C_below HR1.out HB.out) | (with_reducible refine Kd.C_alloc ?_ _) | (with_reducible refine Kd.C_drewN ?_ _) | (with_reducible refine Kd.C_drew ?_))); (case side2 => exact HC1.out); rintro e w11 ⟨v446, v448, rfl, ho0, ho1, hb⟩; have n0_ := Aside0.mk (Kd.R_lower ho0 (below_size (by repeat (first | (with_reducible first | exact HB.out | apply below_alloc | apply pw_below_drewN | apply below_drew1) | exact HB.out)))); have n1_ := Aside0.mk (Kd.R_lower ho1 (below_size (by repeat (first | (with_reducible first | exact HB.out | apply below_alloc | apply pw_below_drewN | apply below_drew1) | exact HB.out)))); have n2_ := Aside0.mk (below_step (by repeat (first | (with_reducible first | exact HB.out | apply below_alloc | apply pw_below_drewN | apply below_drew1) | exact HB.out)) hb); clear HB; have HO447 := n0_; have HO449 := n1_; have HB := n2_; clear n0_ n1_ n2_; (try clear hb); (try clear hb2); (try clear hk); (try clear hi); (try clear ho0); (try clear ho1); obtain ⟨Ao12, co12, eo12⟩ := Kd.R_slice HO447.out; subst eo12; have p450 : 0 ≤ (a2 : Int) := of_decide_eq_true (by first | (with_reducible assumption) | assumption); have q450 : a2 < (t444.length : Int) := of_decide_eq_true (by first | (with_reducible assumption) | assumption); obtain ⟨ad450, e450, hx450_0⟩ := Kd.at_int (Kd.R_reads' HO447.out).2.2 a2 p450 q450; cases e450; replace p450 := eq_true p450; replace q450 := eq_true q450; obtain ⟨Ao13, co13, eo13⟩ := Kd.R_slice HO449.out; subst eo13; have p451 : 0 ≤ (a2 : Int) := of_decide_eq_true (by first | (with_reducible assumption) | assumption); have q451 : a2 < (t445.length : Int) := of_decide_eq_true (by first | (with_reducible assumption) | assumption); obtain ⟨ad451, e451, hx451_0⟩ := Kd.at_int (Kd.R_reads' HO449.out).2.2 a2 p451 q451; cases e451; replace p451 := eq_true p451; replace q451 := eq_true q451)))
     go_ret3
     exact ⟨by first | rfl | (simp [errW_none, errW_some] <;> rfl) | (simp [*, errW_none, errW_some] <;> rfl), by repeat (first | (with_reducible first | exact HB.out | apply below_alloc | apply pw_below_drewN | apply below_drew1) | exact HB.out)⟩
    ·rw [if_neg c9] at H
     exact absurd H (by simp)
   ·rw [if_neg c8] at H
    exact absurd H (by simp)
  ·rw [if_neg c7] at H
   exact absurd H (by simp)
 ·rw [if_neg c5] at H
  have c5b0 : (t443 == 0) = false := beq_eq_false_iff_ne.mpr c5
  have c5b1 : (t443 != 0) = true := bne_iff_ne.mpr c5
  simp only [Option.some.injEq, Prod.mk.injEq] at H
  obtain ⟨rfl, rfl, rfl⟩ := H
  go_enter Try.func17, Try.ntmps17
  go_wp2_with (first | (go_at_call 37; (with_reducible refine (spec_l10Code.calls k a0 _ _ l1 a2 t443 _ ?side1 ?side2 A4.out).mono ?_); (case side1 => repeat (first | exact HR1.out | (with_reducible refine Kd.C_alloc ?_ _) | (with_reducible refine Kd.C_drewN ?_ _) | (with_reducible refine Kd.C_drew ?_))); (case side2 => exact HC1.out); rintro e w14 ⟨rfl, hb⟩; have n0_ := Aside0.mk (below_step (by repeat (first | (with_reducible first | exact HB.out | apply below_alloc | apply pw_below_drewN | apply below_drew1) | exact HB.out)) hb); clear HB; have HB := n0_; clear n0_; (try clear hb); (try clear hb2); (try clear hk); (try clear hi)))
  repeat (go_quiet (first | (go_at_call 37; (with_reducible refine (spec_l10Code.calls k a0 _ _ l1 a2 t443 _ ?side1 ?side2 A4.out).mono ?_); (case side1 => repeat (first | exact HR1.out | (with_reducible refine Kd.C_alloc ?_ _) | (with_reducible refine Kd.C_drewN ?_ _) | (with_reducible refine Kd.C_drew ?_))); (case side2 => exact HC1.out); rintro e w14 ⟨rfl, hb⟩; have n0_ := Aside0.mk (below_step (by repeat (first | (with_reducible first | exact HB.out | apply below_alloc | apply pw_below_drewN | apply below_drew1) | exact HB.out)) hb); clear HB; have HB := n0_; clear n0_; (try clear hb); (try clear hb2); (try clear hk); (try clear hi))); try go_wp2_with (first | (go_at_call 37; (with_reducible refine (spec_l10Code.calls k a0 _ _ l1 a2 t443 _ ?side1 ?side2 A4.out).mono ?_); (case side1 => repeat (first | exact HR1.out | (with_reducible refine Kd.C_alloc ?_ _) | (with_reducible refine Kd.C_drewN ?_ _) | (with_reducible refine Kd.C_drew ?_))); (case side2 => exact HC1.out); rintro e w14 ⟨rfl, hb⟩; have n0_ := Aside0.mk (below_step (by repeat (first | (with_reducible first | exact HB.out | apply below_alloc | apply pw_below_drewN | apply below_drew1) | exact HB.out)) hb); clear HB; have HB := n0_; clear n0_; (try clear hb); (try clear hb2); (try clear hk); (try clear hi))))
  go_ret3
  exact ⟨by first | rfl | (simp [errW_none, errW_some] <;> rfl) | (simp [*, errW_none, errW_some] <;> rfl), by repeat (first | (with_reducible first | exact HB.out | apply below_alloc | apply pw_below_drewN | apply below_drew1) | exact HB.out)⟩
end Go.Proofs.Ytlnfjhahnacmiaa.F
namespace Go.Proofs.Ytlnfjhahnacmiaa.F
open Go.RowKit Go.Proofs.YtlnfjhahnacmiaaW.PrintWords Go.Proofs.YtlnfjhahnacmiaaW.PrintLast Go.Proofs.YtlnfjhahnacmiaaW.PrintMore
set_option linter.unusedVariables false
set_option linter.unusedSimpArgs false
theorem impl_between {m : Nat} {xs : List S39} (h : areFuses (m : Int) xs = true) (h1 : 1 ≤ m) (h2 : m ≤ 10) (hx : xs.length ≤ 20) {E L : List Int} (hE : E.length = m) (hL : L.length = m) {K : Nat} (ht : ∀ k, K ≤ k → impl_litTimes.f k (m : Int) xs = some (E, L)) (a : Int) (k : Nat) (hk : K + 40 ≤ k) : impl_LitBetween.f k (m : Int) xs a = some (if cdo E m a = 0 then (rd E a, rd L a, 0) else (0, 0, cdo E m a)) := by
 unfold impl_LitBetween.f
 rw [impl_code1 h h1 h2 hx hE ht a k (by omega)]
 simp only [Option.bind_some]
 by_cases c : cdo E m a = 0
 ·have ha := cdo_in c
  rw [if_pos c, if_pos c, ht k (by omega)]
  simp only [Option.bind_some]
  rw [if_pos (by omega), if_pos (by omega), if_pos (by omega)]
 ·rw [if_neg c, if_neg c]
theorem cdo_at {E : List Int} {m : Nat} {a : Int} (h : 0 ≤ a ∧ a < (m : Int)) : cdo E m a = if rd E a < 0 then 4 else 0 := by
 unfold cdo
 rw [if_pos (inB_true.2 (by omega))]
theorem has_int (X : List Int) (hX : X.length ≤ 4000000) (a : Int) (k : Nat) (hk : X.length < k) : laws_hasInt.f k X a = some (decide (a ∈ X)) := by
 have loop : ∀ d i k, X.length - i = d → i ≤ X.length → d < k → laws_hasInt.l0 k X a (i : Int) = some (decide (a ∈ X.drop i)) := by
  intro d
  induction d with
  | zero =>
   intro i k hd hi hk
   obtain ⟨k, rfl⟩ : ∃ m, k = m + 1 := ⟨k - 1, by omega⟩
   simp only [laws_hasInt.l0]
   rw [if_neg (by omega), List.drop_eq_nil_of_le (by omega)]
   rfl
  | succ d ih =>
   intro i k hd hi hk
   obtain ⟨k, rfl⟩ : ∃ m, k = m + 1 := ⟨k - 1, by omega⟩
   have hlt : i < X.length := by omega
   have e : X.drop i = rd X (i : Int) :: X.drop (i + 1) := by
    rw [List.drop_eq_getElem_cons hlt]
    unfold rd
    rw [Int.toNat_natCast, List.getD_eq_getElem?_getD, List.getElem?_eq_getElem hlt]
    rfl
   simp only [laws_hasInt.l0]
   rw [if_pos (by omega), if_pos (by omega), w64 (n := (i : Int) + 1) (by omega), e]
   by_cases c : rd X (i : Int) = a
   ·rw [if_pos c, decide_eq_true (List.mem_cons.2 (.inl c.symm))]
   ·rw [if_neg c]
    refine (ih (i + 1) k (by omega) (by omega) (by omega)).trans ?_
    congr 1
    rw [Bool.eq_iff_iff, decide_eq_true_iff, decide_eq_true_iff, List.mem_cons]
    exact ⟨fun x => .inr x, fun x => x.elim (fun y => absurd y.symm c) id⟩
 unfold laws_hasInt.f
 exact loop X.length 0 k (by omega) (by omega) hk
theorem like_ints (X : List Int) (hX : X.length ≤ 4000000) (k : Nat) (hk : X.length < k) : laws_likeInts.f k X X = some true := by
 have loop : ∀ d i k, X.length - i = d → i ≤ X.length → d < k → laws_likeInts.l0 k X X (i : Int) = some true := by
  intro d
  induction d with
  | zero =>
   intro i k hd hi hk
   obtain ⟨k, rfl⟩ : ∃ m, k = m + 1 := ⟨k - 1, by omega⟩
   simp only [laws_likeInts.l0]
   rw [if_neg (by omega)]
  | succ d ih =>
   intro i k hd hi hk
   obtain ⟨k, rfl⟩ : ∃ m, k = m + 1 := ⟨k - 1, by omega⟩
   simp only [laws_likeInts.l0]
   rw [if_pos (by omega), if_pos (by omega), if_pos (by omega), if_pos trivial, w64 (by omega)]
   exact ih (i + 1) k (by omega) (by omega) (by omega)
 unfold laws_likeInts.f
 rw [if_pos rfl]
 exact loop X.length 0 k (by omega) (by omega) hk
theorem fuse_mem_iff (n : Int) (xs : List S39) : allF (fuseAt n xs) 0 xs.length = true ↔ ∀ y ∈ xs, (inB y.f0 0 (wrap64 (n - 1)) && (inB y.f1 (wrap64 (y.f0 + 1)) (wrap64 (n - 1)) && (inB y.f2 0 100000 && inB y.f3 y.f2 100000))) = true := by
 rw [allF_true]
 constructor
 ·intro h y hy
  obtain ⟨i, hi, rfl⟩ := List.getElem_of_mem hy
  have := h i (Nat.zero_le _) (by omega)
  unfold fuseAt fu_at at this
  rw [List.getD_eq_getElem?_getD, List.getElem?_eq_getElem hi] at this
  exact this
 ·intro h i _ hi
  exact h (fu_at xs i) (fu_mem (by omega))
theorem areFuses_without {n : Int} {xs : List S39} (h : areFuses n xs = true) (i : Nat) (hi : i < xs.length) : areFuses n (without xs i) = true := by
 unfold areFuses at h ⊢
 rw [Bool.and_eq_true, Bool.and_eq_true, decide_eq_true_iff, fuse_mem_iff] at h
 rw [Bool.and_eq_true, Bool.and_eq_true, decide_eq_true_iff, fuse_mem_iff]
 refine ⟨fun y hy => h.1 y ?_, h.2.1, by rw [without_len xs i hi]; omega⟩
 unfold without at hy
 rcases List.mem_append.1 hy with g | g
 ·exact List.mem_of_mem_take g
 ·exact List.mem_of_mem_drop g
end Go.Proofs.Ytlnfjhahnacmiaa.F
namespace Go.Proofs.Ytlnfjhahnacmiaa.F
open Go.RowKit Go.Proofs.YtlnfjhahnacmiaaW.PrintWords Go.Proofs.YtlnfjhahnacmiaaW.PrintLast Go.Proofs.YtlnfjhahnacmiaaW.PrintMore
set_option linter.unusedVariables false
set_option linter.unusedSimpArgs false
def Code (c : List Int) : Prop := c.length ≤ 4096 ∧ ∀ x ∈ c, 0 ≤ x ∧ x ≤ 255
def St (c : List Int) (a s : Int) : Prop := 0 ≤ a ∧ a ≤ (c.length : Int) ∧ 0 ≤ s ∧ s < 2147483647
theorem rd_code {c : List Int} (hc : Code c) (i : Int) : 0 ≤ rd c i ∧ rd c i ≤ 255 := by
 unfold rd
 rw [List.getD_eq_getElem?_getD]
 cases h : c[i.toNat]? with
 | none => exact ⟨Int.le_refl _, by decide⟩
 | some x => exact hc.2 x (List.mem_of_getElem? h)
theorem tmod_nn {a b : Int} (ha : 0 ≤ a) (hb : 0 < b) : 0 ≤ Int.tmod a b ∧ Int.tmod a b < b := by
 rw [Int.tmod_eq_emod_of_nonneg ha]
 exact ⟨Int.emod_nonneg _ (by omega), Int.emod_lt_of_pos _ hb⟩
theorem next_ok {c : List Int} (hc : Code c) {a s : Int} (h : St c a s) (n : Int) (hn : n ≤ 4611686018427387904) : ∃ r a' s', spec_l01Next.f c a s n = some (r, a', s') ∧ St c a' s' ∧ 0 ≤ r ∧ (r < n ∨ (n ≤ 1 ∧ r = 0)) := by
 obtain ⟨h1, h2, h3, h4⟩ := h
 have hl := hc.1
 unfold spec_l01Next.f
 by_cases c1 : n ≤ 1
 ·rw [if_pos c1]
  exact ⟨0, a, s, rfl, ⟨h1, h2, h3, h4⟩, Int.le_refl _, .inr ⟨c1, rfl⟩⟩
 ·have hs := tmod_nn (a := s * 48271 + 29) (b := 2147483647) (by omega) (by omega)
  rw [if_neg c1, w64 (n := s * 48271) (by omega), w64 (n := s * 48271 + 29) (by omega)]
  generalize Int.tmod (s * 48271 + 29) 2147483647 = z at hs ⊢
  have hd : Int.tdiv z 31 = z / 31 := Int.tdiv_eq_ediv_of_nonneg hs.1
  rw [hd]
  have n0 : ¬ n = 0 := by omega
  by_cases c2 : a < (c.length : Int)
  ·have hr := rd_code hc a
   have p := tmod_nn (a := z / 31 + rd c a) (b := n) (by omega) (by omega)
   have q := tmod_nn (a := rd c a) (b := n) (by omega) (by omega)
   simp only [if_neg n0]
   rw [if_pos c2, if_pos h1, w64 (n := a + 1) (by omega), w64 (n := z / 31) (by omega), w64 (n := rd c a) (by omega), w64 (n := z / 31 + rd c a) (by omega), w64 (n := a + 1 - 1) (by omega), show a + 1 - 1 = a by omega, w64 (n := rd c a) (by omega)]
   by_cases c3 : n ≤ 256
   ·rw [if_pos c3]
    by_cases c4 : Int.tmod (a + 1) 2 = 0
    ·rw [if_pos c4, if_pos h1, if_pos c2]
     exact ⟨_, _, _, rfl, ⟨by omega, by omega, hs.1, hs.2⟩, q.1, .inl q.2⟩
    ·rw [if_neg c4]
     exact ⟨_, _, _, rfl, ⟨by omega, by omega, hs.1, hs.2⟩, p.1, .inl p.2⟩
   ·rw [if_neg c3]
    exact ⟨_, _, _, rfl, ⟨by omega, by omega, hs.1, hs.2⟩, p.1, .inl p.2⟩
  ·have p := tmod_nn (a := z / 31) (b := n) (by omega) (by omega)
   simp only [if_neg n0]
   rw [if_neg c2, w64 (n := z / 31) (by omega)]
   exact ⟨_, _, _, rfl, ⟨h1, h2, hs.1, hs.2⟩, p.1, .inl p.2⟩
theorem pick_ok {c : List Int} (hc : Code c) {a s : Int} (h : St c a s) (l : List Int) (hl : 0 < l.length) (hl2 : l.length ≤ 1000) : ∃ r a' s', spec_l01Pick.f c a s l = some (r, a', s') ∧ St c a' s' ∧ r ∈ l := by
 obtain ⟨r, a', s', e, h', h0, h1⟩ := next_ok hc h (l.length : Int) (by omega)
 refine ⟨rd l r, a', s', ?_, h', ?_⟩
 ·unfold spec_l01Pick.f
  rw [e]
  simp only [Option.bind_some]
  rw [if_pos h0, if_pos (by omega)]
 ·have hr : r.toNat < l.length := by omega
  unfold rd
  rw [List.getD_eq_getElem?_getD, List.getElem?_eq_getElem hr]
  exact List.getElem_mem hr
theorem from_ok {c : List Int} (hc : Code c) : ∃ s, (∀ k, 70 ≤ k → spec_l01From.f k c = some (c, 0, s)) ∧ St c 0 s := by
 have loop : ∀ (d : Nat) (i s : Int), 0 ≤ i → i ≤ 64 → 64 - i ≤ d → 0 ≤ s → s < 2147483647 → ∃ s', (∀ k, d < k → spec_l01From.l0 k c i c 0 s = some (c, 0, s')) ∧ St c 0 s' := by
  intro d
  induction d with
  | zero =>
   intro i s h1 h2 h3 h4 h5
   refine ⟨s, fun k hk => ?_, by omega, by omega, h4, h5⟩
   obtain ⟨k, rfl⟩ : ∃ m, k = m + 1 := ⟨k - 1, by omega⟩
   simp only [spec_l01From.l0]
   rw [if_neg (show ¬ i < 64 by omega)]
   split <;> rfl
  | succ d ih =>
   intro i s h1 h2 h3 h4 h5
   by_cases c1 : i < (c.length : Int) ∧ i < 64
   ·have hr := rd_code hc i
    have hm := tmod_nn (a := s * 83 + rd c i) (b := 2147483647) (by omega) (by omega)
    obtain ⟨s', e, hs⟩ := ih (i + 1) (Int.tmod (s * 83 + rd c i) 2147483647) (by omega) (by omega) (by omega) hm.1 hm.2
    refine ⟨s', fun k hk => ?_, hs⟩
    obtain ⟨k, rfl⟩ : ∃ m, k = m + 1 := ⟨k - 1, by omega⟩
    simp only [spec_l01From.l0]
    rw [if_pos c1.1, if_pos c1.2, if_pos h1, w64 (n := i + 1) (by omega), w64 (n := s * 83) (by omega), w64 (n := rd c i) (by omega), w64 (n := s * 83 + rd c i) (by omega)]
    exact e k (by omega)
   ·refine ⟨s, fun k hk => ?_, by omega, by omega, h4, h5⟩
    obtain ⟨k, rfl⟩ : ∃ m, k = m + 1 := ⟨k - 1, by omega⟩
    simp only [spec_l01From.l0]
    by_cases c2 : i < (c.length : Int)
    ·rw [if_pos c2, if_neg (fun x => c1 ⟨c2, x⟩)]
    ·rw [if_neg c2]
 obtain ⟨s', e, hs⟩ := loop 64 0 61043 (by omega) (by omega) (by omega) (by omega) (by omega)
 exact ⟨s', fun k hk => e k (by omega), hs⟩
theorem code_of {l : List Int} (h : ¬ (l.length : Int) > 4096) (hb : ∀ x ∈ l, (Go.Lit.int .u8 x).wf = true) : Code l := ⟨by omega, fun x hx => by
 have h := hb x hx
 simp [Go.Lit.wf, Go.IntKind.min, Go.IntKind.max, Go.IntKind.signed, Go.IntKind.bits] at h
 omega⟩
end Go.Proofs.Ytlnfjhahnacmiaa.F
namespace Go.Proofs.Ytlnfjhahnacmiaa.F
open Go.RowKit Go.Proofs.YtlnfjhahnacmiaaW.PrintWords Go.Proofs.YtlnfjhahnacmiaaW.PrintLast Go.Proofs.YtlnfjhahnacmiaaW.PrintMore
set_option linter.unusedVariables false
set_option linter.unusedSimpArgs false
theorem fuse_draw {c : List Int} (hc : Code c) {a s : Int} (h : St c a s) : ∃ n xs a' s', (∀ k, 60 ≤ k → spec_l10Draw.f k c a s = some (n, xs, a', s')) ∧ St c a' s' ∧ xs.length ≤ 40 ∧ 0 ≤ n ∧ n ≤ 11 := by
 have l1 : ∀ (n : Int) (d : Nat) (xs : List S39) (a s : Int), 21 - xs.length = d → xs.length ≤ 30 → St c a s → ∃ r a' s', (∀ k, d < k → spec_l10Draw.l1 k n xs c a s = some (n, r, a', s')) ∧ St c a' s' ∧ r.length ≤ 40 := by
  intro n d
  induction d with
  | zero =>
   intro xs a s hd hx h
   obtain ⟨r1, a1, s1, e1, h1, b1, b2⟩ := next_ok hc h 2 (by omega)
   refine ⟨xs, a1, s1, fun k hk => ?_, h1, by omega⟩
   obtain ⟨k, rfl⟩ : ∃ m, k = m + 1 := ⟨k - 1, by omega⟩
   simp only [spec_l10Draw.l1, e1, Option.bind_some]
   rw [w64 (n := 20 + r1) (by omega), if_neg (by omega)]
  | succ d ih =>
   intro xs a s hd hx h
   obtain ⟨r1, a1, s1, e1, h1, b1, b2⟩ := next_ok hc h 2 (by omega)
   by_cases c1 : (xs.length : Int) < 20 + r1
   ·obtain ⟨r, a', s', e, h', hl⟩ := ih (xs ++ [(⟨0, 1, 700, 900⟩ : S39)]) a1 s1 (by rw [List.length_append]; show 21 - (xs.length + 1) = d; omega) (by rw [List.length_append]; show xs.length + 1 ≤ 30; omega) h1
    refine ⟨r, a', s', fun k hk => ?_, h', hl⟩
    obtain ⟨k, rfl⟩ : ∃ m, k = m + 1 := ⟨k - 1, by omega⟩
    simp only [spec_l10Draw.l1, e1, Option.bind_some]
    rw [w64 (n := 20 + r1) (by omega), if_pos c1, if_pos (by omega)]
    exact e k (by omega)
   ·refine ⟨xs, a1, s1, fun k hk => ?_, h1, by omega⟩
    obtain ⟨k, rfl⟩ : ∃ m, k = m + 1 := ⟨k - 1, by omega⟩
    simp only [spec_l10Draw.l1, e1, Option.bind_some]
    rw [w64 (n := 20 + r1) (by omega), if_neg c1]
 have fin : ∀ (n x : Int) (xs : List S39) (a s : Int), ¬ x > 0 → 0 ≤ n → n ≤ 11 → xs.length ≤ 20 → St c a s → ∃ m r a' s', (∀ k, 30 ≤ k → spec_l10Draw.l0 k n xs x c a s = some (m, r, a', s')) ∧ St c a' s' ∧ r.length ≤ 40 ∧ 0 ≤ m ∧ m ≤ 11 := by
  intro n x xs a s hn n0 n1 hx h
  obtain ⟨r1, a1, s1, e1, h1, b1, b2⟩ := next_ok hc h 40 (by omega)
  have st : ∀ k, 30 ≤ k → ∃ m, k = m + 1 ∧ 29 ≤ m := fun k hk => ⟨k - 1, by omega, by omega⟩
  by_cases d0 : r1 = 0
  ·obtain ⟨r2, a2, s2, e2, h2, m2⟩ := pick_ok hc h1 [0, 1, 10, 11] (by simp) (by simp)
   refine ⟨r2, xs, a2, s2, fun k hk => ?_, h2, by omega, ?_⟩
   ·obtain ⟨k, rfl, hk⟩ := st k hk
    simp only [spec_l10Draw.l0]
    rw [if_neg hn]
    simp only [e1, e2, Option.bind_some]
    rw [if_pos d0]
   ·simp only [List.mem_cons, List.not_mem_nil, or_false] at m2
    omega
  by_cases d1 : r1 = 1
  ·obtain ⟨r2, a2, s2, e2, h2, _⟩ := next_ok hc h1 3 (by omega)
   refine ⟨n, xs ++ [(⟨1, r2, 5, 5⟩ : S39)], a2, s2, fun k hk => ?_, h2, by rw [List.length_append]; show xs.length + 1 ≤ 40; omega, n0, n1⟩
   obtain ⟨k, rfl, hk⟩ := st k hk
   simp only [spec_l10Draw.l0]
   rw [if_neg hn]
   simp only [e1, e2, Option.bind_some]
   rw [if_neg d0, if_pos d1, if_pos (by omega)]
  by_cases d2 : r1 = 2
  ·obtain ⟨r2, a2, s2, e2, h2, _⟩ := pick_ok hc h1 [6, -1] (by simp) (by simp)
   obtain ⟨r3, a3, s3, e3, h3, _⟩ := pick_ok hc h2 [5, 100000, 100001] (by simp) (by simp)
   refine ⟨n, xs ++ [(⟨0, 1, r2, r3⟩ : S39)], a3, s3, fun k hk => ?_, h3, by rw [List.length_append]; show xs.length + 1 ≤ 40; omega, n0, n1⟩
   obtain ⟨k, rfl, hk⟩ := st k hk
   simp only [spec_l10Draw.l0]
   rw [if_neg hn]
   simp only [e1, e2, e3, Option.bind_some]
   rw [if_neg d0, if_neg d1, if_pos d2, if_pos (by omega)]
  by_cases d3 : r1 = 3
  ·obtain ⟨r, a', s', e, h', hl⟩ := l1 n (21 - xs.length) xs a1 s1 rfl (by omega) h1
   refine ⟨n, r, a', s', fun k hk => ?_, h', hl, n0, n1⟩
   obtain ⟨k, rfl, hk⟩ := st k hk
   simp only [spec_l10Draw.l0]
   rw [if_neg hn]
   simp only [e1, Option.bind_some]
   rw [if_neg d0, if_neg d1, if_neg d2, if_pos d3]
   exact e k (by omega)
  ·refine ⟨n, xs, a1, s1, fun k hk => ?_, h1, by omega, n0, n1⟩
   obtain ⟨k, rfl, hk⟩ := st k hk
   simp only [spec_l10Draw.l0]
   rw [if_neg hn]
   simp only [e1, Option.bind_some]
   rw [if_neg d0, if_neg d1, if_neg d2, if_neg d3]
 have l0 : ∀ (n : Int), 2 ≤ n → n ≤ 7 → ∀ (d : Nat) (x : Int) (xs : List S39) (a s : Int), x ≤ d → xs.length + d ≤ 20 → St c a s → ∃ m r a' s', (∀ k, d + 30 ≤ k → spec_l10Draw.l0 k n xs x c a s = some (m, r, a', s')) ∧ St c a' s' ∧ r.length ≤ 40 ∧ 0 ≤ m ∧ m ≤ 11 := by
  intro n n1 n2 d
  induction d with
  | zero =>
   intro x xs a s hx hl h
   obtain ⟨m, r, a', s', e, r2⟩ := fin n x xs a s (by omega) (by omega) (by omega) (by omega) h
   exact ⟨m, r, a', s', fun k hk => e k (by omega), r2⟩
  | succ d ih =>
   intro x xs a s hx hl h
   by_cases c0 : x > 0
   ·obtain ⟨r1, a1, s1, e1, h1, b1, b2⟩ := next_ok hc h (n - 1) (by omega)
    obtain ⟨r2, a2, s2, e2, h2, b3, b4⟩ := next_ok hc h1 12 (by omega)
    obtain ⟨r3, a3, s3, e3, h3, b5, b6⟩ := next_ok hc h2 (n - 1 - r1) (by omega)
    obtain ⟨r4, a4, s4, e4, h4, b7, b8⟩ := next_ok hc h3 4 (by omega)
    obtain ⟨m, r, a', s', e, p⟩ := ih (x - 1) (xs ++ [(⟨r1, wrap64 ((wrap64 (r1 + 1)) + r3), wrap64 (r2 * 100), wrap64 ((wrap64 (r2 * 100)) + (wrap64 (r4 * 100)))⟩ : S39)]) a4 s4 (by omega) (by rw [List.length_append]; show xs.length + 1 + d ≤ 20; omega) h4
    refine ⟨m, r, a', s', fun k hk => ?_, p⟩
    obtain ⟨k, rfl⟩ : ∃ m, k = m + 1 := ⟨k - 1, by omega⟩
    simp only [spec_l10Draw.l0]
    rw [if_pos c0, w64 (n := n - 1) (by omega), e1]
    simp only [Option.bind_some]
    rw [w64 (n := n - 1 - r1) (by omega)]
    simp only [e2, e3, e4, Option.bind_some]
    rw [if_pos (by omega), w64 (n := x - 1) (by omega)]
    exact e k (by omega)
   ·obtain ⟨m, r, a', s', e, r2⟩ := fin n x xs a s c0 (by omega) (by omega) (by omega) h
    exact ⟨m, r, a', s', fun k hk => e k (by omega), r2⟩
 obtain ⟨r1, a1, s1, e1, h1, b1, b2⟩ := next_ok hc h 6 (by omega)
 obtain ⟨r2, a2, s2, e2, h2, b3, b4⟩ := next_ok hc h1 10 (by omega)
 obtain ⟨m, r, a', s', e, p1, p2, p3, p4⟩ := l0 (2 + r1) (by omega) (by omega) 10 r2 [] a2 s2 (by omega) (by show 0 + 10 ≤ 20; omega) h2
 refine ⟨m, r, a', s', fun k hk => ?_, p1, p2, p3, p4⟩
 unfold spec_l10Draw.f
 simp only [e1, e2, Option.bind_some]
 rw [w64 (n := 2 + r1) (by omega)]
 exact e k (by omega)
end Go.Proofs.Ytlnfjhahnacmiaa.F
namespace Go.Proofs.Ytlnfjhahnacmiaa.F
open Go.RowKit Go.Proofs.YtlnfjhahnacmiaaW.PrintWords Go.Proofs.YtlnfjhahnacmiaaW.PrintLast Go.Proofs.YtlnfjhahnacmiaaW.PrintMore
set_option linter.unusedVariables false
set_option linter.unusedSimpArgs false
theorem index_eq (a n : Int) : impl_isIndex.f a n = some (inB a 0 (wrap64 (n - 1))) := by
 unfold impl_isIndex.f
 simp only [Wi_eq, Option.bind_some]
end Go.Proofs.Ytlnfjhahnacmiaa.F
namespace Go.Proofs.Ytlnfjhahnacmiaa.F
open Go.RowKit Go.Proofs.YtlnfjhahnacmiaaW.PrintWords Go.Proofs.YtlnfjhahnacmiaaW.PrintLast Go.Proofs.YtlnfjhahnacmiaaW.PrintMore
set_option linter.unusedVariables false
set_option linter.unusedSimpArgs false
theorem like_fuses (X : List S39) (hX : X.length ≤ 4000000) (k : Nat) (hk : X.length < k) : laws_likeFuses.f k X X = some true := by
 have loop : ∀ d i k, X.length - i = d → i ≤ X.length → d < k → laws_likeFuses.l0 k X X (i : Int) = some true := by
  intro d
  induction d with
  | zero =>
   intro i k hd hi hk
   obtain ⟨k, rfl⟩ : ∃ m, k = m + 1 := ⟨k - 1, by omega⟩
   simp only [laws_likeFuses.l0]
   rw [if_neg (by omega)]
  | succ d ih =>
   intro i k hd hi hk
   obtain ⟨k, rfl⟩ : ∃ m, k = m + 1 := ⟨k - 1, by omega⟩
   simp only [laws_likeFuses.l0]
   rw [if_pos (by omega), if_pos (by omega), if_pos (by omega), w64 (by omega)]
   simp only [BEq.rfl, Bool.not_true, Bool.or_self, Bool.false_eq_true, if_false]
   exact ih (i + 1) k (by omega) (by omega) (by omega)
 unfold laws_likeFuses.f
 rw [if_pos rfl]
 exact loop X.length 0 k (by omega) (by omega) hk
theorem dark_go (m : Nat) (E : List Int) (hE : E.length = m) (hm : m ≤ 10) : ∀ (d i : Nat) (X : List Int), m - i = d → i ≤ m → X.length ≤ i → ∃ q : List Int, q.length ≤ 10 ∧ (∀ k, d < k → spec_DarkNodes.l0 k (m : Int) E X (i : Int) = some (q, 0)) ∧ (∀ k, d < k → impl_DarkNodes.l0 k X E (E.length : Int) (i : Int) = some (q, 0)) ∧ ∀ j : Int, j ∈ q ↔ j ∈ X ∨ ((i : Int) ≤ j ∧ j < (m : Int) ∧ rd E j < 0) := by
 intro d
 induction d with
 | zero =>
  intro i X hd hi hX
  refine ⟨X, by omega, fun k hk => ?_, fun k hk => ?_, fun j => ⟨.inl, fun x => x.elim id fun y => absurd y.1 (by omega)⟩⟩
  ·obtain ⟨k, rfl⟩ : ∃ m, k = m + 1 := ⟨k - 1, by omega⟩
   unfold spec_DarkNodes.l0
   rw [if_neg (by omega)]
  ·obtain ⟨k, rfl⟩ : ∃ m, k = m + 1 := ⟨k - 1, by omega⟩
   unfold impl_DarkNodes.l0
   rw [if_neg (by omega)]
 | succ d ih =>
  intro i X hd hi hX
  by_cases c : rd E (i : Int) < 0
  ·obtain ⟨q, q0, e1, e2, e3⟩ := ih (i + 1) (X ++ [(i : Int)]) (by omega) (by omega) (by rw [List.length_append, List.length_singleton]; omega)
   refine ⟨q, q0, fun k hk => ?_, fun k hk => ?_, fun j => ?_⟩
   ·obtain ⟨k, rfl⟩ : ∃ m, k = m + 1 := ⟨k - 1, by omega⟩
    unfold spec_DarkNodes.l0
    rw [if_pos (by omega), if_pos (by omega), if_pos (by omega), if_pos c, if_pos (by omega), w64 (n := (i : Int) + 1) (by omega)]
    exact e1 k (by omega)
   ·obtain ⟨k, rfl⟩ : ∃ m, k = m + 1 := ⟨k - 1, by omega⟩
    unfold impl_DarkNodes.l0
    rw [if_pos (by omega), if_pos (by omega), if_pos (by omega), if_pos c, if_pos (by omega), w64 (n := (i : Int) + 1) (by omega)]
    exact e2 k (by omega)
   ·rw [e3, List.mem_append, List.mem_singleton]
    constructor
    ·rintro ((x | x) | x)
     ·exact .inl x
     ·subst x; exact .inr ⟨Int.le_refl _, by omega, c⟩
     ·exact .inr ⟨by omega, x.2.1, x.2.2⟩
    ·rintro (x | x)
     ·exact .inl (.inl x)
     ·by_cases e : j = (i : Int)
      ·exact .inl (.inr e)
      ·exact .inr ⟨by omega, x.2.1, x.2.2⟩
  ·obtain ⟨q, q0, e1, e2, e3⟩ := ih (i + 1) X (by omega) (by omega) (by omega)
   refine ⟨q, q0, fun k hk => ?_, fun k hk => ?_, fun j => ?_⟩
   ·obtain ⟨k, rfl⟩ : ∃ m, k = m + 1 := ⟨k - 1, by omega⟩
    unfold spec_DarkNodes.l0
    rw [if_pos (by omega), if_pos (by omega), if_pos (by omega), if_neg c, w64 (n := (i : Int) + 1) (by omega)]
    exact e1 k (by omega)
   ·obtain ⟨k, rfl⟩ : ∃ m, k = m + 1 := ⟨k - 1, by omega⟩
    unfold impl_DarkNodes.l0
    rw [if_pos (by omega), if_pos (by omega), if_pos (by omega), if_neg c, w64 (n := (i : Int) + 1) (by omega)]
    exact e2 k (by omega)
   ·rw [e3]
    constructor
    ·rintro (x | x)
     ·exact .inl x
     ·exact .inr ⟨by omega, x.2.1, x.2.2⟩
    ·rintro (x | x)
     ·exact .inl x
     ·by_cases e : j = (i : Int)
      ·subst e; exact absurd x.2.2 c
      ·exact .inr ⟨by omega, x.2.1, x.2.2⟩
theorem last_go (m : Nat) (L : List Int) (hL : L.length = m) (hm : m ≤ 10) : ∀ (d i b : Nat), m - i = d → i ≤ m → b < m → b ≤ i → (∀ j : Int, 0 ≤ j → j < (i : Int) → rd L j ≤ rd L (b : Int) ∧ (rd L j = rd L (b : Int) → (b : Int) ≤ j)) → ∃ q : Nat, (∀ k, d < k → spec_LastLit.l0 k (m : Int) L (b : Int) (i : Int) = some ((q : Int), rd L (q : Int), 0)) ∧ (∀ k, d < k → impl_LastLit.l0 k (b : Int) L L (L.length : Int) (i : Int) = some ((q : Int), rd L (q : Int), 0)) ∧ ∀ j : Int, 0 ≤ j → j < (m : Int) → rd L j ≤ rd L (q : Int) ∧ (rd L j = rd L (q : Int) → (q : Int) ≤ j) := by
 intro d
 induction d with
 | zero =>
  intro i b hd hi hb hbi hj
  refine ⟨b, fun k hk => ?_, fun k hk => ?_, fun j h1 h2 => hj j h1 (by omega)⟩
  ·obtain ⟨k, rfl⟩ : ∃ m, k = m + 1 := ⟨k - 1, by omega⟩
   unfold spec_LastLit.l0
   rw [if_neg (by omega), if_pos (by omega), if_pos (by omega)]
  ·obtain ⟨k, rfl⟩ : ∃ m, k = m + 1 := ⟨k - 1, by omega⟩
   unfold impl_LastLit.l0
   rw [if_neg (by omega), if_pos (by omega), if_pos (by omega)]
 | succ d ih =>
  intro i b hd hi hb hbi hj
  by_cases c : rd L (i : Int) > rd L (b : Int)
  ·obtain ⟨q, e1, e2, e3⟩ := ih (i + 1) i (by omega) (by omega) (by omega) (by omega) (fun j h1 h2 => by
    by_cases e : j = (i : Int)
    ·subst e; exact ⟨Int.le_refl _, fun _ => Int.le_refl _⟩
    ·have := hj j h1 (by omega)
     exact ⟨by omega, fun x => by omega⟩)
   refine ⟨q, fun k hk => ?_, fun k hk => ?_, e3⟩
   ·obtain ⟨k, rfl⟩ : ∃ m, k = m + 1 := ⟨k - 1, by omega⟩
    unfold spec_LastLit.l0
    rw [if_pos (by omega), if_pos (by omega), if_pos (by omega), if_pos (by omega), if_pos (by omega), if_pos c, w64 (n := (i : Int) + 1) (by omega)]
    exact e1 k (by omega)
   ·obtain ⟨k, rfl⟩ : ∃ m, k = m + 1 := ⟨k - 1, by omega⟩
    unfold impl_LastLit.l0
    rw [if_pos (by omega), if_pos (by omega), if_pos (by omega), if_pos (by omega), if_pos (by omega), if_pos c, w64 (n := (i : Int) + 1) (by omega)]
    exact e2 k (by omega)
  ·obtain ⟨q, e1, e2, e3⟩ := ih (i + 1) b (by omega) (by omega) hb (by omega) (fun j h1 h2 => by
    by_cases e : j = (i : Int)
    ·subst e
     exact ⟨by omega, fun x => by omega⟩
    ·exact hj j h1 (by omega))
   refine ⟨q, fun k hk => ?_, fun k hk => ?_, e3⟩
   ·obtain ⟨k, rfl⟩ : ∃ m, k = m + 1 := ⟨k - 1, by omega⟩
    unfold spec_LastLit.l0
    rw [if_pos (by omega), if_pos (by omega), if_pos (by omega), if_pos (by omega), if_pos (by omega), if_neg c, w64 (n := (i : Int) + 1) (by omega)]
    exact e1 k (by omega)
   ·obtain ⟨k, rfl⟩ : ∃ m, k = m + 1 := ⟨k - 1, by omega⟩
    unfold impl_LastLit.l0
    rw [if_pos (by omega), if_pos (by omega), if_pos (by omega), if_pos (by omega), if_pos (by omega), if_neg c, w64 (n := (i : Int) + 1) (by omega)]
    exact e2 k (by omega)
theorem before_ok {m : Nat} {xs : List S39} (h : areFuses (m : Int) xs = true) (m1 : 1 ≤ m) (m2 : m ≤ 10) (hx : xs.length ≤ 20) {E L : List Int} (hE : E.length = m) (hL : L.length = m) {K K' : Nat} (hs : ∀ k, K ≤ k → spec_l10Times.f k (m : Int) xs = some (E, L)) (ht : ∀ k, K' ≤ k → impl_litTimes.f k (m : Int) xs = some (E, L)) (a b : Int) :
  ∃ s c, (∀ k, K + 60 ≤ k → spec_SurelyLitBefore.f k (m : Int) xs a b = some (s, c)) ∧ (∀ k, K' + 60 ≤ k → impl_SurelyLitBefore.f k (m : Int) xs a b = some (s, c)) ∧ (c = 0 → cdo E m a = 0 ∧ cdo E m b = 0 ∧ s = decide (rd L a < rd E b)) := by
 have sc := fun a k hk => spec_code h m1 m2 hx hE hs a k hk
 have ic := fun k hk => impl_code2 h m1 m2 hx hE ht a b k hk
 by_cases both : cdo E m a = 0 ∧ cdo E m b = 0
 ·have ha := cdo_in both.1
  have hb := cdo_in both.2
  refine ⟨decide (rd L a < rd E b), 0, fun k hk => ?_, fun k hk => ?_, fun _ => ⟨both.1, both.2, rfl⟩⟩
  ·obtain ⟨k, rfl⟩ : ∃ m, k = m + 1 := ⟨k - 1, by omega⟩
   unfold spec_SurelyLitBefore.f
   rw [sc a (k + 1) (by omega), sc b (k + 1) (by omega), both.1, both.2]
   simp only [Option.bind_some, if_true, spec_SurelyLitBefore.j0]
   rw [hs k (by omega)]
   simp only [Option.bind_some]
   rw [if_pos (by omega), if_pos (by omega), if_pos (by omega), if_pos (by omega)]
  ·unfold impl_SurelyLitBefore.f
   have e0 : (if cdo E m a = 2 then 2 else if cdo E m b = 2 then 2 else if cdo E m a = 4 then 4 else cdo E m b) = 0 := by rw [both.1, both.2]; rfl
   rw [ic k (by omega), e0]
   simp only [Option.bind_some]
   rw [if_pos trivial, ht k (by omega)]
   simp only [Option.bind_some]
   rw [if_pos (by omega), if_pos (by omega), if_pos (by omega), if_pos (by omega)]
 ·have pick : ∀ {x y : Int}, (x = 0 ∨ x = 2 ∨ x = 4) → (y = 0 ∨ y = 2 ∨ y = 4) → ¬ (x = 0 ∧ y = 0) → ∃ c : Int, c ≠ 0 ∧ (if x = 2 then 2 else if y = 2 then 2 else if x = 4 then 4 else y) = c ∧ ∀ k, spec_SurelyLitBefore.j0 (k + 1) (m : Int) xs a b x y (if x = 0 then true else (y == 2)) = some (false, c) := by
   intro x y hx hy hb
   rcases hx with rfl | rfl | rfl <;> rcases hy with rfl | rfl | rfl
   ·exact absurd ⟨rfl, rfl⟩ hb
   ·exact ⟨2, by omega, rfl, fun k => rfl⟩
   ·exact ⟨4, by omega, rfl, fun k => rfl⟩
   ·exact ⟨2, by omega, rfl, fun k => rfl⟩
   ·exact ⟨2, by omega, rfl, fun k => rfl⟩
   ·exact ⟨2, by omega, rfl, fun k => rfl⟩
   ·exact ⟨4, by omega, rfl, fun k => rfl⟩
   ·exact ⟨2, by omega, rfl, fun k => rfl⟩
   ·exact ⟨4, by omega, rfl, fun k => rfl⟩
  obtain ⟨c, c0, c1, c2⟩ := pick (cdo_cases E m a) (cdo_cases E m b) both
  refine ⟨false, c, fun k hk => ?_, fun k hk => ?_, fun x => absurd x c0⟩
  ·obtain ⟨k, rfl⟩ : ∃ m, k = m + 1 := ⟨k - 1, by omega⟩
   unfold spec_SurelyLitBefore.f
   rw [sc a (k + 1) (by omega), sc b (k + 1) (by omega)]
   simp only [Option.bind_some]
   have e := c2 k
   by_cases z : cdo E m a = 0
   ·rw [if_pos z] at e ⊢; exact e
   ·rw [if_neg z] at e ⊢; exact e
  ·unfold impl_SurelyLitBefore.f
   rw [ic k (by omega), c1]
   simp only [Option.bind_some]
   rw [if_neg c0]
theorem without_ok {n : Int} {xs : List S39} (h : areFuses n xs = true) (hx : xs.length ≤ 20) (a : Int) : ∃ w c, (∀ k, 60 ≤ k → spec_WithoutFuse.f k n xs a = some (w, c)) ∧ (∀ k, 60 ≤ k → impl_WithoutFuse.f k n xs a = some (w, c)) ∧ w.length ≤ 20 ∧ (c = 0 → 1 ≤ xs.length ∧ w.length = xs.length - 1 ∧ areFuses n w = true) := by
 cases g : inB a 0 (wrap64 ((xs.length : Int) - 1)) with
 | false =>
  refine ⟨[], 2, fun k hk => ?_, fun k hk => ?_, by simp, fun x => absurd x (by decide)⟩
  ·unfold spec_WithoutFuse.f
   rw [spec_fuses n xs (by omega) k (by omega), h, In_eq, g]; rfl
  ·unfold impl_WithoutFuse.f
   rw [impl_fuses n xs (by omega) k (by omega), h, index_eq, g]; rfl
 | true =>
  have g2 := g
  rw [w64 (n := (xs.length : Int) - 1) (by omega), inB_true] at g2
  obtain ⟨i, rfl⟩ : ∃ i : Nat, a = i := ⟨a.toNat, by omega⟩
  have hl := without_len xs i (by omega)
  refine ⟨without xs i, 0, fun k hk => ?_, fun k hk => ?_, by omega, fun _ => ⟨by omega, hl, areFuses_without h i (by omega)⟩⟩
  ·unfold spec_WithoutFuse.f
   rw [spec_fuses n xs (by omega) k (by omega), h, In_eq, g, spec_without xs i (by omega) (by omega)]; rfl
  ·unfold impl_WithoutFuse.f
   rw [impl_fuses n xs (by omega) k (by omega), h, index_eq, g, impl_without xs i (by omega) (by omega)]; rfl
theorem law_loop {m : Nat} {xs : List S39} (h : areFuses (m : Int) xs = true) (m1 : 1 ≤ m) (m2 : m ≤ 10) (hx : xs.length ≤ 20) {E L : List Int} (hE : E.length = m) (hL : L.length = m) {K' : Nat} (ht : ∀ k, K' ≤ k → impl_litTimes.f k (m : Int) xs = some (E, L)) (d : List Int) (hd : d.length ≤ 10) (hd2 : ∀ j : Int, j ∈ d ↔ (0 ≤ j ∧ j < (m : Int) ∧ rd E j < 0)) (q : Nat) (hq : ∀ j : Int, 0 ≤ j → j < (m : Int) → rd L j ≤ rd L (q : Int) ∧ (rd L j = rd L (q : Int) → (q : Int) ≤ j)) :
  ∀ (n i : Nat), m - i = n → i ≤ m → ∀ k, K' + 2 * n + 60 ≤ k → laws_FnDarkNodes.l0 k (m : Int) xs d 0 (q : Int) (rd L (q : Int)) (i : Int) = some true := by
 intro n
 induction n with
 | zero =>
  intro i hn hi k hk
  obtain ⟨k, rfl⟩ : ∃ m, k = m + 2 := ⟨k - 2, by omega⟩
  simp only [laws_FnDarkNodes.l0, if_true]
  rw [decide_eq_false (by omega)]
  simp only [laws_FnDarkNodes.j4, Bool.false_eq_true, if_false]
 | succ n ih =>
  intro i hn hi k hk
  obtain ⟨k, rfl⟩ : ∃ m, k = m + 2 := ⟨k - 2, by omega⟩
  have nx := ih (i + 1) (by omega) (by omega) k (by omega)
  have hc := cdo_at (E := E) (m := m) (a := (i : Int)) (by omega)
  simp only [laws_FnDarkNodes.l0, if_true]
  rw [decide_eq_true (by omega)]
  simp only [laws_FnDarkNodes.j4, if_true]
  rw [impl_between h m1 m2 hx hE hL ht (i : Int) k (by omega)]
  simp only [Option.bind_some]
  rw [has_int d (by omega) _ k (by omega), hc]
  simp only [Option.bind_some]
  rw [w64 (n := (i : Int) + 1) (by omega)]
  have g := hq (i : Int) (by omega) (by omega)
  by_cases c : rd E (i : Int) < 0
  ·have e : decide ((i : Int) ∈ d) = true := decide_eq_true ((hd2 _).2 ⟨by omega, by omega, c⟩)
   rw [if_pos c, e]
   rw [if_neg (show ¬ (4 : Int) = 0 by decide)]
   have z : (true != ((4 : Int) == 4)) = false := rfl
   simp only [z, Bool.false_eq_true, if_false]
   rw [if_neg (show ¬ (4 : Int) = 0 by decide)]
   exact nx
  ·have e : decide ((i : Int) ∈ d) = false := decide_eq_false (fun x => c ((hd2 _).1 x).2.2)
   rw [if_neg c, e]
   have z : (false != ((0 : Int) == 4)) = false := rfl
   simp only [if_true, z, Bool.false_eq_true, if_false]
   rw [if_neg (by omega)]
   by_cases e2 : rd L (i : Int) = rd L (q : Int)
   ·have := g.2 e2
    rw [if_pos e2, if_neg (by omega)]
    exact nx
   ·rw [if_neg e2]
    exact nx
theorem pure_FnDarkNodes : laws_FnDarkNodes.Pure := by
 intro c _ _ hb
 by_cases big : (c.length : Int) > 4096
 ·refine ⟨0, ?_⟩
  unfold laws_FnDarkNodes.f laws_big.f
  simp only [Option.bind_some, decide_eq_true big, if_true]
 have hc : Code c := code_of big hb
 obtain ⟨z, e0, h0⟩ := from_ok hc
 obtain ⟨n, xs, a1, s1, e1, h1, lx, n0, n1⟩ := fuse_draw hc h0
 have d1 : ∀ k, 100 ≤ k → spec_DrawDarkNodes.f k c = some (n, xs) := fun k hk => by
  unfold spec_DrawDarkNodes.f
  simp only [e0 k (by omega), e1 k (by omega), Option.bind_some]
 obtain ⟨a, b, d2⟩ : ∃ a b, ∀ k, 100 ≤ k → spec_DrawSurelyLitBefore.f k c = some (n, xs, a, b) := by
  obtain ⟨r2, a2, s2, e2, h2, b1, b2⟩ := next_ok hc h1 (n + 1) (by omega)
  obtain ⟨r3, a3, s3, e3, h3, b3, b4⟩ := next_ok hc h2 12 (by omega)
  have t0 : Int.tdiv r3 11 = r3 / 11 := Int.tdiv_eq_ediv_of_nonneg b3
  obtain ⟨r4, a4, s4, e4, h4, _⟩ := next_ok hc h3 (n + r3 / 11) (by omega)
  refine ⟨r2, r4, fun k hk => ?_⟩
  unfold spec_DrawSurelyLitBefore.f
  rw [e0 k (by omega), Option.bind_some]
  dsimp only
  rw [e1 k (by omega), Option.bind_some]
  dsimp only
  rw [w64 (n := n + 1) (by omega), e2, Option.bind_some]
  dsimp only
  rw [e3, Option.bind_some]
  dsimp only
  rw [t0, w64 (n := r3 / 11) (by omega), w64 (n := n + r3 / 11) (by omega), e4, Option.bind_some]
 obtain ⟨q, d3⟩ : ∃ q, ∀ k, 100 ≤ k → spec_DrawWithoutFuse.f k c = some (n, xs, q) := by
  obtain ⟨r2, a2, s2, e2, h2, b1, b2⟩ := next_ok hc h1 ((xs.length : Int) + 1) (by omega)
  obtain ⟨r3, a3, s3, e3, h3, b3, b4⟩ := next_ok hc h2 24 (by omega)
  refine ⟨wrap64 (r2 - wrap64 (Int.tdiv r3 23)), fun k hk => ?_⟩
  unfold spec_DrawWithoutFuse.f
  rw [e0 k (by omega), Option.bind_some]
  dsimp only
  rw [e1 k (by omega), Option.bind_some]
  dsimp only
  rw [w64 (n := (xs.length : Int) + 1) (by omega), e2, Option.bind_some]
  dsimp only
  rw [e3, Option.bind_some]
 cases h : areFuses n xs with
 | false =>
  obtain ⟨k, hk⟩ : ∃ k, k = 200000 := ⟨_, rfl⟩
  refine ⟨k + 8, ?_⟩
  unfold laws_FnDarkNodes.f laws_big.f
  simp only [Option.bind_some, decide_eq_false big, Bool.false_eq_true, if_false, d1 (k + 8) (by omega), d2 (k + 8) (by omega), d3 (k + 8) (by omega)]
  unfold impl_DarkNodes.f spec_DarkNodes.f impl_LastLit.f spec_LastLit.f impl_SurelyLitBefore.f spec_SurelyLitBefore.f impl_WithoutFuse.f spec_WithoutFuse.f impl_nodeAsked.f spec_l10Code.f
  rw [spec_fuses n xs (by omega) (k + 8) (by omega), impl_fuses n xs (by omega) (k + 8) (by omega), h]
  simp only [Option.bind_some, Bool.false_eq_true, if_false, if_true, Bool.not_false]
  have z1 : ¬ (1 : Int) = 0 := by decide
  have z2 : ((1 : Int) == 2) = false := rfl
  have z3 : ((1 : Int) != 1) = false := rfl
  have z4 : (false != false) = false := rfl
  have sj : spec_SurelyLitBefore.j0 (k + 8) n xs a b 1 1 false = some (false, 1) := rfl
  simp only [if_neg z1, z2, sj, Option.bind_some, if_true, like_ints [] (by simp) (k + 8) (by simp), like_fuses [] (by simp) (k + 8) (by simp), z3, z4, Bool.false_eq_true, if_false]
  rfl
 | true =>
  obtain ⟨m, E, L, rfl, m1, m2, hx, hE, hL, h00, ⟨K, hs⟩, ⟨K', ht⟩⟩ := times_is h
  obtain ⟨dk, dl, dk1, dk2, dk3⟩ := dark_go m E hE m2 m 0 [] (by omega) (by omega) (by simp)
  obtain ⟨lq, lq1, lq2, lq3⟩ := last_go m L hL m2 m 0 0 (by omega) (by omega) (by omega) (by omega) (fun j x y => absurd y (by omega))
  obtain ⟨s, sc, sb1, sb2, sb3⟩ := before_ok h m1 m2 hx hE hL hs ht a b
  obtain ⟨w, wc, w1, w2, w3, w4⟩ := without_ok h hx q
  obtain ⟨k, hk⟩ : ∃ k, k = K + K' + 1000 := ⟨_, rfl⟩
  refine ⟨k + 4, ?_⟩
  have i1 : impl_DarkNodes.f (k + 4) (m : Int) xs = some (dk, 0) := by
   unfold impl_DarkNodes.f
   rw [impl_fuses _ xs (by omega) (k + 4) (by omega), h]
   simp only [Option.bind_some, if_true]
   rw [ht (k + 4) (by omega)]
   exact dk2 (k + 4) (by omega)
  have s1 : spec_DarkNodes.f (k + 4) (m : Int) xs = some (dk, 0) := by
   unfold spec_DarkNodes.f
   rw [spec_code h m1 m2 hx hE hs 0 (k + 4) (by omega), cdo_0 m1 h00]
   simp only [Option.bind_some, if_true]
   rw [hs (k + 4) (by omega)]
   exact dk1 (k + 4) (by omega)
  have i2 : impl_LastLit.f (k + 4) (m : Int) xs = some ((lq : Int), rd L (lq : Int), 0) := by
   unfold impl_LastLit.f
   rw [impl_fuses _ xs (by omega) (k + 4) (by omega), h]
   simp only [Option.bind_some, if_true]
   rw [ht (k + 4) (by omega)]
   exact lq2 (k + 4) (by omega)
  have s2 : spec_LastLit.f (k + 4) (m : Int) xs = some ((lq : Int), rd L (lq : Int), 0) := by
   unfold spec_LastLit.f
   rw [spec_code h m1 m2 hx hE hs 0 (k + 4) (by omega), cdo_0 m1 h00]
   simp only [Option.bind_some, if_true]
   rw [hs (k + 4) (by omega)]
   exact lq1 (k + 4) (by omega)
  have nn : (s != s) = false := by simp
  have n00 : ((0 : Int) != 0) = false := rfl
  unfold laws_FnDarkNodes.f laws_big.f
  simp only [Option.bind_some, decide_eq_false big, Bool.false_eq_true, if_false, d1 (k + 4) (by omega), d2 (k + 4) (by omega), d3 (k + 4) (by omega), i1, s1, i2, s2, sb1 (k + 4) (by omega), sb2 (k + 4) (by omega), w1 (k + 4) (by omega), w2 (k + 4) (by omega), if_true, nn, n00, like_ints dk (by omega) (k + 4) (by omega), like_fuses w (by omega) (k + 4) (by omega)]
  have fin : laws_FnDarkNodes.j2 (k + 2) (m : Int) xs dk 0 (lq : Int) (rd L (lq : Int)) = some true := by
   simp only [laws_FnDarkNodes.j2]
   exact law_loop h m1 m2 hx hE hL ht dk dl (fun j => by rw [dk3 j]; simp) lq lq3 m 0 (by omega) (by omega) (k + 1) (by omega)
  have mid : laws_FnDarkNodes.j1 (k + 3) (m : Int) xs dk 0 (lq : Int) (rd L (lq : Int)) (m : Int) xs a b s sc false = some true := by
   simp only [laws_FnDarkNodes.j1, Bool.false_eq_true, if_false]
   by_cases c0 : sc = 0
   ·obtain ⟨g1, g2, g3⟩ := sb3 c0
    rw [if_pos c0, impl_between h m1 m2 hx hE hL ht a (k + 2) (by omega), impl_between h m1 m2 hx hE hL ht b (k + 2) (by omega), if_pos g1, if_pos g2]
    have nz : (s != decide (rd L a < rd E b)) = false := by rw [g3]; simp
    simp only [Option.bind_some, if_true, nz, Bool.false_eq_true, if_false]
    exact fin
   ·rw [if_neg c0]
    exact fin
  simp only [laws_FnDarkNodes.j0, Bool.false_eq_true, if_false]
  by_cases c0 : wc = 0
  ·obtain ⟨g1, g2, g3⟩ := w4 c0
   rw [if_pos c0, w64 (n := (xs.length : Int) - 1) (by omega), if_pos (by omega), impl_fuses _ w (by omega) (k + 3) (by omega), g3]
   exact mid
  ·rw [if_neg c0]
   exact mid
end Go.Proofs.Ytlnfjhahnacmiaa.F
namespace Go.Proofs.Ytlnfjhahnacmiaa.Pure
theorem FnDarkNodes : Go.Proofs.Ytlnfjhahnacmiaa.F.laws_FnDarkNodes.Pure := Go.Proofs.Ytlnfjhahnacmiaa.F.pure_FnDarkNodes
end Go.Proofs.Ytlnfjhahnacmiaa.Pure
namespace Go.Proofs.Ytlnfjhahnacmiaa.F
end Go.Proofs.Ytlnfjhahnacmiaa.F
