import Derived.Test.YtnlbaflbhicooaaJFnExactUnsurePairs5
import Derived.Below
import Derived.Deep.Draws
import Derived.Deep.AppendLies
import Derived.Maps.AppendAt
import Derived.OwnWalk
import Derived.Laws.BytesArg
import Derived.Laws.MakeOwn
import Derived.Laws.OwnMore
import Derived.Tactics
import Derived.Lib.ConvBytes
import Derived.Laws.Slices
import Derived.WalkKit
import Derived.KernelRfl
import Derived.RowKit3
import Derived.Deep.LoopGhost
import Derived.Deep.QuietTactic
import Derived.BigQuiet
import Derived.WideLaws
import Derived.Deep.DeepCutAuto
import Derived.Deep.CutBlock
import Derived.Deep.RegionHeld3
import Derived.Lib.AppendStr
import Derived.ArgAppend
import Derived.Laws.IdiomCopy
import Derived.RowKit
import Derived.OrdersHeld
import Derived.Laws.BitsLemmas
import Derived.Laws.StructEq
import Derived.Test.YtnlbaflbhicooaaProg
import Derived.ChangeSlices
import Derived.OpenShut
import Derived.Laws.Cover1
namespace Go.Proofs.Ytnlbaflbhicooaa.F
open Go.RowKit Go.Proofs.YtnlbaflbhicooaaW.PrintWords Go.Proofs.YtnlbaflbhicooaaW.PrintLast Go.Proofs.YtnlbaflbhicooaaW.PrintMore
attribute [local go_sem] max2_int min2_int max_two min_two max_three min_three max_four min_four
set_option linter.unusedVariables false
set_option linter.unusedSimpArgs false
def impl_IsArticle.f (k : Nat) (a0_0 : ByteArray) (a0_1 : Int) (a0_2 : Int) (a0_3 : Int) (a0_4 : Int) (a0_5 : Int) (a0_6 : Int) (a0_7 : Int) (a0_8 : Int) : Option (Bool) := (impl_IsWord.f k a0_0).bind fun t291 => (if t291 = true then ((impl_within.f a0_1 0 3).bind fun t292 => (if t292 = true then ((impl_within.f a0_2 20 300).bind fun t293 => (if t293 = true then ((impl_within.f a0_3 0 10000).bind fun t294 => (if t294 = true then ((impl_within.f a0_4 0 a0_3).bind fun t295 => (if t295 = true then ((impl_within.f a0_5 1 50).bind fun t296 => (if t296 = true then ((impl_within.f a0_6 0 10000).bind fun t297 => (if t297 = true then ((impl_within.f a0_7 1 100000).bind fun t298 => (if t298 = true then ((impl_within.f a0_8 0 3).bind fun t299 => (some t299)) else (some false))) else (some false))) else (some false))) else (some false))) else (some false))) else (some false))) else (some false))) else (some false))
set_option maxHeartbeats 8000000 in
set_option maxRecDepth 100000 in
theorem impl_IsArticle.calls (k : Nat) (a0_0 : ByteArray) (a0_1 : Int) (a0_2 : Int) (a0_3 : Int) (a0_4 : Int) (a0_5 : Int) (a0_6 : Int) (a0_7 : Int) (a0_8 : Int) (r : Bool) (w : World) (h : impl_IsArticle.f k a0_0 a0_1 a0_2 a0_3 a0_4 a0_5 a0_6 a0_7 a0_8 = some r) :
  Calls Try.prog 129 #[.agg #[.string a0_0, .int .i64 a0_1, .int .i64 a0_2, .int .i64 a0_3, .int .i64 a0_4, .int .i64 a0_5, .int .i64 a0_6, .int .i64 a0_7, .int .i64 a0_8]] w fun e w' => e = .returned (.bool r) ∧ Below w.heap.size w w' := by
 have hu92 := Try.underlying92
 have HB := Aside0.mk (Below.refl w.heap.size w)
 have H : ((impl_IsWord.f k a0_0).bind fun t291 => (if t291 = true then ((impl_within.f a0_1 0 3).bind fun t292 => (if t292 = true then ((impl_within.f a0_2 20 300).bind fun t293 => (if t293 = true then ((impl_within.f a0_3 0 10000).bind fun t294 => (if t294 = true then ((impl_within.f a0_4 0 a0_3).bind fun t295 => (if t295 = true then ((impl_within.f a0_5 1 50).bind fun t296 => (if t296 = true then ((impl_within.f a0_6 0 10000).bind fun t297 => (if t297 = true then ((impl_within.f a0_7 1 100000).bind fun t298 => (if t298 = true then ((impl_within.f a0_8 0 3).bind fun t299 => (some t299)) else (some false))) else (some false))) else (some false))) else (some false))) else (some false))) else (some false))) else (some false))) else (some false))) = some r := h
 clear h
 replace H := Option.bind_eq_some_iff.mp H
 obtain ⟨t291, A20, H⟩ := H
 have A2 := Aside0.mk A20
 clear A20
 by_cases c3 : t291 = true
 ·subst c3
  have H1 : ((impl_within.f a0_1 0 3).bind fun t292 => (if t292 = true then ((impl_within.f a0_2 20 300).bind fun t293 => (if t293 = true then ((impl_within.f a0_3 0 10000).bind fun t294 => (if t294 = true then ((impl_within.f a0_4 0 a0_3).bind fun t295 => (if t295 = true then ((impl_within.f a0_5 1 50).bind fun t296 => (if t296 = true then ((impl_within.f a0_6 0 10000).bind fun t297 => (if t297 = true then ((impl_within.f a0_7 1 100000).bind fun t298 => (if t298 = true then ((impl_within.f a0_8 0 3).bind fun t299 => (some t299)) else (some false))) else (some false))) else (some false))) else (some false))) else (some false))) else (some false))) else (some false))) = some r := by rw [if_pos rfl] at H; exact H
  clear H
  have H := H1
  clear H1
  replace H := Option.bind_eq_some_iff.mp H
  obtain ⟨t292, A40, H⟩ := H
  have A4 := Aside0.mk A40
  clear A40
  by_cases c5 : t292 = true
  ·subst c5
   have H1 : ((impl_within.f a0_2 20 300).bind fun t293 => (if t293 = true then ((impl_within.f a0_3 0 10000).bind fun t294 => (if t294 = true then ((impl_within.f a0_4 0 a0_3).bind fun t295 => (if t295 = true then ((impl_within.f a0_5 1 50).bind fun t296 => (if t296 = true then ((impl_within.f a0_6 0 10000).bind fun t297 => (if t297 = true then ((impl_within.f a0_7 1 100000).bind fun t298 => (if t298 = true then ((impl_within.f a0_8 0 3).bind fun t299 => (some t299)) else (some false))) else (some false))) else (some false))) else (some false))) else (some false))) else (some false))) = some r := by rw [if_pos rfl] at H; exact H
   clear H
   have H := H1
   clear H1
   replace H := Option.bind_eq_some_iff.mp H
   obtain ⟨t293, A60, H⟩ := H
   have A6 := Aside0.mk A60
   clear A60
   by_cases c7 : t293 = true
   ·subst c7
    have H1 : ((impl_within.f a0_3 0 10000).bind fun t294 => (if t294 = true then ((impl_within.f a0_4 0 a0_3).bind fun t295 => (if t295 = true then ((impl_within.f a0_5 1 50).bind fun t296 => (if t296 = true then ((impl_within.f a0_6 0 10000).bind fun t297 => (if t297 = true then ((impl_within.f a0_7 1 100000).bind fun t298 => (if t298 = true then ((impl_within.f a0_8 0 3).bind fun t299 => (some t299)) else (some false))) else (some false))) else (some false))) else (some false))) else (some false))) = some r := by rw [if_pos rfl] at H; exact H
    clear H
    have H := H1
    clear H1
    replace H := Option.bind_eq_some_iff.mp H
    obtain ⟨t294, A80, H⟩ := H
    have A8 := Aside0.mk A80
    clear A80
    by_cases c9 : t294 = true
    ·subst c9
     have H1 : ((impl_within.f a0_4 0 a0_3).bind fun t295 => (if t295 = true then ((impl_within.f a0_5 1 50).bind fun t296 => (if t296 = true then ((impl_within.f a0_6 0 10000).bind fun t297 => (if t297 = true then ((impl_within.f a0_7 1 100000).bind fun t298 => (if t298 = true then ((impl_within.f a0_8 0 3).bind fun t299 => (some t299)) else (some false))) else (some false))) else (some false))) else (some false))) = some r := by rw [if_pos rfl] at H; exact H
     clear H
     have H := H1
     clear H1
     replace H := Option.bind_eq_some_iff.mp H
     obtain ⟨t295, A100, H⟩ := H
     have A10 := Aside0.mk A100
     clear A100
     by_cases c11 : t295 = true
     ·subst c11
      have H1 : ((impl_within.f a0_5 1 50).bind fun t296 => (if t296 = true then ((impl_within.f a0_6 0 10000).bind fun t297 => (if t297 = true then ((impl_within.f a0_7 1 100000).bind fun t298 => (if t298 = true then ((impl_within.f a0_8 0 3).bind fun t299 => (some t299)) else (some false))) else (some false))) else (some false))) = some r := by rw [if_pos rfl] at H; exact H
      clear H
      have H := H1
      clear H1
      replace H := Option.bind_eq_some_iff.mp H
      obtain ⟨t296, A120, H⟩ := H
      have A12 := Aside0.mk A120
      clear A120
      by_cases c13 : t296 = true
      ·subst c13
       have H1 : ((impl_within.f a0_6 0 10000).bind fun t297 => (if t297 = true then ((impl_within.f a0_7 1 100000).bind fun t298 => (if t298 = true then ((impl_within.f a0_8 0 3).bind fun t299 => (some t299)) else (some false))) else (some false))) = some r := by rw [if_pos rfl] at H; exact H
       clear H
       have H := H1
       clear H1
       replace H := Option.bind_eq_some_iff.mp H
       obtain ⟨t297, A140, H⟩ := H
       have A14 := Aside0.mk A140
       clear A140
       by_cases c15 : t297 = true
       ·subst c15
        have H1 : ((impl_within.f a0_7 1 100000).bind fun t298 => (if t298 = true then ((impl_within.f a0_8 0 3).bind fun t299 => (some t299)) else (some false))) = some r := by rw [if_pos rfl] at H; exact H
        clear H
        have H := H1
        clear H1
        replace H := Option.bind_eq_some_iff.mp H
        obtain ⟨t298, A160, H⟩ := H
        have A16 := Aside0.mk A160
        clear A160
        by_cases c17 : t298 = true
        ·subst c17
         have H1 : ((impl_within.f a0_8 0 3).bind fun t299 => (some t299)) = some r := by rw [if_pos rfl] at H; exact H
         clear H
         have H := H1
         clear H1
         replace H := Option.bind_eq_some_iff.mp H
         obtain ⟨t299, A180, H⟩ := H
         have A18 := Aside0.mk A180
         clear A180
         obtain rfl := Option.some.inj H
         go_enter Try.func129, Try.ntmps129
         go_wp2_with (first | ((with_reducible refine gate_dst (N := 1) rfl ?_); refine boxZ 1 #[.string a0_0, .int .i64 a0_1, .int .i64 a0_2, .int .i64 a0_3, .int .i64 a0_4, .int .i64 a0_5, .int .i64 a0_6, .int .i64 a0_7, .int .i64 a0_8] 92 ?_; intro gb290 hg w19 hbox hb; have n0_ := Aside0.mk (below_step Zc hb); have n1_ := Aside0.mk (hbox); have n2_ := Aside0.mk ((Zd : w.heap.size ≤ gb290)); have n3_ := Aside0.mk ((Zd : w.heap.size ≤ gb290)); clear HB; have HB := n0_; have BK290 := n1_; have GW290 := n2_; have GE290 := n3_; clear n0_ n1_ n2_ n3_; clear hb hbox hg; obtain ⟨hcz20_0, hcz20_1, hcz20_2, hcz20_3, hcz20_4, hcz20_5, hcz20_6, hcz20_7, hcz20_8, hfz20_0, hfz20_1, hfz20_2, hfz20_3, hfz20_4, hfz20_5, hfz20_6, hfz20_7, hfz20_8⟩ := cz9 BK290) | ((with_reducible refine gate_callee (f := 135) rfl ?_); refine goesL_ (some 5) rfl rfl Try.func135 Zj rfl #[.string a0_0] rfl Zo ?_; (with_reducible refine (impl_IsWord.calls k a0_0 true _ A2.out).mono ?_); rintro e w' ⟨rfl, ⟨nd, rfl⟩⟩; refine ⟨_, rfl, ?_⟩) | (go_at_call 89; (with_reducible refine (impl_within.calls a0_1 0 3 true _ A4.out).mono ?_); rintro e w' ⟨rfl, ⟨nd, rfl⟩⟩) | (go_at_call 89; (with_reducible refine (impl_within.calls a0_2 20 300 true _ A6.out).mono ?_); rintro e w' ⟨rfl, ⟨nd, rfl⟩⟩) | (go_at_call 89; (with_reducible refine (impl_within.calls a0_3 0 10000 true _ A8.out).mono ?_); rintro e w' ⟨rfl, ⟨nd, rfl⟩⟩) | (go_at_call 89; (with_reducible refine (impl_within.calls a0_4 0 a0_3 true _ A10.out).mono ?_); rintro e w' ⟨rfl, ⟨nd, rfl⟩⟩) | (go_at_call 89; (with_reducible refine (impl_within.calls a0_5 1 50 true _ A12.out).mono ?_); rintro e w' ⟨rfl, ⟨nd, rfl⟩⟩) | (go_at_call 89; (with_reducible refine (impl_within.calls a0_6 0 10000 true _ A14.out).mono ?_); rintro e w' ⟨rfl, ⟨nd, rfl⟩⟩) | (go_at_call 89; (with_reducible refine (impl_within.calls a0_7 1 100000 true _ A16.out).mono ?_); rintro e w' ⟨rfl, ⟨nd, rfl⟩⟩) | (go_at_call 89; (with_reducible refine (impl_within.calls a0_8 0 3 t299 _ A18.out).mono ?_); rintro e w' ⟨rfl, ⟨nd, rfl⟩⟩))
         go_ret
         exact ⟨Zk, (have z0_ := GE290; Zf)⟩
        ·replace c17 := Bool.eq_false_iff.mpr c17
         subst c17
         have H1 : (some false) = some r := by rw [if_neg (show ¬ (false = true) by decide)] at H; exact H
         clear H
         have H := H1
         clear H1
         obtain rfl := Option.some.inj H
         go_enter Try.func129, Try.ntmps129
         go_wp2_with (first | ((with_reducible refine gate_dst (N := 1) rfl ?_); refine boxZ 1 #[.string a0_0, .int .i64 a0_1, .int .i64 a0_2, .int .i64 a0_3, .int .i64 a0_4, .int .i64 a0_5, .int .i64 a0_6, .int .i64 a0_7, .int .i64 a0_8] 92 ?_; intro gb290 hg w21 hbox hb; have n0_ := Aside0.mk (below_step Zc hb); have n1_ := Aside0.mk (hbox); have n2_ := Aside0.mk ((Zd : w.heap.size ≤ gb290)); have n3_ := Aside0.mk ((Zd : w.heap.size ≤ gb290)); clear HB; have HB := n0_; have BK290 := n1_; have GW290 := n2_; have GE290 := n3_; clear n0_ n1_ n2_ n3_; clear hb hbox hg; obtain ⟨hcz22_0, hcz22_1, hcz22_2, hcz22_3, hcz22_4, hcz22_5, hcz22_6, hcz22_7, hcz22_8, hfz22_0, hfz22_1, hfz22_2, hfz22_3, hfz22_4, hfz22_5, hfz22_6, hfz22_7, hfz22_8⟩ := cz9 BK290) | ((with_reducible refine gate_callee (f := 135) rfl ?_); refine goesL_ (some 5) rfl rfl Try.func135 Zj rfl #[.string a0_0] rfl Zo ?_; (with_reducible refine (impl_IsWord.calls k a0_0 true _ A2.out).mono ?_); rintro e w' ⟨rfl, ⟨nd, rfl⟩⟩; refine ⟨_, rfl, ?_⟩) | (go_at_call 89; (with_reducible refine (impl_within.calls a0_1 0 3 true _ A4.out).mono ?_); rintro e w' ⟨rfl, ⟨nd, rfl⟩⟩) | (go_at_call 89; (with_reducible refine (impl_within.calls a0_2 20 300 true _ A6.out).mono ?_); rintro e w' ⟨rfl, ⟨nd, rfl⟩⟩) | (go_at_call 89; (with_reducible refine (impl_within.calls a0_3 0 10000 true _ A8.out).mono ?_); rintro e w' ⟨rfl, ⟨nd, rfl⟩⟩) | (go_at_call 89; (with_reducible refine (impl_within.calls a0_4 0 a0_3 true _ A10.out).mono ?_); rintro e w' ⟨rfl, ⟨nd, rfl⟩⟩) | (go_at_call 89; (with_reducible refine (impl_within.calls a0_5 1 50 true _ A12.out).mono ?_); rintro e w' ⟨rfl, ⟨nd, rfl⟩⟩) | (go_at_call 89; (with_reducible refine (impl_within.calls a0_6 0 10000 true _ A14.out).mono ?_); rintro e w' ⟨rfl, ⟨nd, rfl⟩⟩) | (go_at_call 89; (with_reducible refine (impl_within.calls a0_7 1 100000 false _ A16.out).mono ?_); rintro e w' ⟨rfl, ⟨nd, rfl⟩⟩))
         go_ret
         exact ⟨Zk, (have z0_ := GE290; Zf)⟩
       ·replace c15 := Bool.eq_false_iff.mpr c15
        subst c15
        have H1 : (some false) = some r := by rw [if_neg (show ¬ (false = true) by decide)] at H; exact H
        clear H
        have H := H1
        clear H1
        obtain rfl := Option.some.inj H
        go_enter Try.func129, Try.ntmps129
        go_wp2_with (first | ((with_reducible refine gate_dst (N := 1) rfl ?_); refine boxZ 1 #[.string a0_0, .int .i64 a0_1, .int .i64 a0_2, .int .i64 a0_3, .int .i64 a0_4, .int .i64 a0_5, .int .i64 a0_6, .int .i64 a0_7, .int .i64 a0_8] 92 ?_; intro gb290 hg w23 hbox hb; have n0_ := Aside0.mk (below_step Zc hb); have n1_ := Aside0.mk (hbox); have n2_ := Aside0.mk ((Zd : w.heap.size ≤ gb290)); have n3_ := Aside0.mk ((Zd : w.heap.size ≤ gb290)); clear HB; have HB := n0_; have BK290 := n1_; have GW290 := n2_; have GE290 := n3_; clear n0_ n1_ n2_ n3_; clear hb hbox hg; obtain ⟨hcz24_0, hcz24_1, hcz24_2, hcz24_3, hcz24_4, hcz24_5, hcz24_6, hcz24_7, hcz24_8, hfz24_0, hfz24_1, hfz24_2, hfz24_3, hfz24_4, hfz24_5, hfz24_6, hfz24_7, hfz24_8⟩ := cz9 BK290) | ((with_reducible refine gate_callee (f := 135) rfl ?_); refine goesL_ (some 5) rfl rfl Try.func135 Zj rfl #[.string a0_0] rfl Zo ?_; (with_reducible refine (impl_IsWord.calls k a0_0 true _ A2.out).mono ?_); rintro e w' ⟨rfl, ⟨nd, rfl⟩⟩; refine ⟨_, rfl, ?_⟩) | (go_at_call 89; (with_reducible refine (impl_within.calls a0_1 0 3 true _ A4.out).mono ?_); rintro e w' ⟨rfl, ⟨nd, rfl⟩⟩) | (go_at_call 89; (with_reducible refine (impl_within.calls a0_2 20 300 true _ A6.out).mono ?_); rintro e w' ⟨rfl, ⟨nd, rfl⟩⟩) | (go_at_call 89; (with_reducible refine (impl_within.calls a0_3 0 10000 true _ A8.out).mono ?_); rintro e w' ⟨rfl, ⟨nd, rfl⟩⟩) | (go_at_call 89; (with_reducible refine (impl_within.calls a0_4 0 a0_3 true _ A10.out).mono ?_); rintro e w' ⟨rfl, ⟨nd, rfl⟩⟩) | (go_at_call 89; (with_reducible refine (impl_within.calls a0_5 1 50 true _ A12.out).mono ?_); rintro e w' ⟨rfl, ⟨nd, rfl⟩⟩) | (go_at_call 89; (with_reducible refine (impl_within.calls a0_6 0 10000 false _ A14.out).mono ?_); rintro e w' ⟨rfl, ⟨nd, rfl⟩⟩))
        go_ret
        exact ⟨Zk, (have z0_ := GE290; Zf)⟩
      ·replace c13 := Bool.eq_false_iff.mpr c13
       subst c13
       have H1 : (some false) = some r := by rw [if_neg (show ¬ (false = true) by decide)] at H; exact H
       clear H
       have H := H1
       clear H1
       obtain rfl := Option.some.inj H
       go_enter Try.func129, Try.ntmps129
       go_wp2_with (first | ((with_reducible refine gate_dst (N := 1) rfl ?_); refine boxZ 1 #[.string a0_0, .int .i64 a0_1, .int .i64 a0_2, .int .i64 a0_3, .int .i64 a0_4, .int .i64 a0_5, .int .i64 a0_6, .int .i64 a0_7, .int .i64 a0_8] 92 ?_; intro gb290 hg w25 hbox hb; have n0_ := Aside0.mk (below_step Zc hb); have n1_ := Aside0.mk (hbox); have n2_ := Aside0.mk ((Zd : w.heap.size ≤ gb290)); have n3_ := Aside0.mk ((Zd : w.heap.size ≤ gb290)); clear HB; have HB := n0_; have BK290 := n1_; have GW290 := n2_; have GE290 := n3_; clear n0_ n1_ n2_ n3_; clear hb hbox hg; obtain ⟨hcz26_0, hcz26_1, hcz26_2, hcz26_3, hcz26_4, hcz26_5, hcz26_6, hcz26_7, hcz26_8, hfz26_0, hfz26_1, hfz26_2, hfz26_3, hfz26_4, hfz26_5, hfz26_6, hfz26_7, hfz26_8⟩ := cz9 BK290) | ((with_reducible refine gate_callee (f := 135) rfl ?_); refine goesL_ (some 5) rfl rfl Try.func135 Zj rfl #[.string a0_0] rfl Zo ?_; (with_reducible refine (impl_IsWord.calls k a0_0 true _ A2.out).mono ?_); rintro e w' ⟨rfl, ⟨nd, rfl⟩⟩; refine ⟨_, rfl, ?_⟩) | (go_at_call 89; (with_reducible refine (impl_within.calls a0_1 0 3 true _ A4.out).mono ?_); rintro e w' ⟨rfl, ⟨nd, rfl⟩⟩) | (go_at_call 89; (with_reducible refine (impl_within.calls a0_2 20 300 true _ A6.out).mono ?_); rintro e w' ⟨rfl, ⟨nd, rfl⟩⟩) | (go_at_call 89; (with_reducible refine (impl_within.calls a0_3 0 10000 true _ A8.out).mono ?_); rintro e w' ⟨rfl, ⟨nd, rfl⟩⟩) | (go_at_call 89; (with_reducible refine (impl_within.calls a0_4 0 a0_3 true _ A10.out).mono ?_); rintro e w' ⟨rfl, ⟨nd, rfl⟩⟩) | (go_at_call 89; (with_reducible refine (impl_within.calls a0_5 1 50 false _ A12.out).mono ?_); rintro e w' ⟨rfl, ⟨nd, rfl⟩⟩))
       go_ret
       exact ⟨Zk, (have z0_ := GE290; Zf)⟩
     ·replace c11 := Bool.eq_false_iff.mpr c11
      subst c11
      have H1 : (some false) = some r := by rw [if_neg (show ¬ (false = true) by decide)] at H; exact H
      clear H
      have H := H1
      clear H1
      obtain rfl := Option.some.inj H
      go_enter Try.func129, Try.ntmps129
      go_wp2_with (first | ((with_reducible refine gate_dst (N := 1) rfl ?_); refine boxZ 1 #[.string a0_0, .int .i64 a0_1, .int .i64 a0_2, .int .i64 a0_3, .int .i64 a0_4, .int .i64 a0_5, .int .i64 a0_6, .int .i64 a0_7, .int .i64 a0_8] 92 ?_; intro gb290 hg w27 hbox hb; have n0_ := Aside0.mk (below_step Zc hb); have n1_ := Aside0.mk (hbox); have n2_ := Aside0.mk ((Zd : w.heap.size ≤ gb290)); have n3_ := Aside0.mk ((Zd : w.heap.size ≤ gb290)); clear HB; have HB := n0_; have BK290 := n1_; have GW290 := n2_; have GE290 := n3_; clear n0_ n1_ n2_ n3_; clear hb hbox hg; obtain ⟨hcz28_0, hcz28_1, hcz28_2, hcz28_3, hcz28_4, hcz28_5, hcz28_6, hcz28_7, hcz28_8, hfz28_0, hfz28_1, hfz28_2, hfz28_3, hfz28_4, hfz28_5, hfz28_6, hfz28_7, hfz28_8⟩ := cz9 BK290) | ((with_reducible refine gate_callee (f := 135) rfl ?_); refine goesL_ (some 5) rfl rfl Try.func135 Zj rfl #[.string a0_0] rfl Zo ?_; (with_reducible refine (impl_IsWord.calls k a0_0 true _ A2.out).mono ?_); rintro e w' ⟨rfl, ⟨nd, rfl⟩⟩; refine ⟨_, rfl, ?_⟩) | (go_at_call 89; (with_reducible refine (impl_within.calls a0_1 0 3 true _ A4.out).mono ?_); rintro e w' ⟨rfl, ⟨nd, rfl⟩⟩) | (go_at_call 89; (with_reducible refine (impl_within.calls a0_2 20 300 true _ A6.out).mono ?_); rintro e w' ⟨rfl, ⟨nd, rfl⟩⟩) | (go_at_call 89; (with_reducible refine (impl_within.calls a0_3 0 10000 true _ A8.out).mono ?_); rintro e w' ⟨rfl, ⟨nd, rfl⟩⟩) | (go_at_call 89; (with_reducible refine (impl_within.calls a0_4 0 a0_3 false _ A10.out).mono ?_); rintro e w' ⟨rfl, ⟨nd, rfl⟩⟩))
      go_ret
      exact ⟨Zk, (have z0_ := GE290; Zf)⟩
    ·replace c9 := Bool.eq_false_iff.mpr c9
     subst c9
     have H1 : (some false) = some r := by rw [if_neg (show ¬ (false = true) by decide)] at H; exact H
     clear H
     have H := H1
     clear H1
     obtain rfl := Option.some.inj H
     go_enter Try.func129, Try.ntmps129
     go_wp2_with (first | ((with_reducible refine gate_dst (N := 1) rfl ?_); refine boxZ 1 #[.string a0_0, .int .i64 a0_1, .int .i64 a0_2, .int .i64 a0_3, .int .i64 a0_4, .int .i64 a0_5, .int .i64 a0_6, .int .i64 a0_7, .int .i64 a0_8] 92 ?_; intro gb290 hg w29 hbox hb; have n0_ := Aside0.mk (below_step Zc hb); have n1_ := Aside0.mk (hbox); have n2_ := Aside0.mk ((Zd : w.heap.size ≤ gb290)); have n3_ := Aside0.mk ((Zd : w.heap.size ≤ gb290)); clear HB; have HB := n0_; have BK290 := n1_; have GW290 := n2_; have GE290 := n3_; clear n0_ n1_ n2_ n3_; clear hb hbox hg; obtain ⟨hcz30_0, hcz30_1, hcz30_2, hcz30_3, hcz30_4, hcz30_5, hcz30_6, hcz30_7, hcz30_8, hfz30_0, hfz30_1, hfz30_2, hfz30_3, hfz30_4, hfz30_5, hfz30_6, hfz30_7, hfz30_8⟩ := cz9 BK290) | ((with_reducible refine gate_callee (f := 135) rfl ?_); refine goesL_ (some 5) rfl rfl Try.func135 Zj rfl #[.string a0_0] rfl Zo ?_; (with_reducible refine (impl_IsWord.calls k a0_0 true _ A2.out).mono ?_); rintro e w' ⟨rfl, ⟨nd, rfl⟩⟩; refine ⟨_, rfl, ?_⟩) | (go_at_call 89; (with_reducible refine (impl_within.calls a0_1 0 3 true _ A4.out).mono ?_); rintro e w' ⟨rfl, ⟨nd, rfl⟩⟩) | (go_at_call 89; (with_reducible refine (impl_within.calls a0_2 20 300 true _ A6.out).mono ?_); rintro e w' ⟨rfl, ⟨nd, rfl⟩⟩) | (go_at_call 89; (with_reducible refine (impl_within.calls a0_3 0 10000 false _ A8.out).mono ?_); rintro e w' ⟨rfl, ⟨nd, rfl⟩⟩))
     go_ret
     exact ⟨Zk, (have z0_ := GE290; Zf)⟩
   ·replace c7 := Bool.eq_false_iff.mpr c7
    subst c7
    have H1 : (some false) = some r := by rw [if_neg (show ¬ (false = true) by decide)] at H; exact H
    clear H
    have H := H1
    clear H1
    obtain rfl := Option.some.inj H
    go_enter Try.func129, Try.ntmps129
    go_wp2_with (first | ((with_reducible refine gate_dst (N := 1) rfl ?_); refine boxZ 1 #[.string a0_0, .int .i64 a0_1, .int .i64 a0_2, .int .i64 a0_3, .int .i64 a0_4, .int .i64 a0_5, .int .i64 a0_6, .int .i64 a0_7, .int .i64 a0_8] 92 ?_; intro gb290 hg w31 hbox hb; have n0_ := Aside0.mk (below_step Zc hb); have n1_ := Aside0.mk (hbox); have n2_ := Aside0.mk ((Zd : w.heap.size ≤ gb290)); have n3_ := Aside0.mk ((Zd : w.heap.size ≤ gb290)); clear HB; have HB := n0_; have BK290 := n1_; have GW290 := n2_; have GE290 := n3_; clear n0_ n1_ n2_ n3_; clear hb hbox hg; obtain ⟨hcz32_0, hcz32_1, hcz32_2, hcz32_3, hcz32_4, hcz32_5, hcz32_6, hcz32_7, hcz32_8, hfz32_0, hfz32_1, hfz32_2, hfz32_3, hfz32_4, hfz32_5, hfz32_6, hfz32_7, hfz32_8⟩ := cz9 BK290) | ((with_reducible refine gate_callee (f := 135) rfl ?_); refine goesL_ (some 5) rfl rfl Try.func135 Zj rfl #[.string a0_0] rfl Zo ?_; (with_reducible refine (impl_IsWord.calls k a0_0 true _ A2.out).mono ?_); rintro e w' ⟨rfl, ⟨nd, rfl⟩⟩; refine ⟨_, rfl, ?_⟩) | (go_at_call 89; (with_reducible refine (impl_within.calls a0_1 0 3 true _ A4.out).mono ?_); rintro e w' ⟨rfl, ⟨nd, rfl⟩⟩) | (go_at_call 89; (with_reducible refine (impl_within.calls a0_2 20 300 false _ A6.out).mono ?_); rintro e w' ⟨rfl, ⟨nd, rfl⟩⟩))
    go_ret
    exact ⟨Zk, (have z0_ := GE290; Zf)⟩
  ·replace c5 := Bool.eq_false_iff.mpr c5
   subst c5
   have H1 : (some false) = some r := by rw [if_neg (show ¬ (false = true) by decide)] at H; exact H
   clear H
   have H := H1
   clear H1
   obtain rfl := Option.some.inj H
   go_enter Try.func129, Try.ntmps129
   go_wp2_with (first | ((with_reducible refine gate_dst (N := 1) rfl ?_); refine boxZ 1 #[.string a0_0, .int .i64 a0_1, .int .i64 a0_2, .int .i64 a0_3, .int .i64 a0_4, .int .i64 a0_5, .int .i64 a0_6, .int .i64 a0_7, .int .i64 a0_8] 92 ?_; intro gb290 hg w33 hbox hb; have n0_ := Aside0.mk (below_step Zc hb); have n1_ := Aside0.mk (hbox); have n2_ := Aside0.mk ((Zd : w.heap.size ≤ gb290)); have n3_ := Aside0.mk ((Zd : w.heap.size ≤ gb290)); clear HB; have HB := n0_; have BK290 := n1_; have GW290 := n2_; have GE290 := n3_; clear n0_ n1_ n2_ n3_; clear hb hbox hg; obtain ⟨hcz34_0, hcz34_1, hcz34_2, hcz34_3, hcz34_4, hcz34_5, hcz34_6, hcz34_7, hcz34_8, hfz34_0, hfz34_1, hfz34_2, hfz34_3, hfz34_4, hfz34_5, hfz34_6, hfz34_7, hfz34_8⟩ := cz9 BK290) | ((with_reducible refine gate_callee (f := 135) rfl ?_); refine goesL_ (some 5) rfl rfl Try.func135 Zj rfl #[.string a0_0] rfl Zo ?_; (with_reducible refine (impl_IsWord.calls k a0_0 true _ A2.out).mono ?_); rintro e w' ⟨rfl, ⟨nd, rfl⟩⟩; refine ⟨_, rfl, ?_⟩) | (go_at_call 89; (with_reducible refine (impl_within.calls a0_1 0 3 false _ A4.out).mono ?_); rintro e w' ⟨rfl, ⟨nd, rfl⟩⟩))
   go_ret
   exact ⟨Zk, (have z0_ := GE290; Zf)⟩
 ·replace c3 := Bool.eq_false_iff.mpr c3
  subst c3
  have H1 : (some false) = some r := by rw [if_neg (show ¬ (false = true) by decide)] at H; exact H
  clear H
  have H := H1
  clear H1
  obtain rfl := Option.some.inj H
  go_enter Try.func129, Try.ntmps129
  go_wp2_with (first | ((with_reducible refine gate_dst (N := 1) rfl ?_); refine boxZ 1 #[.string a0_0, .int .i64 a0_1, .int .i64 a0_2, .int .i64 a0_3, .int .i64 a0_4, .int .i64 a0_5, .int .i64 a0_6, .int .i64 a0_7, .int .i64 a0_8] 92 ?_; intro gb290 hg w35 hbox hb; have n0_ := Aside0.mk (below_step Zc hb); have n1_ := Aside0.mk (hbox); have n2_ := Aside0.mk ((Zd : w.heap.size ≤ gb290)); have n3_ := Aside0.mk ((Zd : w.heap.size ≤ gb290)); clear HB; have HB := n0_; have BK290 := n1_; have GW290 := n2_; have GE290 := n3_; clear n0_ n1_ n2_ n3_; clear hb hbox hg; obtain ⟨hcz36_0, hcz36_1, hcz36_2, hcz36_3, hcz36_4, hcz36_5, hcz36_6, hcz36_7, hcz36_8, hfz36_0, hfz36_1, hfz36_2, hfz36_3, hfz36_4, hfz36_5, hfz36_6, hfz36_7, hfz36_8⟩ := cz9 BK290) | ((with_reducible refine gate_callee (f := 135) rfl ?_); refine goesL_ (some 5) rfl rfl Try.func135 Zj rfl #[.string a0_0] rfl Zo ?_; (with_reducible refine (impl_IsWord.calls k a0_0 false _ A2.out).mono ?_); rintro e w' ⟨rfl, ⟨nd, rfl⟩⟩; refine ⟨_, rfl, ?_⟩))
  go_ret
  exact ⟨Zk, (have z0_ := GE290; Zf)⟩
def impl_AreArticles.l0 : Nat → List (S92) → List (S92) → Int → Int → Option (Bool)
 | 0, _, _, _, _ => none
 | k + 1, x0, x8, x9, x10 => if x10 < x9 then (if 0 ≤ x10 then (if x10 < (x8.length : Int) then ((impl_IsArticle.f k ((rd_T92 x8 x10).f0) ((rd_T92 x8 x10).f1) ((rd_T92 x8 x10).f2) ((rd_T92 x8 x10).f3) ((rd_T92 x8 x10).f4) ((rd_T92 x8 x10).f5) ((rd_T92 x8 x10).f6) ((rd_T92 x8 x10).f7) ((rd_T92 x8 x10).f8)).bind fun t302 => (if t302 = true then (if x10 > 0 then (if 0 ≤ (wrap64 (x10 - 1)) then (if (wrap64 (x10 - 1)) < (x0.length : Int) then (if ((Op.bytesLess (((rd_T92 x0 (wrap64 (x10 - 1))).f0).toList) (((rd_T92 x8 x10).f0).toList)) = true) then (impl_AreArticles.l0 k x0 x8 x9 (wrap64 (x10 + 1))) else (some false)) else (none)) else (none)) else (impl_AreArticles.l0 k x0 x8 x9 (wrap64 (x10 + 1)))) else (some false))) else (none)) else (none)) else (some true)
def impl_AreArticles.f (k : Nat) (l0 : List (S92)) : Option (Bool) := if (l0.length : Int) > 12 then (some false) else (impl_AreArticles.l0 k l0 l0 (l0.length : Int) 0)
def impl_AreArticles.T6 : Bool × List (List Nat × List Nat) := (true, [([], []), ([0], [0]), ([1], [1]), ([2, 1], [2]), ([3], [3]), ([4, 3], [3, 4]), ([5, 3, 3], [3, 5]), ([6], [6]), ([6], [6]), ([8, 6], [6, 8]), ([7, 9, 6], [6, 7, 9]), ([10, 6], [6, 10]), ([11, 6], [6, 11]), ([6], [6]), ([13, 6], [6, 13]), ([12, 14, 6], [6, 12, 14]), ([6, 15, 3], [3, 6, 15]), ([3, 16], [3, 16])])
def impl_AreArticles.B6 : List Nat := [0, 1, 3, 7, 15, 31, 63, 127, 127, 383, 1023, 2047, 4095, 127, 8319, 32767, 65535, 131071]
theorem impl_AreArticles.tab6 : rtab .any (opsOf Try.f97 6) = impl_AreArticles.T6 := by kernel_rfl
theorem impl_AreArticles.bits6 : waitsOk impl_AreArticles.T6.2 impl_AreArticles.B6 = true := by kernel_rfl
set_option maxHeartbeats 8000000 in
set_option maxRecDepth 100000 in
theorem impl_AreArticles.calls (k : Nat) (A0 : Option Addr) (c0 : Nat) (l0 : List (S92)) (r : Bool) (w : World) (hr0 : Kd.C k92 w A0 l0.length l0) (hc0 : l0.length ≤ c0) (h : impl_AreArticles.f k l0 = some r) :
  Calls Try.prog 97 #[.slice A0 l0.length c0] w fun e w' => e = .returned (.bool r) ∧ Below w.heap.size w w' := by
 have hu92 := Try.underlying92
 have HR0 := Aside0.mk hr0
 have HC0 := Aside0.mk hc0
 clear hr0 hc0
 have HB := Aside0.mk (Below.refl w.heap.size w)
 have H : (if (l0.length : Int) > 12 then (some false) else (impl_AreArticles.l0 k l0 l0 (l0.length : Int) 0)) = some r := h
 clear h
 by_cases c2 : (l0.length : Int) > 12
 ·rw [if_pos c2] at H
  have c2b0 : decide (12 < (l0.length : Int)) = true := decide_eq_true c2
  have c2b1 : decide (12 < l0.length) = true := decide_eq_true (by omega)
  clear c2
  obtain rfl := Option.some.inj H
  go_enter Try.func97, Try.ntmps97
  go_wp2
  go_ret
  exact ⟨Zk, Zc⟩
 ·rw [if_neg c2] at H
  have c2b0 : decide (12 < (l0.length : Int)) = false := decide_eq_false c2
  have c2b1 : decide (12 < l0.length) = false := decide_eq_false (by omega)
  clear c2
  have H' := Aside0.mk H
  clear H
  go_enter Try.func97, Try.ntmps97
  go_wp2
  go_loopg [10] k (fun kq v10 w' => ∃ (x10_1 : Int), v10 = .int .i64 x10_1 ∧ Aside0 (impl_AreArticles.l0 kq l0 l0 (l0.length : Int) x10_1 = some r) ∧ Aside0 (kq ≤ k) ∧ Aside0 (Below w.heap.size w w'))
  case atStart => exact ⟨(0), Za, H', ⟨Nat.le_refl _⟩, ⟨Zc⟩⟩
  case round =>
   clear H'
   try clear c2
   try clear c2b0
   try clear c2b1
   try clear p2
   obtain ⟨x10_1, rfl, HA, HK1, HB⟩ := hrel
   cases gk with
   | zero => exact absurd HA.out (by simp [impl_AreArticles.l0])
   | succ k1 =>
    have H := HA.out
    clear HA
    simp only [impl_AreArticles.l0] at H
    by_cases c3 : x10_1 < (l0.length : Int)
    ·rw [if_pos c3] at H
     have c3b0 := decide_eq_true c3
     clear c3
     by_cases c4 : 0 ≤ x10_1
     ·rw [if_pos c4] at H
      have c4b0 := decide_eq_true c4
      clear c4
      by_cases c5 : x10_1 < (l0.length : Int)
      ·rw [if_pos c5] at H
       have c5b0 := decide_eq_true c5
       clear c5
       replace H := Option.bind_eq_some_iff.mp H
       obtain ⟨t302, A60, H⟩ := H
       have A6 := Aside0.mk A60
       clear A60
       by_cases c7 : t302 = true
       ·subst c7
        have H1 : (if x10_1 > 0 then (if 0 ≤ (wrap64 (x10_1 - 1)) then (if (wrap64 (x10_1 - 1)) < (l0.length : Int) then (if ((Op.bytesLess (((rd_T92 l0 (wrap64 (x10_1 - 1))).f0).toList) (((rd_T92 l0 x10_1).f0).toList)) = true) then (impl_AreArticles.l0 k1 l0 l0 (l0.length : Int) (wrap64 (x10_1 + 1))) else (some false)) else (none)) else (none)) else (impl_AreArticles.l0 k1 l0 l0 (l0.length : Int) (wrap64 (x10_1 + 1)))) = some r := by rw [if_pos rfl] at H; exact H
        clear H
        have H := H1
        clear H1
        by_cases c8 : x10_1 > 0
        ·rw [if_pos c8] at H
         have c8b0 : decide (0 < x10_1) = true := decide_eq_true c8
         clear c8
         obtain ⟨ji9, hji9⟩ : ∃ j_ : Int, (wrap64 (x10_1 - 1)) = j_ := ⟨_, rfl⟩
         replace H : (if 0 ≤ (ji9) then (if (ji9) < (l0.length : Int) then (if ((Op.bytesLess (((rd_T92 l0 (ji9)).f0).toList) (((rd_T92 l0 x10_1).f0).toList)) = true) then (impl_AreArticles.l0 k1 l0 l0 (l0.length : Int) (wrap64 (x10_1 + 1))) else (some false)) else (none)) else (none)) = some r := by first | (rw [hji9] at H; exact H) | (simp only [hji9] at H ⊢; exact H)
         (try rw [hji9] at A6)
         have hji9w : (IntKind.i64.wrap (x10_1 - 1)) = ji9 := (i64_w _).trans hji9
         by_cases c10 : 0 ≤ (ji9)
         ·rw [if_pos c10] at H
          have c10b0 := decide_eq_true c10
          clear c10
          by_cases c11 : (ji9) < (l0.length : Int)
          ·rw [if_pos c11] at H
           have c11b0 := decide_eq_true c11
           clear c11
           by_cases c12 : ((Op.bytesLess (((rd_T92 l0 (ji9)).f0).toList) (((rd_T92 l0 x10_1).f0).toList)) = true)
           ·rw [if_pos c12] at H
            have c12b0 : (Op.bytesLess (((rd_T92 l0 (ji9)).f0).toList) (((rd_T92 l0 x10_1).f0).toList)) = true := c12
            clear c12
            have H' := Aside0.mk H
            clear H
            have p300 : 0 ≤ (x10_1 : Int) := of_decide_eq_true Zp
            have q300 : x10_1 < (l0.length : Int) := of_decide_eq_true Zp
            obtain ⟨ad300, e300, hx300_0, hx300_1, hx300_2, hx300_3, hx300_4, hx300_5, hx300_6, hx300_7, hx300_8⟩ := at_T92 HR0.out x10_1 p300 q300
            cases e300
            replace hx300_0 := cbH HB hx300_0
            replace hx300_1 := cbH HB hx300_1
            replace hx300_2 := cbH HB hx300_2
            replace hx300_3 := cbH HB hx300_3
            replace hx300_4 := cbH HB hx300_4
            replace hx300_5 := cbH HB hx300_5
            replace hx300_6 := cbH HB hx300_6
            replace hx300_7 := cbH HB hx300_7
            replace hx300_8 := cbH HB hx300_8
            replace p300 := eq_true p300
            replace q300 := eq_true q300
            try go_wp2_with (first | ((with_reducible refine gate_dst (N := 4) rfl ?_); refine boxZ 4 #[.string (⟨#[]⟩ : ByteArray), .int .i64 0, .int .i64 0, .int .i64 0, .int .i64 0, .int .i64 0, .int .i64 0, .int .i64 0, .int .i64 0] 92 ?_; intro gb301 hg w13 hbox hb; have n0_ := Aside0.mk (below_step Zc hb); have n1_ := Aside0.mk (hbox); have n2_ := Aside0.mk ((Zd : w.heap.size ≤ gb301)); have n3_ := Aside0.mk ((Zd : w.heap.size ≤ gb301)); clear HB; have HB := n0_; have BK301 := n1_; have GW301 := n2_; have GE301 := n3_; clear n0_ n1_ n2_ n3_; clear hb hbox hg; obtain ⟨hcz14_0, hcz14_1, hcz14_2, hcz14_3, hcz14_4, hcz14_5, hcz14_6, hcz14_7, hcz14_8, hfz14_0, hfz14_1, hfz14_2, hfz14_3, hfz14_4, hfz14_5, hfz14_6, hfz14_7, hfz14_8⟩ := cz9 BK301))
            have n0_ : Aside0 ((((((((((w13.setCell ⟨gb301, 0, none⟩ (.string ((rd_T92 l0 x10_1).f0))).setCell ⟨gb301, 1, none⟩ (.int .i64 ((rd_T92 l0 x10_1).f1))).setCell ⟨gb301, 2, none⟩ (.int .i64 ((rd_T92 l0 x10_1).f2))).setCell ⟨gb301, 3, none⟩ (.int .i64 ((rd_T92 l0 x10_1).f3))).setCell ⟨gb301, 4, none⟩ (.int .i64 ((rd_T92 l0 x10_1).f4))).setCell ⟨gb301, 5, none⟩ (.int .i64 ((rd_T92 l0 x10_1).f5))).setCell ⟨gb301, 6, none⟩ (.int .i64 ((rd_T92 l0 x10_1).f6))).setCell ⟨gb301, 7, none⟩ (.int .i64 ((rd_T92 l0 x10_1).f7))).setCell ⟨gb301, 8, none⟩ (.int .i64 ((rd_T92 l0 x10_1).f8))).heap[gb301]? = some (.cells #[.string ((rd_T92 l0 x10_1).f0), .int .i64 ((rd_T92 l0 x10_1).f1), .int .i64 ((rd_T92 l0 x10_1).f2), .int .i64 ((rd_T92 l0 x10_1).f3), .int .i64 ((rd_T92 l0 x10_1).f4), .int .i64 ((rd_T92 l0 x10_1).f5), .int .i64 ((rd_T92 l0 x10_1).f6), .int .i64 ((rd_T92 l0 x10_1).f7), .int .i64 ((rd_T92 l0 x10_1).f8)] 92 (0, 0))) := ⟨(have z0_ := BK301; Zbf)⟩
            have n1_ : Aside0 (Below w.heap.size w (((((((((w13.setCell ⟨gb301, 0, none⟩ (.string ((rd_T92 l0 x10_1).f0))).setCell ⟨gb301, 1, none⟩ (.int .i64 ((rd_T92 l0 x10_1).f1))).setCell ⟨gb301, 2, none⟩ (.int .i64 ((rd_T92 l0 x10_1).f2))).setCell ⟨gb301, 3, none⟩ (.int .i64 ((rd_T92 l0 x10_1).f3))).setCell ⟨gb301, 4, none⟩ (.int .i64 ((rd_T92 l0 x10_1).f4))).setCell ⟨gb301, 5, none⟩ (.int .i64 ((rd_T92 l0 x10_1).f5))).setCell ⟨gb301, 6, none⟩ (.int .i64 ((rd_T92 l0 x10_1).f6))).setCell ⟨gb301, 7, none⟩ (.int .i64 ((rd_T92 l0 x10_1).f7))).setCell ⟨gb301, 8, none⟩ (.int .i64 ((rd_T92 l0 x10_1).f8)))) := ⟨(have z0_ := GE301; Zf)⟩
            (try clear BK301)
            (try clear HB)
            generalize (((((((((w13.setCell ⟨gb301, 0, none⟩ (.string ((rd_T92 l0 x10_1).f0))).setCell ⟨gb301, 1, none⟩ (.int .i64 ((rd_T92 l0 x10_1).f1))).setCell ⟨gb301, 2, none⟩ (.int .i64 ((rd_T92 l0 x10_1).f2))).setCell ⟨gb301, 3, none⟩ (.int .i64 ((rd_T92 l0 x10_1).f3))).setCell ⟨gb301, 4, none⟩ (.int .i64 ((rd_T92 l0 x10_1).f4))).setCell ⟨gb301, 5, none⟩ (.int .i64 ((rd_T92 l0 x10_1).f5))).setCell ⟨gb301, 6, none⟩ (.int .i64 ((rd_T92 l0 x10_1).f6))).setCell ⟨gb301, 7, none⟩ (.int .i64 ((rd_T92 l0 x10_1).f7))).setCell ⟨gb301, 8, none⟩ (.int .i64 ((rd_T92 l0 x10_1).f8))) = w15 at n0_ n1_ ⊢
            have BK301 := n0_
            have HB := n1_
            clear n0_ n1_
            have n0_ := Aside0.mk (blk_drew BK301.out)
            have n1_ := Aside0.mk (below_drew1 HB.out)
            clear BK301
            clear HB
            have BK301 := n0_
            have HB := n1_
            clear n0_ n1_
            have p303 : 0 ≤ ((ji9) : Int) := of_decide_eq_true Zp
            have q303 : (ji9) < (l0.length : Int) := of_decide_eq_true Zp
            obtain ⟨ad303, e303, hx303_0, hx303_1, hx303_2, hx303_3, hx303_4, hx303_5, hx303_6, hx303_7, hx303_8⟩ := at_T92 HR0.out (ji9) p303 q303
            have hw303_8 := hx303_8
            have hw303_7 := hx303_7
            have hw303_6 := hx303_6
            have hw303_5 := hx303_5
            have hw303_4 := hx303_4
            have hw303_3 := hx303_3
            have hw303_2 := hx303_2
            have hw303_1 := hx303_1
            have hw303_0 := hx303_0
            obtain rfl : ad300 = ad303 := (by injection e303)
            replace hx303_0 := cbH HB hx303_0
            replace hx303_1 := cbH HB hx303_1
            replace hx303_2 := cbH HB hx303_2
            replace hx303_3 := cbH HB hx303_3
            replace hx303_4 := cbH HB hx303_4
            replace hx303_5 := cbH HB hx303_5
            replace hx303_6 := cbH HB hx303_6
            replace hx303_7 := cbH HB hx303_7
            replace hx303_8 := cbH HB hx303_8
            replace p303 := eq_true p303
            replace q303 := eq_true q303
            refine start_ (n := 18) (S := fun w' => w'.cell? ⟨gb301, 0, none⟩ = some (.string ((rd_T92 l0 x10_1).f0)) ∧ w'.cell? ⟨gb301, 1, none⟩ = some (.int .i64 ((rd_T92 l0 x10_1).f1)) ∧ w'.cell? ⟨gb301, 2, none⟩ = some (.int .i64 ((rd_T92 l0 x10_1).f2)) ∧ w'.cell? ⟨gb301, 3, none⟩ = some (.int .i64 ((rd_T92 l0 x10_1).f3)) ∧ w'.cell? ⟨gb301, 4, none⟩ = some (.int .i64 ((rd_T92 l0 x10_1).f4)) ∧ w'.cell? ⟨gb301, 5, none⟩ = some (.int .i64 ((rd_T92 l0 x10_1).f5)) ∧ w'.cell? ⟨gb301, 6, none⟩ = some (.int .i64 ((rd_T92 l0 x10_1).f6)) ∧ w'.cell? ⟨gb301, 7, none⟩ = some (.int .i64 ((rd_T92 l0 x10_1).f7)) ∧ w'.cell? ⟨gb301, 8, none⟩ = some (.int .i64 ((rd_T92 l0 x10_1).f8)) ∧ w'.cell? (ad300.add (((ji9)).toNat * 9)) = some (.string ((rd_T92 l0 (ji9)).f0)) ∧ w'.cell? ⟨(ad300.add (((ji9)).toNat * 9)).block, (ad300.add (((ji9)).toNat * 9)).off + 1, none⟩ = some (.int .i64 ((rd_T92 l0 (ji9)).f1)) ∧ w'.cell? ⟨(ad300.add (((ji9)).toNat * 9)).block, (ad300.add (((ji9)).toNat * 9)).off + 2, none⟩ = some (.int .i64 ((rd_T92 l0 (ji9)).f2)) ∧ w'.cell? ⟨(ad300.add (((ji9)).toNat * 9)).block, (ad300.add (((ji9)).toNat * 9)).off + 3, none⟩ = some (.int .i64 ((rd_T92 l0 (ji9)).f3)) ∧ w'.cell? ⟨(ad300.add (((ji9)).toNat * 9)).block, (ad300.add (((ji9)).toNat * 9)).off + 4, none⟩ = some (.int .i64 ((rd_T92 l0 (ji9)).f4)) ∧ w'.cell? ⟨(ad300.add (((ji9)).toNat * 9)).block, (ad300.add (((ji9)).toNat * 9)).off + 5, none⟩ = some (.int .i64 ((rd_T92 l0 (ji9)).f5)) ∧ w'.cell? ⟨(ad300.add (((ji9)).toNat * 9)).block, (ad300.add (((ji9)).toNat * 9)).off + 6, none⟩ = some (.int .i64 ((rd_T92 l0 (ji9)).f6)) ∧ w'.cell? ⟨(ad300.add (((ji9)).toNat * 9)).block, (ad300.add (((ji9)).toNat * 9)).off + 7, none⟩ = some (.int .i64 ((rd_T92 l0 (ji9)).f7)) ∧ w'.cell? ⟨(ad300.add (((ji9)).toNat * 9)).block, (ad300.add (((ji9)).toNat * 9)).off + 8, none⟩ = some (.int .i64 ((rd_T92 l0 (ji9)).f8))) (ds := []) (bT 18 0) Zj rfl rfl ⟨(blk_cell BK301.out 0).trans rfl, (blk_cell BK301.out 1).trans rfl, (blk_cell BK301.out 2).trans rfl, (blk_cell BK301.out 3).trans rfl, (blk_cell BK301.out 4).trans rfl, (blk_cell BK301.out 5).trans rfl, (blk_cell BK301.out 6).trans rfl, (blk_cell BK301.out 7).trans rfl, (blk_cell BK301.out 8).trans rfl, (cbH HB hw303_0 :), (cbH HB hw303_1 :), (cbH HB hw303_2 :), (cbH HB hw303_3 :), (cbH HB hw303_4 :), (cbH HB hw303_5 :), (cbH HB hw303_6 :), (cbH HB hw303_7 :), (cbH HB hw303_8 :)⟩ (fun hHeld => ?_); refine with_tabW impl_AreArticles.tab6 impl_AreArticles.bits6 (fun HT_ HW_ => ?_)
            generalize w15.drew = w16 at BK301 HB hx303_0 hx303_1 hx303_2 hx303_3 hx303_4 hx303_5 hx303_6 hx303_7 hx303_8 hHeld ⊢
            refine take_ (i := 0) (N := some 15) (v := ?_) (a' := ?_) (bT 18 1) rfl rfl (take_ofW HT_.out HW_.out Zj) (fun _ _ _ h => h) (Or.inl ⟨by rfl, ?_⟩) hHeld ?_ ?_
            rotate_left
            ·rintro w' ⟨s0, s1, s2, s3, s4, s5, s6, s7, s8, s9, s10, s11, s12, s13, s14, s15, s16, s17⟩
             go_simp
             with_reducible rfl
            rotate_left
            ·exact Zput
            refine one_ (i := 1) (N := some 16) (bT 18 2) rfl rfl (one_of HT_.out Zj) (by decide) (fun K hK => ?_)
            refine goes_ Try.func129 Zj rfl #[.agg #[.string ((rd_T92 l0 x10_1).f0), .int .i64 ((rd_T92 l0 x10_1).f1), .int .i64 ((rd_T92 l0 x10_1).f2), .int .i64 ((rd_T92 l0 x10_1).f3), .int .i64 ((rd_T92 l0 x10_1).f4), .int .i64 ((rd_T92 l0 x10_1).f5), .int .i64 ((rd_T92 l0 x10_1).f6), .int .i64 ((rd_T92 l0 x10_1).f7), .int .i64 ((rd_T92 l0 x10_1).f8)]] (by rfl) rfl rfl Zo ?_
            with_reducible refine (impl_IsArticle.calls k1 ((rd_T92 l0 x10_1).f0) ((rd_T92 l0 x10_1).f1) ((rd_T92 l0 x10_1).f2) ((rd_T92 l0 x10_1).f3) ((rd_T92 l0 x10_1).f4) ((rd_T92 l0 x10_1).f5) ((rd_T92 l0 x10_1).f6) ((rd_T92 l0 x10_1).f7) ((rd_T92 l0 x10_1).f8) true _ A6.out).mono ?_
            rintro e w17 ⟨rfl, hb⟩
            refine ⟨_, rfl, ?_⟩
            have n0_ := Aside0.mk (blk_below (g := gb301) (o := .cells #[.string ((rd_T92 l0 x10_1).f0), .int .i64 ((rd_T92 l0 x10_1).f1), .int .i64 ((rd_T92 l0 x10_1).f2), .int .i64 ((rd_T92 l0 x10_1).f3), .int .i64 ((rd_T92 l0 x10_1).f4), .int .i64 ((rd_T92 l0 x10_1).f5), .int .i64 ((rd_T92 l0 x10_1).f6), .int .i64 ((rd_T92 l0 x10_1).f7), .int .i64 ((rd_T92 l0 x10_1).f8)] 92 (0, 0)) (have z0_ := BK301; Ze) hb)
            have n1_ := Aside0.mk (below_step (have z0_ := GE301; Zf) hb)
            clear BK301
            clear HB
            have BK301 := n0_
            have HB := n1_
            clear n0_ n1_
            (try clear hb)
            (try clear hb2)
            (try clear hk)
            (try clear hi)
            refine hK.out _ _ ⟨(blk_cell BK301.out 0).trans rfl, (blk_cell BK301.out 1).trans rfl, (blk_cell BK301.out 2).trans rfl, (blk_cell BK301.out 3).trans rfl, (blk_cell BK301.out 4).trans rfl, (blk_cell BK301.out 5).trans rfl, (blk_cell BK301.out 6).trans rfl, (blk_cell BK301.out 7).trans rfl, (blk_cell BK301.out 8).trans rfl, (cbH HB hw303_0 :), (cbH HB hw303_1 :), (cbH HB hw303_2 :), (cbH HB hw303_3 :), (cbH HB hw303_4 :), (cbH HB hw303_5 :), (cbH HB hw303_6 :), (cbH HB hw303_7 :), (cbH HB hw303_8 :)⟩ (fun hHeld => ?_)
            clear hK K
            refine norm_ (a' := ?_) ?_ ?_
            rotate_left
            ·show Act.put _ (some 16) _ = _
             simp only [Act.put, List.setIfInBounds_toArray, List.set_cons_zero, List.set_cons_succ, i64_w, i32_w]
             rfl
            refine pureZ HT_ 2 (some 17) (bT 18 3) ?_
            refine pureZ HT_ 3 (some 18) (bT 18 4) ?_
            refine pureZ HT_ 4 (some 19) (bT 18 5) ?_
            refine pureZ HT_ 5 (some 20) (bT 18 6) ?_
            refine pureZ HT_ 6 (some 21) (bT 18 7) ?_
            refine pureZ HT_ 7 (some 22) (bT 18 8) ?_
            refine pureZ HT_ 8 (some 23) (bT 18 9) ?_
            refine pureZ HT_ 9 (some 24) (bT 18 10) ?_
            refine pureZ HT_ 10 (some 25) (bT 18 11) ?_
            refine pureZ HT_ 11 (some 26) (bT 18 12) ?_
            refine pureZ HT_ 13 (some 28) #[true, true, true, true, true, true, true, true, true, true, true, true, false, true, false, false, false, false] ?_
            refine take_ (i := 12) (N := some 27) (v := ?_) (a' := ?_) (bT 18 14) rfl rfl (take_ofW HT_.out HW_.out Zj) (fun _ _ _ h => h) (Or.inl ⟨by rfl, ?_⟩) hHeld ?_ ?_
            rotate_left
            ·rintro w' ⟨s0, s1, s2, s3, s4, s5, s6, s7, s8, s9, s10, s11, s12, s13, s14, s15, s16, s17⟩
             go_simp
             with_reducible rfl
            rotate_left
            ·exact Zput
            refine take_ (i := 14) (N := some 29) (v := ?_) (a' := ?_) (bT 18 15) rfl rfl (take_ofW HT_.out HW_.out Zj) (fun _ _ _ h => h) (Or.inl ⟨by rfl, ?_⟩) hHeld ?_ ?_
            rotate_left
            ·rintro w' ⟨s0, s1, s2, s3, s4, s5, s6, s7, s8, s9, s10, s11, s12, s13, s14, s15, s16, s17⟩
             go_simp
             with_reducible rfl
            rotate_left
            ·exact Zput
            refine pureZ HT_ 15 (some 30) (bT 18 16) ?_
            refine pureZ HT_ 16 (some 31) (bT 18 17) ?_
            refine pureZ HT_ 17 (some 32) (bT 18 18) ?_
            refine done_ (done_of HT_.out Zj) ?_
            try go_wp2
            go_roundg k1
            case measure => have := HK1.out; omega
            case rel => exact ⟨(wrap64 (x10_1 + 1)), Za, H', ⟨Zt⟩, ⟨(have z0_ := GE301; Zf)⟩⟩
           ·rw [if_neg c12] at H
            have c12b0 : (Op.bytesLess (((rd_T92 l0 (ji9)).f0).toList) (((rd_T92 l0 x10_1).f0).toList)) = false := by simpa using c12
            clear c12
            obtain rfl := Option.some.inj H
            have p300 : 0 ≤ (x10_1 : Int) := of_decide_eq_true Zp
            have q300 : x10_1 < (l0.length : Int) := of_decide_eq_true Zp
            obtain ⟨ad300, e300, hx300_0, hx300_1, hx300_2, hx300_3, hx300_4, hx300_5, hx300_6, hx300_7, hx300_8⟩ := at_T92 HR0.out x10_1 p300 q300
            cases e300
            replace hx300_0 := cbH HB hx300_0
            replace hx300_1 := cbH HB hx300_1
            replace hx300_2 := cbH HB hx300_2
            replace hx300_3 := cbH HB hx300_3
            replace hx300_4 := cbH HB hx300_4
            replace hx300_5 := cbH HB hx300_5
            replace hx300_6 := cbH HB hx300_6
            replace hx300_7 := cbH HB hx300_7
            replace hx300_8 := cbH HB hx300_8
            replace p300 := eq_true p300
            replace q300 := eq_true q300
            try go_wp2_with (first | ((with_reducible refine gate_dst (N := 4) rfl ?_); refine boxZ 4 #[.string (⟨#[]⟩ : ByteArray), .int .i64 0, .int .i64 0, .int .i64 0, .int .i64 0, .int .i64 0, .int .i64 0, .int .i64 0, .int .i64 0] 92 ?_; intro gb301 hg w18 hbox hb; have n0_ := Aside0.mk (below_step Zc hb); have n1_ := Aside0.mk (hbox); have n2_ := Aside0.mk ((Zd : w.heap.size ≤ gb301)); have n3_ := Aside0.mk ((Zd : w.heap.size ≤ gb301)); clear HB; have HB := n0_; have BK301 := n1_; have GW301 := n2_; have GE301 := n3_; clear n0_ n1_ n2_ n3_; clear hb hbox hg; obtain ⟨hcz19_0, hcz19_1, hcz19_2, hcz19_3, hcz19_4, hcz19_5, hcz19_6, hcz19_7, hcz19_8, hfz19_0, hfz19_1, hfz19_2, hfz19_3, hfz19_4, hfz19_5, hfz19_6, hfz19_7, hfz19_8⟩ := cz9 BK301))
            have n0_ : Aside0 ((((((((((w18.setCell ⟨gb301, 0, none⟩ (.string ((rd_T92 l0 x10_1).f0))).setCell ⟨gb301, 1, none⟩ (.int .i64 ((rd_T92 l0 x10_1).f1))).setCell ⟨gb301, 2, none⟩ (.int .i64 ((rd_T92 l0 x10_1).f2))).setCell ⟨gb301, 3, none⟩ (.int .i64 ((rd_T92 l0 x10_1).f3))).setCell ⟨gb301, 4, none⟩ (.int .i64 ((rd_T92 l0 x10_1).f4))).setCell ⟨gb301, 5, none⟩ (.int .i64 ((rd_T92 l0 x10_1).f5))).setCell ⟨gb301, 6, none⟩ (.int .i64 ((rd_T92 l0 x10_1).f6))).setCell ⟨gb301, 7, none⟩ (.int .i64 ((rd_T92 l0 x10_1).f7))).setCell ⟨gb301, 8, none⟩ (.int .i64 ((rd_T92 l0 x10_1).f8))).heap[gb301]? = some (.cells #[.string ((rd_T92 l0 x10_1).f0), .int .i64 ((rd_T92 l0 x10_1).f1), .int .i64 ((rd_T92 l0 x10_1).f2), .int .i64 ((rd_T92 l0 x10_1).f3), .int .i64 ((rd_T92 l0 x10_1).f4), .int .i64 ((rd_T92 l0 x10_1).f5), .int .i64 ((rd_T92 l0 x10_1).f6), .int .i64 ((rd_T92 l0 x10_1).f7), .int .i64 ((rd_T92 l0 x10_1).f8)] 92 (0, 0))) := ⟨(have z0_ := BK301; Zbf)⟩
            have n1_ : Aside0 (Below w.heap.size w (((((((((w18.setCell ⟨gb301, 0, none⟩ (.string ((rd_T92 l0 x10_1).f0))).setCell ⟨gb301, 1, none⟩ (.int .i64 ((rd_T92 l0 x10_1).f1))).setCell ⟨gb301, 2, none⟩ (.int .i64 ((rd_T92 l0 x10_1).f2))).setCell ⟨gb301, 3, none⟩ (.int .i64 ((rd_T92 l0 x10_1).f3))).setCell ⟨gb301, 4, none⟩ (.int .i64 ((rd_T92 l0 x10_1).f4))).setCell ⟨gb301, 5, none⟩ (.int .i64 ((rd_T92 l0 x10_1).f5))).setCell ⟨gb301, 6, none⟩ (.int .i64 ((rd_T92 l0 x10_1).f6))).setCell ⟨gb301, 7, none⟩ (.int .i64 ((rd_T92 l0 x10_1).f7))).setCell ⟨gb301, 8, none⟩ (.int .i64 ((rd_T92 l0 x10_1).f8)))) := ⟨(have z0_ := GE301; Zf)⟩
            (try clear BK301)
            (try clear HB)
            generalize (((((((((w18.setCell ⟨gb301, 0, none⟩ (.string ((rd_T92 l0 x10_1).f0))).setCell ⟨gb301, 1, none⟩ (.int .i64 ((rd_T92 l0 x10_1).f1))).setCell ⟨gb301, 2, none⟩ (.int .i64 ((rd_T92 l0 x10_1).f2))).setCell ⟨gb301, 3, none⟩ (.int .i64 ((rd_T92 l0 x10_1).f3))).setCell ⟨gb301, 4, none⟩ (.int .i64 ((rd_T92 l0 x10_1).f4))).setCell ⟨gb301, 5, none⟩ (.int .i64 ((rd_T92 l0 x10_1).f5))).setCell ⟨gb301, 6, none⟩ (.int .i64 ((rd_T92 l0 x10_1).f6))).setCell ⟨gb301, 7, none⟩ (.int .i64 ((rd_T92 l0 x10_1).f7))).setCell ⟨gb301, 8, none⟩ (.int .i64 ((rd_T92 l0 x10_1).f8))) = w20 at n0_ n1_ ⊢
            have BK301 := n0_
            have HB := n1_
            clear n0_ n1_
            have n0_ := Aside0.mk (blk_drew BK301.out)
            have n1_ := Aside0.mk (below_drew1 HB.out)
            clear BK301
            clear HB
            have BK301 := n0_
            have HB := n1_
            clear n0_ n1_
            have p303 : 0 ≤ ((ji9) : Int) := of_decide_eq_true Zp
            have q303 : (ji9) < (l0.length : Int) := of_decide_eq_true Zp
            obtain ⟨ad303, e303, hx303_0, hx303_1, hx303_2, hx303_3, hx303_4, hx303_5, hx303_6, hx303_7, hx303_8⟩ := at_T92 HR0.out (ji9) p303 q303
            have hw303_8 := hx303_8
            have hw303_7 := hx303_7
            have hw303_6 := hx303_6
            have hw303_5 := hx303_5
            have hw303_4 := hx303_4
            have hw303_3 := hx303_3
            have hw303_2 := hx303_2
            have hw303_1 := hx303_1
            have hw303_0 := hx303_0
            obtain rfl : ad300 = ad303 := (by injection e303)
            replace hx303_0 := cbH HB hx303_0
            replace hx303_1 := cbH HB hx303_1
            replace hx303_2 := cbH HB hx303_2
            replace hx303_3 := cbH HB hx303_3
            replace hx303_4 := cbH HB hx303_4
            replace hx303_5 := cbH HB hx303_5
            replace hx303_6 := cbH HB hx303_6
            replace hx303_7 := cbH HB hx303_7
            replace hx303_8 := cbH HB hx303_8
            replace p303 := eq_true p303
            replace q303 := eq_true q303
            refine start_ (n := 18) (S := fun w' => w'.cell? ⟨gb301, 0, none⟩ = some (.string ((rd_T92 l0 x10_1).f0)) ∧ w'.cell? ⟨gb301, 1, none⟩ = some (.int .i64 ((rd_T92 l0 x10_1).f1)) ∧ w'.cell? ⟨gb301, 2, none⟩ = some (.int .i64 ((rd_T92 l0 x10_1).f2)) ∧ w'.cell? ⟨gb301, 3, none⟩ = some (.int .i64 ((rd_T92 l0 x10_1).f3)) ∧ w'.cell? ⟨gb301, 4, none⟩ = some (.int .i64 ((rd_T92 l0 x10_1).f4)) ∧ w'.cell? ⟨gb301, 5, none⟩ = some (.int .i64 ((rd_T92 l0 x10_1).f5)) ∧ w'.cell? ⟨gb301, 6, none⟩ = some (.int .i64 ((rd_T92 l0 x10_1).f6)) ∧ w'.cell? ⟨gb301, 7, none⟩ = some (.int .i64 ((rd_T92 l0 x10_1).f7)) ∧ w'.cell? ⟨gb301, 8, none⟩ = some (.int .i64 ((rd_T92 l0 x10_1).f8)) ∧ w'.cell? (ad300.add (((ji9)).toNat * 9)) = some (.string ((rd_T92 l0 (ji9)).f0)) ∧ w'.cell? ⟨(ad300.add (((ji9)).toNat * 9)).block, (ad300.add (((ji9)).toNat * 9)).off + 1, none⟩ = some (.int .i64 ((rd_T92 l0 (ji9)).f1)) ∧ w'.cell? ⟨(ad300.add (((ji9)).toNat * 9)).block, (ad300.add (((ji9)).toNat * 9)).off + 2, none⟩ = some (.int .i64 ((rd_T92 l0 (ji9)).f2)) ∧ w'.cell? ⟨(ad300.add (((ji9)).toNat * 9)).block, (ad300.add (((ji9)).toNat * 9)).off + 3, none⟩ = some (.int .i64 ((rd_T92 l0 (ji9)).f3)) ∧ w'.cell? ⟨(ad300.add (((ji9)).toNat * 9)).block, (ad300.add (((ji9)).toNat * 9)).off + 4, none⟩ = some (.int .i64 ((rd_T92 l0 (ji9)).f4)) ∧ w'.cell? ⟨(ad300.add (((ji9)).toNat * 9)).block, (ad300.add (((ji9)).toNat * 9)).off + 5, none⟩ = some (.int .i64 ((rd_T92 l0 (ji9)).f5)) ∧ w'.cell? ⟨(ad300.add (((ji9)).toNat * 9)).block, (ad300.add (((ji9)).toNat * 9)).off + 6, none⟩ = some (.int .i64 ((rd_T92 l0 (ji9)).f6)) ∧ w'.cell? ⟨(ad300.add (((ji9)).toNat * 9)).block, (ad300.add (((ji9)).toNat * 9)).off + 7, none⟩ = some (.int .i64 ((rd_T92 l0 (ji9)).f7)) ∧ w'.cell? ⟨(ad300.add (((ji9)).toNat * 9)).block, (ad300.add (((ji9)).toNat * 9)).off + 8, none⟩ = some (.int .i64 ((rd_T92 l0 (ji9)).f8))) (ds := []) (bT 18 0) Zj rfl rfl ⟨(blk_cell BK301.out 0).trans rfl, (blk_cell BK301.out 1).trans rfl, (blk_cell BK301.out 2).trans rfl, (blk_cell BK301.out 3).trans rfl, (blk_cell BK301.out 4).trans rfl, (blk_cell BK301.out 5).trans rfl, (blk_cell BK301.out 6).trans rfl, (blk_cell BK301.out 7).trans rfl, (blk_cell BK301.out 8).trans rfl, (cbH HB hw303_0 :), (cbH HB hw303_1 :), (cbH HB hw303_2 :), (cbH HB hw303_3 :), (cbH HB hw303_4 :), (cbH HB hw303_5 :), (cbH HB hw303_6 :), (cbH HB hw303_7 :), (cbH HB hw303_8 :)⟩ (fun hHeld => ?_); refine with_tabW impl_AreArticles.tab6 impl_AreArticles.bits6 (fun HT_ HW_ => ?_)
            generalize w20.drew = w21 at BK301 HB hx303_0 hx303_1 hx303_2 hx303_3 hx303_4 hx303_5 hx303_6 hx303_7 hx303_8 hHeld ⊢
            refine take_ (i := 0) (N := some 15) (v := ?_) (a' := ?_) (bT 18 1) rfl rfl (take_ofW HT_.out HW_.out Zj) (fun _ _ _ h => h) (Or.inl ⟨by rfl, ?_⟩) hHeld ?_ ?_
            rotate_left
            ·rintro w' ⟨s0, s1, s2, s3, s4, s5, s6, s7, s8, s9, s10, s11, s12, s13, s14, s15, s16, s17⟩
             go_simp
             with_reducible rfl
            rotate_left
            ·exact Zput
            refine one_ (i := 1) (N := some 16) (bT 18 2) rfl rfl (one_of HT_.out Zj) (by decide) (fun K hK => ?_)
            refine goes_ Try.func129 Zj rfl #[.agg #[.string ((rd_T92 l0 x10_1).f0), .int .i64 ((rd_T92 l0 x10_1).f1), .int .i64 ((rd_T92 l0 x10_1).f2), .int .i64 ((rd_T92 l0 x10_1).f3), .int .i64 ((rd_T92 l0 x10_1).f4), .int .i64 ((rd_T92 l0 x10_1).f5), .int .i64 ((rd_T92 l0 x10_1).f6), .int .i64 ((rd_T92 l0 x10_1).f7), .int .i64 ((rd_T92 l0 x10_1).f8)]] (by rfl) rfl rfl Zo ?_
            with_reducible refine (impl_IsArticle.calls k1 ((rd_T92 l0 x10_1).f0) ((rd_T92 l0 x10_1).f1) ((rd_T92 l0 x10_1).f2) ((rd_T92 l0 x10_1).f3) ((rd_T92 l0 x10_1).f4) ((rd_T92 l0 x10_1).f5) ((rd_T92 l0 x10_1).f6) ((rd_T92 l0 x10_1).f7) ((rd_T92 l0 x10_1).f8) true _ A6.out).mono ?_
            rintro e w22 ⟨rfl, hb⟩
            refine ⟨_, rfl, ?_⟩
            have n0_ := Aside0.mk (blk_below (g := gb301) (o := .cells #[.string ((rd_T92 l0 x10_1).f0), .int .i64 ((rd_T92 l0 x10_1).f1), .int .i64 ((rd_T92 l0 x10_1).f2), .int .i64 ((rd_T92 l0 x10_1).f3), .int .i64 ((rd_T92 l0 x10_1).f4), .int .i64 ((rd_T92 l0 x10_1).f5), .int .i64 ((rd_T92 l0 x10_1).f6), .int .i64 ((rd_T92 l0 x10_1).f7), .int .i64 ((rd_T92 l0 x10_1).f8)] 92 (0, 0)) (have z0_ := BK301; Ze) hb)
            have n1_ := Aside0.mk (below_step (have z0_ := GE301; Zf) hb)
            clear BK301
            clear HB
            have BK301 := n0_
            have HB := n1_
            clear n0_ n1_
            (try clear hb)
            (try clear hb2)
            (try clear hk)
            (try clear hi)
            refine hK.out _ _ ⟨(blk_cell BK301.out 0).trans rfl, (blk_cell BK301.out 1).trans rfl, (blk_cell BK301.out 2).trans rfl, (blk_cell BK301.out 3).trans rfl, (blk_cell BK301.out 4).trans rfl, (blk_cell BK301.out 5).trans rfl, (blk_cell BK301.out 6).trans rfl, (blk_cell BK301.out 7).trans rfl, (blk_cell BK301.out 8).trans rfl, (cbH HB hw303_0 :), (cbH HB hw303_1 :), (cbH HB hw303_2 :), (cbH HB hw303_3 :), (cbH HB hw303_4 :), (cbH HB hw303_5 :), (cbH HB hw303_6 :), (cbH HB hw303_7 :), (cbH HB hw303_8 :)⟩ (fun hHeld => ?_)
            clear hK K
            refine norm_ (a' := ?_) ?_ ?_
            rotate_left
            ·show Act.put _ (some 16) _ = _
             simp only [Act.put, List.setIfInBounds_toArray, List.set_cons_zero, List.set_cons_succ, i64_w, i32_w]
             rfl
            refine pureZ HT_ 2 (some 17) (bT 18 3) ?_
            refine pureZ HT_ 3 (some 18) (bT 18 4) ?_
            refine pureZ HT_ 4 (some 19) (bT 18 5) ?_
            refine pureZ HT_ 5 (some 20) (bT 18 6) ?_
            refine pureZ HT_ 6 (some 21) (bT 18 7) ?_
            refine pureZ HT_ 7 (some 22) (bT 18 8) ?_
            refine pureZ HT_ 8 (some 23) (bT 18 9) ?_
            refine pureZ HT_ 9 (some 24) (bT 18 10) ?_
            refine pureZ HT_ 10 (some 25) (bT 18 11) ?_
            refine pureZ HT_ 11 (some 26) (bT 18 12) ?_
            refine pureZ HT_ 13 (some 28) #[true, true, true, true, true, true, true, true, true, true, true, true, false, true, false, false, false, false] ?_
            refine take_ (i := 12) (N := some 27) (v := ?_) (a' := ?_) (bT 18 14) rfl rfl (take_ofW HT_.out HW_.out Zj) (fun _ _ _ h => h) (Or.inl ⟨by rfl, ?_⟩) hHeld ?_ ?_
            rotate_left
            ·rintro w' ⟨s0, s1, s2, s3, s4, s5, s6, s7, s8, s9, s10, s11, s12, s13, s14, s15, s16, s17⟩
             go_simp
             with_reducible rfl
            rotate_left
            ·exact Zput
            refine take_ (i := 14) (N := some 29) (v := ?_) (a' := ?_) (bT 18 15) rfl rfl (take_ofW HT_.out HW_.out Zj) (fun _ _ _ h => h) (Or.inl ⟨by rfl, ?_⟩) hHeld ?_ ?_
            rotate_left
            ·rintro w' ⟨s0, s1, s2, s3, s4, s5, s6, s7, s8, s9, s10, s11, s12, s13, s14, s15, s16, s17⟩
             go_simp
             with_reducible rfl
            rotate_left
            ·exact Zput
            refine pureZ HT_ 15 (some 30) (bT 18 16) ?_
            refine pureZ HT_ 16 (some 31) (bT 18 17) ?_
            refine pureZ HT_ 17 (some 32) (bT 18 18) ?_
            refine done_ (done_of HT_.out Zj) ?_
            try go_wp2
            go_ret
            exact ⟨by first | rfl | (simp [errW_none, errW_some] <;> rfl) | (simp only [← hji9]; first | rfl | (simp [errW_none, errW_some] <;> rfl)) | (simp [*, errW_none, errW_some] <;> rfl), (have z0_ := GE301; Zf)⟩
          ·rw [if_neg c11] at H
           exact absurd H (by simp)
         ·rw [if_neg c10] at H
          exact absurd H (by simp)
        ·rw [if_neg c8] at H
         have c8b0 : decide (0 < x10_1) = false := decide_eq_false c8
         clear c8
         have H' := Aside0.mk H
         clear H
         have p300 : 0 ≤ (x10_1 : Int) := of_decide_eq_true Zp
         have q300 : x10_1 < (l0.length : Int) := of_decide_eq_true Zp
         obtain ⟨ad300, e300, hx300_0, hx300_1, hx300_2, hx300_3, hx300_4, hx300_5, hx300_6, hx300_7, hx300_8⟩ := at_T92 HR0.out x10_1 p300 q300
         cases e300
         replace hx300_0 := cbH HB hx300_0
         replace hx300_1 := cbH HB hx300_1
         replace hx300_2 := cbH HB hx300_2
         replace hx300_3 := cbH HB hx300_3
         replace hx300_4 := cbH HB hx300_4
         replace hx300_5 := cbH HB hx300_5
         replace hx300_6 := cbH HB hx300_6
         replace hx300_7 := cbH HB hx300_7
         replace hx300_8 := cbH HB hx300_8
         replace p300 := eq_true p300
         replace q300 := eq_true q300
         try go_wp2_with (first | ((with_reducible refine gate_dst (N := 4) rfl ?_); refine boxZ 4 #[.string (⟨#[]⟩ : ByteArray), .int .i64 0, .int .i64 0, .int .i64 0, .int .i64 0, .int .i64 0, .int .i64 0, .int .i64 0, .int .i64 0] 92 ?_; intro gb301 hg w23 hbox hb; have n0_ := Aside0.mk (below_step Zc hb); have n1_ := Aside0.mk (hbox); have n2_ := Aside0.mk ((Zd : w.heap.size ≤ gb301)); have n3_ := Aside0.mk ((Zd : w.heap.size ≤ gb301)); clear HB; have HB := n0_; have BK301 := n1_; have GW301 := n2_; have GE301 := n3_; clear n0_ n1_ n2_ n3_; clear hb hbox hg; obtain ⟨hcz24_0, hcz24_1, hcz24_2, hcz24_3, hcz24_4, hcz24_5, hcz24_6, hcz24_7, hcz24_8, hfz24_0, hfz24_1, hfz24_2, hfz24_3, hfz24_4, hfz24_5, hfz24_6, hfz24_7, hfz24_8⟩ := cz9 BK301))
         have n0_ : Aside0 ((((((((((w23.setCell ⟨gb301, 0, none⟩ (.string ((rd_T92 l0 x10_1).f0))).setCell ⟨gb301, 1, none⟩ (.int .i64 ((rd_T92 l0 x10_1).f1))).setCell ⟨gb301, 2, none⟩ (.int .i64 ((rd_T92 l0 x10_1).f2))).setCell ⟨gb301, 3, none⟩ (.int .i64 ((rd_T92 l0 x10_1).f3))).setCell ⟨gb301, 4, none⟩ (.int .i64 ((rd_T92 l0 x10_1).f4))).setCell ⟨gb301, 5, none⟩ (.int .i64 ((rd_T92 l0 x10_1).f5))).setCell ⟨gb301, 6, none⟩ (.int .i64 ((rd_T92 l0 x10_1).f6))).setCell ⟨gb301, 7, none⟩ (.int .i64 ((rd_T92 l0 x10_1).f7))).setCell ⟨gb301, 8, none⟩ (.int .i64 ((rd_T92 l0 x10_1).f8))).heap[gb301]? = some (.cells #[.string ((rd_T92 l0 x10_1).f0), .int .i64 ((rd_T92 l0 x10_1).f1), .int .i64 ((rd_T92 l0 x10_1).f2), .int .i64 ((rd_T92 l0 x10_1).f3), .int .i64 ((rd_T92 l0 x10_1).f4), .int .i64 ((rd_T92 l0 x10_1).f5), .int .i64 ((rd_T92 l0 x10_1).f6), .int .i64 ((rd_T92 l0 x10_1).f7), .int .i64 ((rd_T92 l0 x10_1).f8)] 92 (0, 0))) := ⟨(have z0_ := BK301; Zbf)⟩
         have n1_ : Aside0 (Below w.heap.size w (((((((((w23.setCell ⟨gb301, 0, none⟩ (.string ((rd_T92 l0 x10_1).f0))).setCell ⟨gb301, 1, none⟩ (.int .i64 ((rd_T92 l0 x10_1).f1))).setCell ⟨gb301, 2, none⟩ (.int .i64 ((rd_T92 l0 x10_1).f2))).setCell ⟨gb301, 3, none⟩ (.int .i64 ((rd_T92 l0 x10_1).f3))).setCell ⟨gb301, 4, none⟩ (.int .i64 ((rd_T92 l0 x10_1).f4))).setCell ⟨gb301, 5, none⟩ (.int .i64 ((rd_T92 l0 x10_1).f5))).setCell ⟨gb301, 6, none⟩ (.int .i64 ((rd_T92 l0 x10_1).f6))).setCell ⟨gb301, 7, none⟩ (.int .i64 ((rd_T92 l0 x10_1).f7))).setCell ⟨gb301, 8, none⟩ (.int .i64 ((rd_T92 l0 x10_1).f8)))) := ⟨(have z0_ := GE301; Zf)⟩
         (try clear BK301)
         (try clear HB)
         generalize (((((((((w23.setCell ⟨gb301, 0, none⟩ (.string ((rd_T92 l0 x10_1).f0))).setCell ⟨gb301, 1, none⟩ (.int .i64 ((rd_T92 l0 x10_1).f1))).setCell ⟨gb301, 2, none⟩ (.int .i64 ((rd_T92 l0 x10_1).f2))).setCell ⟨gb301, 3, none⟩ (.int .i64 ((rd_T92 l0 x10_1).f3))).setCell ⟨gb301, 4, none⟩ (.int .i64 ((rd_T92 l0 x10_1).f4))).setCell ⟨gb301, 5, none⟩ (.int .i64 ((rd_T92 l0 x10_1).f5))).setCell ⟨gb301, 6, none⟩ (.int .i64 ((rd_T92 l0 x10_1).f6))).setCell ⟨gb301, 7, none⟩ (.int .i64 ((rd_T92 l0 x10_1).f7))).setCell ⟨gb301, 8, none⟩ (.int .i64 ((rd_T92 l0 x10_1).f8))) = w25 at n0_ n1_ ⊢
         have BK301 := n0_
         have HB := n1_
         clear n0_ n1_
         have n0_ := Aside0.mk (blk_drew BK301.out)
         have n1_ := Aside0.mk (below_drew1 HB.out)
         clear BK301
         clear HB
         have BK301 := n0_
         have HB := n1_
         clear n0_ n1_
         refine start_ (n := 18) (S := fun w' => w'.cell? ⟨gb301, 0, none⟩ = some (.string ((rd_T92 l0 x10_1).f0)) ∧ w'.cell? ⟨gb301, 1, none⟩ = some (.int .i64 ((rd_T92 l0 x10_1).f1)) ∧ w'.cell? ⟨gb301, 2, none⟩ = some (.int .i64 ((rd_T92 l0 x10_1).f2)) ∧ w'.cell? ⟨gb301, 3, none⟩ = some (.int .i64 ((rd_T92 l0 x10_1).f3)) ∧ w'.cell? ⟨gb301, 4, none⟩ = some (.int .i64 ((rd_T92 l0 x10_1).f4)) ∧ w'.cell? ⟨gb301, 5, none⟩ = some (.int .i64 ((rd_T92 l0 x10_1).f5)) ∧ w'.cell? ⟨gb301, 6, none⟩ = some (.int .i64 ((rd_T92 l0 x10_1).f6)) ∧ w'.cell? ⟨gb301, 7, none⟩ = some (.int .i64 ((rd_T92 l0 x10_1).f7)) ∧ w'.cell? ⟨gb301, 8, none⟩ = some (.int .i64 ((rd_T92 l0 x10_1).f8))) (ds := []) (bT 18 0) Zj rfl rfl ⟨(blk_cell BK301.out 0).trans rfl, (blk_cell BK301.out 1).trans rfl, (blk_cell BK301.out 2).trans rfl, (blk_cell BK301.out 3).trans rfl, (blk_cell BK301.out 4).trans rfl, (blk_cell BK301.out 5).trans rfl, (blk_cell BK301.out 6).trans rfl, (blk_cell BK301.out 7).trans rfl, (blk_cell BK301.out 8).trans rfl⟩ (fun hHeld => ?_); refine with_tabW impl_AreArticles.tab6 impl_AreArticles.bits6 (fun HT_ HW_ => ?_)
         generalize w25.drew = w26 at BK301 HB hHeld ⊢
         refine take_ (i := 0) (N := some 15) (v := ?_) (a' := ?_) (bT 18 1) rfl rfl (take_ofW HT_.out HW_.out Zj) (fun _ _ _ h => h) (Or.inl ⟨by rfl, ?_⟩) hHeld ?_ ?_
         rotate_left
         ·rintro w' ⟨s0, s1, s2, s3, s4, s5, s6, s7, s8⟩
          go_simp
          with_reducible rfl
         rotate_left
         ·exact Zput
         refine one_ (i := 1) (N := some 16) (bT 18 2) rfl rfl (one_of HT_.out Zj) (by decide) (fun K hK => ?_)
         refine goes_ Try.func129 Zj rfl #[.agg #[.string ((rd_T92 l0 x10_1).f0), .int .i64 ((rd_T92 l0 x10_1).f1), .int .i64 ((rd_T92 l0 x10_1).f2), .int .i64 ((rd_T92 l0 x10_1).f3), .int .i64 ((rd_T92 l0 x10_1).f4), .int .i64 ((rd_T92 l0 x10_1).f5), .int .i64 ((rd_T92 l0 x10_1).f6), .int .i64 ((rd_T92 l0 x10_1).f7), .int .i64 ((rd_T92 l0 x10_1).f8)]] (by rfl) rfl rfl Zo ?_
         with_reducible refine (impl_IsArticle.calls k1 ((rd_T92 l0 x10_1).f0) ((rd_T92 l0 x10_1).f1) ((rd_T92 l0 x10_1).f2) ((rd_T92 l0 x10_1).f3) ((rd_T92 l0 x10_1).f4) ((rd_T92 l0 x10_1).f5) ((rd_T92 l0 x10_1).f6) ((rd_T92 l0 x10_1).f7) ((rd_T92 l0 x10_1).f8) true _ A6.out).mono ?_
         rintro e w27 ⟨rfl, hb⟩
         refine ⟨_, rfl, ?_⟩
         have n0_ := Aside0.mk (blk_below (g := gb301) (o := .cells #[.string ((rd_T92 l0 x10_1).f0), .int .i64 ((rd_T92 l0 x10_1).f1), .int .i64 ((rd_T92 l0 x10_1).f2), .int .i64 ((rd_T92 l0 x10_1).f3), .int .i64 ((rd_T92 l0 x10_1).f4), .int .i64 ((rd_T92 l0 x10_1).f5), .int .i64 ((rd_T92 l0 x10_1).f6), .int .i64 ((rd_T92 l0 x10_1).f7), .int .i64 ((rd_T92 l0 x10_1).f8)] 92 (0, 0)) (have z0_ := BK301; Ze) hb)
         have n1_ := Aside0.mk (below_step (have z0_ := GE301; Zf) hb)
         clear BK301
         clear HB
         have BK301 := n0_
         have HB := n1_
         clear n0_ n1_
         (try clear hb)
         (try clear hb2)
         (try clear hk)
         (try clear hi)
         refine hK.out _ _ ⟨(blk_cell BK301.out 0).trans rfl, (blk_cell BK301.out 1).trans rfl, (blk_cell BK301.out 2).trans rfl, (blk_cell BK301.out 3).trans rfl, (blk_cell BK301.out 4).trans rfl, (blk_cell BK301.out 5).trans rfl, (blk_cell BK301.out 6).trans rfl, (blk_cell BK301.out 7).trans rfl, (blk_cell BK301.out 8).trans rfl⟩ (fun hHeld => ?_)
         clear hK K
         refine norm_ (a' := ?_) ?_ ?_
         rotate_left
         ·show Act.put _ (some 16) _ = _
          simp only [Act.put, List.setIfInBounds_toArray, List.set_cons_zero, List.set_cons_succ, i64_w, i32_w]
          rfl
         refine pureZ HT_ 2 (some 17) (bT 18 3) ?_
         refine pureZ HT_ 3 (some 18) (bT 18 4) ?_
         refine pureZ HT_ 4 (some 19) (bT 18 5) ?_
         refine pureZ HT_ 5 (some 20) (bT 18 6) ?_
         refine pureZ HT_ 6 (some 21) (bT 18 7) ?_
         refine pure_ (i := 7) (N := some 22) (v := undef) (a' := ?_) (bT 18 8) rfl rfl (any_of HT_.out Zj) (fun _ _ _ h => h) (Or.inr ⟨by rfl, rfl⟩) ?_ ?_
         rotate_left
         ·exact Zput
         refine pure_ (i := 8) (N := some 23) (v := undef) (a' := ?_) (bT 18 9) rfl rfl (any_of HT_.out Zj) (fun _ _ _ h => h) (Or.inr ⟨by rfl, rfl⟩) ?_ ?_
         rotate_left
         ·exact Zput
         refine pure_ (i := 9) (N := some 24) (v := undef) (a' := ?_) (bT 18 10) rfl rfl (any_of HT_.out Zj) (fun _ _ _ h => h) (Or.inr ⟨by rfl, rfl⟩) ?_ ?_
         rotate_left
         ·exact Zput
         refine pure_ (i := 10) (N := some 25) (v := undef) (a' := ?_) (bT 18 11) rfl rfl (any_of HT_.out Zj) (fun _ _ _ h => h) (Or.inr ⟨by rfl, rfl⟩) ?_ ?_
         rotate_left
         ·exact Zput
         refine pure_ (i := 11) (N := some 26) (v := undef) (a' := ?_) (bT 18 12) rfl rfl (any_of HT_.out Zj) (fun _ _ _ h => h) (Or.inr ⟨by rfl, rfl⟩) ?_ ?_
         rotate_left
         ·exact Zput
         refine pure_ (i := 12) (N := some 27) (v := undef) (a' := ?_) (bT 18 13) rfl rfl (any_of HT_.out Zj) (fun _ _ _ h => h) (Or.inr ⟨by rfl, rfl⟩) ?_ ?_
         rotate_left
         ·exact Zput
         refine pure_ (i := 13) (N := some 28) (v := undef) (a' := ?_) (bT 18 14) rfl rfl (any_of HT_.out Zj) (fun _ _ _ h => h) (Or.inr ⟨by rfl, rfl⟩) ?_ ?_
         rotate_left
         ·exact Zput
         refine pure_ (i := 14) (N := some 29) (v := undef) (a' := ?_) (bT 18 15) rfl rfl (any_of HT_.out Zj) (fun _ _ _ h => h) (Or.inr ⟨by rfl, rfl⟩) ?_ ?_
         rotate_left
         ·exact Zput
         refine pure_ (i := 15) (N := some 30) (v := undef) (a' := ?_) (bT 18 16) rfl rfl (any_of HT_.out Zj) (fun _ _ _ h => h) (Or.inr ⟨by rfl, rfl⟩) ?_ ?_
         rotate_left
         ·exact Zput
         refine pureZ HT_ 16 (some 31) (bT 18 17) ?_
         refine pureZ HT_ 17 (some 32) (bT 18 18) ?_
         refine done_ (done_of HT_.out Zj) ?_
         try go_wp2
         go_roundg k1
         case measure => have := HK1.out; omega
         case rel => exact ⟨(wrap64 (x10_1 + 1)), Za, H', ⟨Zt⟩, ⟨(have z0_ := GE301; Zf)⟩⟩
       ·replace c7 := Bool.eq_false_iff.mpr c7
        subst c7
        have H1 : (some false) = some r := by rw [if_neg (show ¬ (false = true) by decide)] at H; exact H
        clear H
        have H := H1
        clear H1
        obtain rfl := Option.some.inj H
        have p300 : 0 ≤ (x10_1 : Int) := of_decide_eq_true Zp
        have q300 : x10_1 < (l0.length : Int) := of_decide_eq_true Zp
        obtain ⟨ad300, e300, hx300_0, hx300_1, hx300_2, hx300_3, hx300_4, hx300_5, hx300_6, hx300_7, hx300_8⟩ := at_T92 HR0.out x10_1 p300 q300
        cases e300
        replace hx300_0 := cbH HB hx300_0
        replace hx300_1 := cbH HB hx300_1
        replace hx300_2 := cbH HB hx300_2
        replace hx300_3 := cbH HB hx300_3
        replace hx300_4 := cbH HB hx300_4
        replace hx300_5 := cbH HB hx300_5
        replace hx300_6 := cbH HB hx300_6
        replace hx300_7 := cbH HB hx300_7
        replace hx300_8 := cbH HB hx300_8
        replace p300 := eq_true p300
        replace q300 := eq_true q300
        try go_wp2_with (first | ((with_reducible refine gate_dst (N := 4) rfl ?_); refine boxZ 4 #[.string (⟨#[]⟩ : ByteArray), .int .i64 0, .int .i64 0, .int .i64 0, .int .i64 0, .int .i64 0, .int .i64 0, .int .i64 0, .int .i64 0] 92 ?_; intro gb301 hg w28 hbox hb; have n0_ := Aside0.mk (below_step Zc hb); have n1_ := Aside0.mk (hbox); have n2_ := Aside0.mk ((Zd : w.heap.size ≤ gb301)); have n3_ := Aside0.mk ((Zd : w.heap.size ≤ gb301)); clear HB; have HB := n0_; have BK301 := n1_; have GW301 := n2_; have GE301 := n3_; clear n0_ n1_ n2_ n3_; clear hb hbox hg; obtain ⟨hcz29_0, hcz29_1, hcz29_2, hcz29_3, hcz29_4, hcz29_5, hcz29_6, hcz29_7, hcz29_8, hfz29_0, hfz29_1, hfz29_2, hfz29_3, hfz29_4, hfz29_5, hfz29_6, hfz29_7, hfz29_8⟩ := cz9 BK301))
        have n0_ : Aside0 ((((((((((w28.setCell ⟨gb301, 0, none⟩ (.string ((rd_T92 l0 x10_1).f0))).setCell ⟨gb301, 1, none⟩ (.int .i64 ((rd_T92 l0 x10_1).f1))).setCell ⟨gb301, 2, none⟩ (.int .i64 ((rd_T92 l0 x10_1).f2))).setCell ⟨gb301, 3, none⟩ (.int .i64 ((rd_T92 l0 x10_1).f3))).setCell ⟨gb301, 4, none⟩ (.int .i64 ((rd_T92 l0 x10_1).f4))).setCell ⟨gb301, 5, none⟩ (.int .i64 ((rd_T92 l0 x10_1).f5))).setCell ⟨gb301, 6, none⟩ (.int .i64 ((rd_T92 l0 x10_1).f6))).setCell ⟨gb301, 7, none⟩ (.int .i64 ((rd_T92 l0 x10_1).f7))).setCell ⟨gb301, 8, none⟩ (.int .i64 ((rd_T92 l0 x10_1).f8))).heap[gb301]? = some (.cells #[.string ((rd_T92 l0 x10_1).f0), .int .i64 ((rd_T92 l0 x10_1).f1), .int .i64 ((rd_T92 l0 x10_1).f2), .int .i64 ((rd_T92 l0 x10_1).f3), .int .i64 ((rd_T92 l0 x10_1).f4), .int .i64 ((rd_T92 l0 x10_1).f5), .int .i64 ((rd_T92 l0 x10_1).f6), .int .i64 ((rd_T92 l0 x10_1).f7), .int .i64 ((rd_T92 l0 x10_1).f8)] 92 (0, 0))) := ⟨(have z0_ := BK301; Zbf)⟩
        have n1_ : Aside0 (Below w.heap.size w (((((((((w28.setCell ⟨gb301, 0, none⟩ (.string ((rd_T92 l0 x10_1).f0))).setCell ⟨gb301, 1, none⟩ (.int .i64 ((rd_T92 l0 x10_1).f1))).setCell ⟨gb301, 2, none⟩ (.int .i64 ((rd_T92 l0 x10_1).f2))).setCell ⟨gb301, 3, none⟩ (.int .i64 ((rd_T92 l0 x10_1).f3))).setCell ⟨gb301, 4, none⟩ (.int .i64 ((rd_T92 l0 x10_1).f4))).setCell ⟨gb301, 5, none⟩ (.int .i64 ((rd_T92 l0 x10_1).f5))).setCell ⟨gb301, 6, none⟩ (.int .i64 ((rd_T92 l0 x10_1).f6))).setCell ⟨gb301, 7, none⟩ (.int .i64 ((rd_T92 l0 x10_1).f7))).setCell ⟨gb301, 8, none⟩ (.int .i64 ((rd_T92 l0 x10_1).f8)))) := ⟨(have z0_ := GE301; Zf)⟩
        (try clear BK301)
        (try clear HB)
        generalize (((((((((w28.setCell ⟨gb301, 0, none⟩ (.string ((rd_T92 l0 x10_1).f0))).setCell ⟨gb301, 1, none⟩ (.int .i64 ((rd_T92 l0 x10_1).f1))).setCell ⟨gb301, 2, none⟩ (.int .i64 ((rd_T92 l0 x10_1).f2))).setCell ⟨gb301, 3, none⟩ (.int .i64 ((rd_T92 l0 x10_1).f3))).setCell ⟨gb301, 4, none⟩ (.int .i64 ((rd_T92 l0 x10_1).f4))).setCell ⟨gb301, 5, none⟩ (.int .i64 ((rd_T92 l0 x10_1).f5))).setCell ⟨gb301, 6, none⟩ (.int .i64 ((rd_T92 l0 x10_1).f6))).setCell ⟨gb301, 7, none⟩ (.int .i64 ((rd_T92 l0 x10_1).f7))).setCell ⟨gb301, 8, none⟩ (.int .i64 ((rd_T92 l0 x10_1).f8))) = w30 at n0_ n1_ ⊢
        have BK301 := n0_
        have HB := n1_
        clear n0_ n1_
        have n0_ := Aside0.mk (blk_drew BK301.out)
        have n1_ := Aside0.mk (below_drew1 HB.out)
        clear BK301
        clear HB
        have BK301 := n0_
        have HB := n1_
        clear n0_ n1_
        refine start_ (n := 18) (S := fun w' => w'.cell? ⟨gb301, 0, none⟩ = some (.string ((rd_T92 l0 x10_1).f0)) ∧ w'.cell? ⟨gb301, 1, none⟩ = some (.int .i64 ((rd_T92 l0 x10_1).f1)) ∧ w'.cell? ⟨gb301, 2, none⟩ = some (.int .i64 ((rd_T92 l0 x10_1).f2)) ∧ w'.cell? ⟨gb301, 3, none⟩ = some (.int .i64 ((rd_T92 l0 x10_1).f3)) ∧ w'.cell? ⟨gb301, 4, none⟩ = some (.int .i64 ((rd_T92 l0 x10_1).f4)) ∧ w'.cell? ⟨gb301, 5, none⟩ = some (.int .i64 ((rd_T92 l0 x10_1).f5)) ∧ w'.cell? ⟨gb301, 6, none⟩ = some (.int .i64 ((rd_T92 l0 x10_1).f6)) ∧ w'.cell? ⟨gb301, 7, none⟩ = some (.int .i64 ((rd_T92 l0 x10_1).f7)) ∧ w'.cell? ⟨gb301, 8, none⟩ = some (.int .i64 ((rd_T92 l0 x10_1).f8))) (ds := []) (bT 18 0) Zj rfl rfl ⟨(blk_cell BK301.out 0).trans rfl, (blk_cell BK301.out 1).trans rfl, (blk_cell BK301.out 2).trans rfl, (blk_cell BK301.out 3).trans rfl, (blk_cell BK301.out 4).trans rfl, (blk_cell BK301.out 5).trans rfl, (blk_cell BK301.out 6).trans rfl, (blk_cell BK301.out 7).trans rfl, (blk_cell BK301.out 8).trans rfl⟩ (fun hHeld => ?_); refine with_tabW impl_AreArticles.tab6 impl_AreArticles.bits6 (fun HT_ HW_ => ?_)
        generalize w30.drew = w31 at BK301 HB hHeld ⊢
        refine take_ (i := 0) (N := some 15) (v := ?_) (a' := ?_) (bT 18 1) rfl rfl (take_ofW HT_.out HW_.out Zj) (fun _ _ _ h => h) (Or.inl ⟨by rfl, ?_⟩) hHeld ?_ ?_
        rotate_left
        ·rintro w' ⟨s0, s1, s2, s3, s4, s5, s6, s7, s8⟩
         go_simp
         with_reducible rfl
        rotate_left
        ·exact Zput
        refine one_ (i := 1) (N := some 16) (bT 18 2) rfl rfl (one_of HT_.out Zj) (by decide) (fun K hK => ?_)
        refine goes_ Try.func129 Zj rfl #[.agg #[.string ((rd_T92 l0 x10_1).f0), .int .i64 ((rd_T92 l0 x10_1).f1), .int .i64 ((rd_T92 l0 x10_1).f2), .int .i64 ((rd_T92 l0 x10_1).f3), .int .i64 ((rd_T92 l0 x10_1).f4), .int .i64 ((rd_T92 l0 x10_1).f5), .int .i64 ((rd_T92 l0 x10_1).f6), .int .i64 ((rd_T92 l0 x10_1).f7), .int .i64 ((rd_T92 l0 x10_1).f8)]] (by rfl) rfl rfl Zo ?_
        with_reducible refine (impl_IsArticle.calls k1 ((rd_T92 l0 x10_1).f0) ((rd_T92 l0 x10_1).f1) ((rd_T92 l0 x10_1).f2) ((rd_T92 l0 x10_1).f3) ((rd_T92 l0 x10_1).f4) ((rd_T92 l0 x10_1).f5) ((rd_T92 l0 x10_1).f6) ((rd_T92 l0 x10_1).f7) ((rd_T92 l0 x10_1).f8) false _ A6.out).mono ?_
        rintro e w32 ⟨rfl, hb⟩
        refine ⟨_, rfl, ?_⟩
        have n0_ := Aside0.mk (blk_below (g := gb301) (o := .cells #[.string ((rd_T92 l0 x10_1).f0), .int .i64 ((rd_T92 l0 x10_1).f1), .int .i64 ((rd_T92 l0 x10_1).f2), .int .i64 ((rd_T92 l0 x10_1).f3), .int .i64 ((rd_T92 l0 x10_1).f4), .int .i64 ((rd_T92 l0 x10_1).f5), .int .i64 ((rd_T92 l0 x10_1).f6), .int .i64 ((rd_T92 l0 x10_1).f7), .int .i64 ((rd_T92 l0 x10_1).f8)] 92 (0, 0)) (have z0_ := BK301; Ze) hb)
        have n1_ := Aside0.mk (below_step (have z0_ := GE301; Zf) hb)
        clear BK301
        clear HB
        have BK301 := n0_
        have HB := n1_
        clear n0_ n1_
        (try clear hb)
        (try clear hb2)
        (try clear hk)
        (try clear hi)
        refine hK.out _ _ ⟨(blk_cell BK301.out 0).trans rfl, (blk_cell BK301.out 1).trans rfl, (blk_cell BK301.out 2).trans rfl, (blk_cell BK301.out 3).trans rfl, (blk_cell BK301.out 4).trans rfl, (blk_cell BK301.out 5).trans rfl, (blk_cell BK301.out 6).trans rfl, (blk_cell BK301.out 7).trans rfl, (blk_cell BK301.out 8).trans rfl⟩ (fun hHeld => ?_)
        clear hK K
        refine norm_ (a' := ?_) ?_ ?_
        rotate_left
        ·show Act.put _ (some 16) _ = _
         simp only [Act.put, List.setIfInBounds_toArray, List.set_cons_zero, List.set_cons_succ, i64_w, i32_w]
         rfl
        refine pureZ HT_ 2 (some 17) (bT 18 3) ?_
        refine pureZ HT_ 3 (some 18) (bT 18 4) ?_
        refine pure_ (i := 4) (N := some 19) (v := undef) (a' := ?_) (bT 18 5) rfl rfl (any_of HT_.out Zj) (fun _ _ _ h => h) (Or.inr ⟨by rfl, rfl⟩) ?_ ?_
        rotate_left
        ·exact Zput
        refine pure_ (i := 5) (N := some 20) (v := undef) (a' := ?_) (bT 18 6) rfl rfl (any_of HT_.out Zj) (fun _ _ _ h => h) (Or.inr ⟨by rfl, rfl⟩) ?_ ?_
        rotate_left
        ·exact Zput
        refine pure_ (i := 6) (N := some 21) (v := undef) (a' := ?_) (bT 18 7) rfl rfl (any_of HT_.out Zj) (fun _ _ _ h => h) (Or.inr ⟨by rfl, rfl⟩) ?_ ?_
        rotate_left
        ·exact Zput
        refine pure_ (i := 7) (N := some 22) (v := undef) (a' := ?_) (bT 18 8) rfl rfl (any_of HT_.out Zj) (fun _ _ _ h => h) (Or.inr ⟨by rfl, rfl⟩) ?_ ?_
        rotate_left
        ·exact Zput
        refine pure_ (i := 8) (N := some 23) (v := undef) (a' := ?_) (bT 18 9) rfl rfl (any_of HT_.out Zj) (fun _ _ _ h => h) (Or.inr ⟨by rfl, rfl⟩) ?_ ?_
        rotate_left
        ·exact Zput
        refine pure_ (i := 9) (N := some 24) (v := undef) (a' := ?_) (bT 18 10) rfl rfl (any_of HT_.out Zj) (fun _ _ _ h => h) (Or.inr ⟨by rfl, rfl⟩) ?_ ?_
        rotate_left
        ·exact Zput
        refine pure_ (i := 10) (N := some 25) (v := undef) (a' := ?_) (bT 18 11) rfl rfl (any_of HT_.out Zj) (fun _ _ _ h => h) (Or.inr ⟨by rfl, rfl⟩) ?_ ?_
        rotate_left
        ·exact Zput
        refine pure_ (i := 11) (N := some 26) (v := undef) (a' := ?_) (bT 18 12) rfl rfl (any_of HT_.out Zj) (fun _ _ _ h => h) (Or.inr ⟨by rfl, rfl⟩) ?_ ?_
        rotate_left
        ·exact Zput
        refine pure_ (i := 12) (N := some 27) (v := undef) (a' := ?_) (bT 18 13) rfl rfl (any_of HT_.out Zj) (fun _ _ _ h => h) (Or.inr ⟨by rfl, rfl⟩) ?_ ?_
        rotate_left
        ·exact Zput
        refine pure_ (i := 13) (N := some 28) (v := undef) (a' := ?_) (bT 18 14) rfl rfl (any_of HT_.out Zj) (fun _ _ _ h => h) (Or.inr ⟨by rfl, rfl⟩) ?_ ?_
        rotate_left
        ·exact Zput
        refine pure_ (i := 14) (N := some 29) (v := undef) (a' := ?_) (bT 18 15) rfl rfl (any_of HT_.out Zj) (fun _ _ _ h => h) (Or.inr ⟨by rfl, rfl⟩) ?_ ?_
        rotate_left
        ·exact Zput
        refine pure_ (i := 15) (N := some 30) (v := undef) (a' := ?_) (bT 18 16) rfl rfl (any_of HT_.out Zj) (fun _ _ _ h => h) (Or.inr ⟨by rfl, rfl⟩) ?_ ?_
        rotate_left
        ·exact Zput
        refine pure_ (i := 16) (N := some 31) (v := undef) (a' := ?_) (bT 18 17) rfl rfl (any_of HT_.out Zj) (fun _ _ _ h => h) (Or.inr ⟨by rfl, rfl⟩) ?_ ?_
        rotate_left
        ·exact Zput
        refine pureZ HT_ 17 (some 32) (bT 18 18) ?_
        refine done_ (done_of HT_.out Zj) ?_
        try go_wp2
        go_ret
        exact ⟨Zk, (have z0_ := GE301; Zf)⟩
      ·rw [if_neg c5] at H
       exact absurd H (by simp)
     ·rw [if_neg c4] at H
      exact absurd H (by simp)
    ·rw [if_neg c3] at H
     have c3b0 := decide_eq_false c3
     clear c3
     obtain rfl := Option.some.inj H
     go_wp2
     go_ret
     exact ⟨Zk, Zc⟩
def impl_articleOf.l0 : Nat → ByteArray → List (S92) → Int → Int → Option (Int)
 | 0, _, _, _, _ => none
 | k + 1, x1, x7, x8, x9 => if x9 < x8 then (if 0 ≤ x9 then (if x9 < (x7.length : Int) then (if ((rd_T92 x7 x9).f0).toList = x1.toList then (some x9) else (impl_articleOf.l0 k x1 x7 x8 (wrap64 (x9 + 1)))) else (none)) else (none)) else (some (-1))
def impl_articleOf.f (k : Nat) (l0 : List (S92)) (a1 : ByteArray) : Option (Int) := impl_articleOf.l0 k a1 l0 (l0.length : Int) 0
set_option maxHeartbeats 8000000 in
set_option maxRecDepth 100000 in
theorem impl_articleOf.calls (k : Nat) (A0 : Option Addr) (c0 : Nat) (l0 : List (S92)) (a1 : ByteArray) (r : Int) (w : World) (hr0 : Kd.C k92 w A0 l0.length l0) (hc0 : l0.length ≤ c0) (h : impl_articleOf.f k l0 a1 = some r) :
  Calls Try.prog 113 #[.slice A0 l0.length c0, .string a1] w fun e w' => e = .returned (.int .i64 r) ∧ Below w.heap.size w w' := by
 have hu92 := Try.underlying92
 have HR0 := Aside0.mk hr0
 have HC0 := Aside0.mk hc0
 clear hr0 hc0
 have HB := Aside0.mk (Below.refl w.heap.size w)
 have H : (impl_articleOf.l0 k a1 l0 (l0.length : Int) 0) = some r := h
 clear h
 have H' := Aside0.mk H
 clear H
 go_enter Try.func113, Try.ntmps113
 go_wp2
 go_loopg [9] k (fun kq v9 w' => ∃ (x9_1 : Int), v9 = .int .i64 x9_1 ∧ Aside0 (impl_articleOf.l0 kq a1 l0 (l0.length : Int) x9_1 = some r) ∧ Aside0 (kq ≤ k) ∧ Aside0 (Below w.heap.size w w'))
 case atStart => exact ⟨(0), Za, H', ⟨Nat.le_refl _⟩, ⟨Zc⟩⟩
 case round =>
  clear H'
  try clear c1
  try clear p2
  obtain ⟨x9_1, rfl, HA, HK1, HB⟩ := hrel
  cases gk with
  | zero => exact absurd HA.out (by simp [impl_articleOf.l0])
  | succ k1 =>
   have H := HA.out
   clear HA
   simp only [impl_articleOf.l0] at H
   by_cases c3 : x9_1 < (l0.length : Int)
   ·rw [if_pos c3] at H
    have c3b0 := decide_eq_true c3
    clear c3
    by_cases c4 : 0 ≤ x9_1
    ·rw [if_pos c4] at H
     have c4b0 := decide_eq_true c4
     clear c4
     by_cases c5 : x9_1 < (l0.length : Int)
     ·rw [if_pos c5] at H
      have c5b0 := decide_eq_true c5
      clear c5
      by_cases c6 : ((rd_T92 l0 x9_1).f0).toList = a1.toList
      ·rw [if_pos c6] at H
       have c6b0 : (((rd_T92 l0 x9_1).f0).toList == a1.toList) = true := beq_iff_eq.mpr c6
       have c6b1 : (((rd_T92 l0 x9_1).f0).toList != a1.toList) = false := bne_eq_false_iff_eq.mpr c6
       clear c6
       obtain rfl := Option.some.inj H
       have p304 : 0 ≤ (x9_1 : Int) := of_decide_eq_true Zp
       have q304 : x9_1 < (l0.length : Int) := of_decide_eq_true Zp
       obtain ⟨ad304, e304, hx304_0, hx304_1, hx304_2, hx304_3, hx304_4, hx304_5, hx304_6, hx304_7, hx304_8⟩ := at_T92 HR0.out x9_1 p304 q304
       cases e304
       replace hx304_0 := cbH HB hx304_0
       replace hx304_1 := cbH HB hx304_1
       replace hx304_2 := cbH HB hx304_2
       replace hx304_3 := cbH HB hx304_3
       replace hx304_4 := cbH HB hx304_4
       replace hx304_5 := cbH HB hx304_5
       replace hx304_6 := cbH HB hx304_6
       replace hx304_7 := cbH HB hx304_7
       replace hx304_8 := cbH HB hx304_8
       replace p304 := eq_true p304
       replace q304 := eq_true q304
       go_wp2_with (first | ((with_reducible refine gate_dst (N := 6) rfl ?_); refine boxZ 6 #[.string (⟨#[]⟩ : ByteArray), .int .i64 0, .int .i64 0, .int .i64 0, .int .i64 0, .int .i64 0, .int .i64 0, .int .i64 0, .int .i64 0] 92 ?_; intro gb305 hg w7 hbox hb; have n0_ := Aside0.mk (below_step Zc hb); have n1_ := Aside0.mk (hbox); have n2_ := Aside0.mk ((Zd : w.heap.size ≤ gb305)); have n3_ := Aside0.mk ((Zd : w.heap.size ≤ gb305)); clear HB; have HB := n0_; have BK305 := n1_; have GW305 := n2_; have GE305 := n3_; clear n0_ n1_ n2_ n3_; clear hb hbox hg; obtain ⟨hcz8_0, hcz8_1, hcz8_2, hcz8_3, hcz8_4, hcz8_5, hcz8_6, hcz8_7, hcz8_8, hfz8_0, hfz8_1, hfz8_2, hfz8_3, hfz8_4, hfz8_5, hfz8_6, hfz8_7, hfz8_8⟩ := cz9 BK305))
       go_ret
       exact ⟨Zk, (have z0_ := GE305; Zf)⟩
      ·rw [if_neg c6] at H
       have c6b0 : (((rd_T92 l0 x9_1).f0).toList == a1.toList) = false := beq_eq_false_iff_ne.mpr c6
       have c6b1 : (((rd_T92 l0 x9_1).f0).toList != a1.toList) = true := bne_iff_ne.mpr c6
       have H' := Aside0.mk H
       clear H
       have p304 : 0 ≤ (x9_1 : Int) := of_decide_eq_true Zp
       have q304 : x9_1 < (l0.length : Int) := of_decide_eq_true Zp
       obtain ⟨ad304, e304, hx304_0, hx304_1, hx304_2, hx304_3, hx304_4, hx304_5, hx304_6, hx304_7, hx304_8⟩ := at_T92 HR0.out x9_1 p304 q304
       cases e304
       replace hx304_0 := cbH HB hx304_0
       replace hx304_1 := cbH HB hx304_1
       replace hx304_2 := cbH HB hx304_2
       replace hx304_3 := cbH HB hx304_3
       replace hx304_4 := cbH HB hx304_4
       replace hx304_5 := cbH HB hx304_5
       replace hx304_6 := cbH HB hx304_6
       replace hx304_7 := cbH HB hx304_7
       replace hx304_8 := cbH HB hx304_8
       replace p304 := eq_true p304
       replace q304 := eq_true q304
       go_wp2_with (first | ((with_reducible refine gate_dst (N := 6) rfl ?_); refine boxZ 6 #[.string (⟨#[]⟩ : ByteArray), .int .i64 0, .int .i64 0, .int .i64 0, .int .i64 0, .int .i64 0, .int .i64 0, .int .i64 0, .int .i64 0] 92 ?_; intro gb305 hg w9 hbox hb; have n0_ := Aside0.mk (below_step Zc hb); have n1_ := Aside0.mk (hbox); have n2_ := Aside0.mk ((Zd : w.heap.size ≤ gb305)); have n3_ := Aside0.mk ((Zd : w.heap.size ≤ gb305)); clear HB; have HB := n0_; have BK305 := n1_; have GW305 := n2_; have GE305 := n3_; clear n0_ n1_ n2_ n3_; clear hb hbox hg; obtain ⟨hcz10_0, hcz10_1, hcz10_2, hcz10_3, hcz10_4, hcz10_5, hcz10_6, hcz10_7, hcz10_8, hfz10_0, hfz10_1, hfz10_2, hfz10_3, hfz10_4, hfz10_5, hfz10_6, hfz10_7, hfz10_8⟩ := cz9 BK305))
       go_roundg k1
       case measure => have := HK1.out; omega
       case rel => exact ⟨(wrap64 (x9_1 + 1)), Za, H', ⟨Zt⟩, ⟨(have z0_ := GE305; Zf)⟩⟩
     ·rw [if_neg c5] at H
      exact absurd H (by simp)
    ·rw [if_neg c4] at H
     exact absurd H (by simp)
   ·rw [if_neg c3] at H
    have c3b0 := decide_eq_false c3
    clear c3
    obtain rfl := Option.some.inj H
    go_wp2
    go_ret
    exact ⟨Zk, Zc⟩
def impl_isIndex.f (a0 : Int) (a1 : Int) : Option (Bool) := (impl_within.f a0 0 (wrap64 (a1 - 1))).bind fun t306 => (some t306)
set_option maxHeartbeats 8000000 in
set_option maxRecDepth 100000 in
theorem impl_isIndex.calls (a0 : Int) (a1 : Int) (r : Bool) (w : World) (h : impl_isIndex.f a0 a1 = some r) :
  Calls Try.prog 73 #[.int .i64 a0, .int .i64 a1] w fun e w' => e = .returned (.bool r) ∧ Drawn0 w w' := by
 have H : ((impl_within.f a0 0 (wrap64 (a1 - 1))).bind fun t306 => (some t306)) = some r := h
 clear h
 replace H := Option.bind_eq_some_iff.mp H
 obtain ⟨t306, A30, H⟩ := H
 have A3 := Aside0.mk A30
 clear A30
 obtain rfl := Option.some.inj H
 go_enter Try.func73, Try.ntmps73
 go_wp2_with (first | ((with_reducible refine gate_callee (f := 89) rfl ?_); refine goesL_ (some 8) rfl rfl Try.func89 Zj rfl #[.int .i64 a0, .int .i64 0, .int .i64 (wrap64 (a1 - 1))] rfl Zo ?_; (with_reducible refine (impl_within.calls a0 0 (wrap64 (a1 - 1)) t306 _ A3.out).mono ?_); rintro e w' ⟨rfl, ⟨nd, rfl⟩⟩; refine ⟨_, rfl, ?_⟩))
 go_ret
 exact ⟨Za, Zb⟩
def impl_isBeat.f (l0 : List (S108)) (a1 : Int) (a2 : Int) : Option (Bool) := (impl_isIndex.f a1 (l0.length : Int)).bind fun t307 => (if t307 = true then (if 0 ≤ a1 then (if a1 < (l0.length : Int) then ((impl_within.f a2 0 (wrap64 (((rd_T108 l0 a1).f0) - 1))).bind fun t309 => (some t309)) else (none)) else (none)) else (some false))
set_option maxHeartbeats 8000000 in
set_option maxRecDepth 100000 in
theorem impl_isBeat.calls (A0 : Option Addr) (c0 : Nat) (l0 : List (S108)) (a1 : Int) (a2 : Int) (r : Bool) (w : World) (hr0 : Kd.C k108 w A0 l0.length l0) (hc0 : l0.length ≤ c0) (h : impl_isBeat.f l0 a1 a2 = some r) :
  Calls Try.prog 130 #[.slice A0 l0.length c0, .int .i64 a1, .int .i64 a2] w fun e w' => e = .returned (.bool r) ∧ Drawn0 w w' := by
 have HR0 := Aside0.mk hr0
 have HC0 := Aside0.mk hc0
 clear hr0 hc0
 have H : ((impl_isIndex.f a1 (l0.length : Int)).bind fun t307 => (if t307 = true then (if 0 ≤ a1 then (if a1 < (l0.length : Int) then ((impl_within.f a2 0 (wrap64 (((rd_T108 l0 a1).f0) - 1))).bind fun t309 => (some t309)) else (none)) else (none)) else (some false))) = some r := h
 clear h
 replace H := Option.bind_eq_some_iff.mp H
 obtain ⟨t307, A40, H⟩ := H
 have A4 := Aside0.mk A40
 clear A40
 by_cases c5 : t307 = true
 ·subst c5
  have H1 : (if 0 ≤ a1 then (if a1 < (l0.length : Int) then ((impl_within.f a2 0 (wrap64 (((rd_T108 l0 a1).f0) - 1))).bind fun t309 => (some t309)) else (none)) else (none)) = some r := by rw [if_pos rfl] at H; exact H
  clear H
  have H := H1
  clear H1
  by_cases c6 : 0 ≤ a1
  ·rw [if_pos c6] at H
   have c6b0 := decide_eq_true c6
   clear c6
   by_cases c7 : a1 < (l0.length : Int)
   ·rw [if_pos c7] at H
    have c7b0 := decide_eq_true c7
    clear c7
    replace H := Option.bind_eq_some_iff.mp H
    obtain ⟨t309, A80, H⟩ := H
    have A8 := Aside0.mk A80
    clear A80
    obtain rfl := Option.some.inj H
    go_enter Try.func130, Try.ntmps130
    go_wp2_with (first | ((with_reducible refine gate_callee (f := 73) rfl ?_); refine goesL_ (some 10) rfl rfl Try.func73 Zj rfl #[.int .i64 a1, .int .i64 (l0.length : Int)] rfl Zo ?_; (with_reducible refine (impl_isIndex.calls a1 (l0.length : Int) true _ A4.out).mono ?_); rintro e w' ⟨rfl, ⟨nd, rfl⟩⟩; refine ⟨_, rfl, ?_⟩; have p308 : 0 ≤ (a1 : Int) := of_decide_eq_true Zp; have q308 : a1 < (l0.length : Int) := of_decide_eq_true Zp; obtain ⟨ad308, e308, hx308_0, hx308_1⟩ := at_T108 HR0.out a1 p308 q308; cases e308; replace p308 := eq_true p308; replace q308 := eq_true q308) | (go_at_call 89; (with_reducible refine (impl_within.calls a2 0 (wrap64 (((rd_T108 l0 a1).f0) - 1)) t309 _ A8.out).mono ?_); rintro e w' ⟨rfl, ⟨nd, rfl⟩⟩))
    go_ret
    exact ⟨Za, Zb⟩
   ·rw [if_neg c7] at H
    exact absurd H (by simp)
  ·rw [if_neg c6] at H
   exact absurd H (by simp)
 ·replace c5 := Bool.eq_false_iff.mpr c5
  subst c5
  have H1 : (some false) = some r := by rw [if_neg (show ¬ (false = true) by decide)] at H; exact H
  clear H
  have H := H1
  clear H1
  obtain rfl := Option.some.inj H
  go_enter Try.func130, Try.ntmps130
  go_wp2_with (first | ((with_reducible refine gate_callee (f := 73) rfl ?_); refine goesL_ (some 10) rfl rfl Try.func73 Zj rfl #[.int .i64 a1, .int .i64 (l0.length : Int)] rfl Zo ?_; (with_reducible refine (impl_isIndex.calls a1 (l0.length : Int) false _ A4.out).mono ?_); rintro e w' ⟨rfl, ⟨nd, rfl⟩⟩; refine ⟨_, rfl, ?_⟩))
  go_ret
  exact ⟨Za, Zb⟩
def impl_beatTime.l0 : Nat → List (S108) → Int → Int → Int → List (S108) → Int → Int → Option (Int)
 | 0, _, _, _, _, _, _, _ => none
 | k + 1, x0, x1, x2, x7, x12, x13, x14 => if x14 < x13 then (if 0 ≤ x14 then (if x14 < (x12.length : Int) then (impl_beatTime.l0 k x0 x1 x2 (wrap64 (x7 + (wrap64 (((rd_T108 x12 x14).f0) * ((rd_T108 x12 x14).f1))))) x12 x13 (wrap64 (x14 + 1))) else (none)) else (none)) else (if x2 > 0 then (if 0 ≤ x1 then (if x1 < (x0.length : Int) then (some (wrap64 (x7 + (wrap64 (x2 * ((rd_T108 x0 x1).f1)))))) else (none)) else (none)) else (some x7))
def impl_beatTime.f (k : Nat) (l0 : List (S108)) (a1 : Int) (a2 : Int) : Option (Int) := if 0 ≤ a1 then (if a1 ≤ (l0.length : Int) then ((some (l0.take (a1 : Int).toNat : List (S108))).bind fun y310 => (impl_beatTime.l0 k l0 a1 a2 0 y310 (y310.length : Int) 0)) else (none)) else (none)
set_option maxHeartbeats 8000000 in
set_option maxRecDepth 100000 in
theorem impl_beatTime.calls (k : Nat) (A0 : Option Addr) (c0 : Nat) (l0 : List (S108)) (a1 : Int) (a2 : Int) (r : Int) (w : World) (hr0 : Kd.C k108 w A0 l0.length l0) (hc0 : l0.length ≤ c0) (h : impl_beatTime.f k l0 a1 a2 = some r) :
  Calls Try.prog 131 #[.slice A0 l0.length c0, .int .i64 a1, .int .i64 a2] w fun e w' => e = .returned (.int .i64 r) ∧ Below w.heap.size w w' := by
 have hu108 := Try.underlying108
 have HR0 := Aside0.mk hr0
 have HC0 := Aside0.mk hc0
 clear hr0 hc0
 have HB := Aside0.mk (Below.refl w.heap.size w)
 have H : (if 0 ≤ a1 then (if a1 ≤ (l0.length : Int) then ((some (l0.take (a1 : Int).toNat : List (S108))).bind fun y310 => (impl_beatTime.l0 k l0 a1 a2 0 y310 (y310.length : Int) 0)) else (none)) else (none)) = some r := h
 clear h
 by_cases c4 : 0 ≤ a1
 ·rw [if_pos c4] at H
  have c4b0 := eq_true c4
  have c4b1 := decide_eq_true c4
  clear c4
  by_cases c5 : a1 ≤ (l0.length : Int)
  ·rw [if_pos c5] at H
   have c5b0 := eq_true c5
   have c5b1 := decide_eq_true c5
   clear c5
   obtain ⟨y310, hy310⟩ : ∃ y_ : List (S108), y_ = (l0.take (a1 : Int).toNat) := ⟨_, rfl⟩
   replace H : (impl_beatTime.l0 k l0 a1 a2 0 y310 (y310.length : Int) 0) = some r := by (try rw [hy310]); first | with_reducible exact H | with_reducible exact (Option.bind_some _ _).symm.trans H | exact H
   have Ny310 := Aside0.mk hy310
   clear hy310
   have H' := Aside0.mk H
   clear H
   have q6 : (a1 : Int) ≤ ((l0.length : Int) : Int) := of_decide_eq_true Zp
   obtain ⟨i06, hi06, _, hsz6, _⟩ := info_parts info108
   have hroom6 : l0.length ≤ c0 := HC0.out
   have hC6 : Kd.C k108 _ A0 l0.length l0 := HR0.out
   have hcut6 := cut_to (P := Try.prog) 28 108 .i64 Try.underlying28 hi06 A0 l0.length c0 a1 (of_decide_eq_true Zp) q6 hroom6
   have hr6 := Kd.C_take (m := (a1 : Int).toNat) hC6 (by omega)
   have hy6 : y310.length = (a1 : Int).toNat := (by rw [Ny310.out, List.length_take]; omega)
   rw [← Ny310.out] at hr6
   rw [← hy6] at hcut6
   have HR313 := Aside0.mk hr6
   have HC313 := Aside0.mk (show y310.length ≤ c0 from by omega)
   clear hr6 hC6 hroom6 hi06 hsz6
   have KY6 := Aside0.mk hy6
   clear hy6
   replace q6 := eq_true q6
   go_enter Try.func131, Try.ntmps131
   go_wp2
   go_loopg [7, 14] k (fun kq v7 v14 w' => ∃ (x7_1 : Int) (x14_1 : Int), v7 = .int .i64 x7_1 ∧ v14 = .int .i64 x14_1 ∧ Aside0 (impl_beatTime.l0 kq l0 a1 a2 x7_1 y310 (y310.length : Int) x14_1 = some r) ∧ Aside0 (kq ≤ k) ∧ Aside0 (Below w.heap.size w w'))
   case atStart => exact ⟨(0), (0), Za, Za, H', ⟨Nat.le_refl _⟩, ⟨Zc⟩⟩
   case round =>
    clear H'
    try clear c1
    try clear p2
    try clear c4
    try clear c4b0
    try clear c4b1
    try clear c5
    try clear c5b0
    try clear c5b1
    try clear q6
    try clear q6
    obtain ⟨x7_1, x14_1, rfl, rfl, HA, HK1, HB⟩ := hrel
    cases gk with
    | zero => exact absurd HA.out (by simp [impl_beatTime.l0])
    | succ k1 =>
     have H := HA.out
     clear HA
     simp only [impl_beatTime.l0] at H
     by_cases c7 : x14_1 < (y310.length : Int)
     ·rw [if_pos c7] at H
      have c7b0 := decide_eq_true c7
      clear c7
      by_cases c8 : 0 ≤ x14_1
      ·rw [if_pos c8] at H
       have c8b0 := decide_eq_true c8
       clear c8
       by_cases c9 : x14_1 < (y310.length : Int)
       ·rw [if_pos c9] at H
        have c9b0 := decide_eq_true c9
        clear c9
        have H' := Aside0.mk H
        clear H
        have p314 : 0 ≤ (x14_1 : Int) := of_decide_eq_true Zp
        have q314 : x14_1 < (y310.length : Int) := of_decide_eq_true Zp
        obtain ⟨ad314, e314, hx314_0, hx314_1⟩ := at_T108 HR313.out x14_1 p314 q314
        cases e314
        replace hx314_0 := cbH HB hx314_0
        replace hx314_1 := cbH HB hx314_1
        replace p314 := eq_true p314
        replace q314 := eq_true q314
        go_wp2_with (first | ((with_reducible refine gate_dst (N := 9) rfl ?_); refine boxZ 9 #[.int .i64 0, .int .i64 0] 108 ?_; intro gb315 hg w10 hbox hb; have n0_ := Aside0.mk (below_step Zc hb); have n1_ := Aside0.mk (hbox); have n2_ := Aside0.mk ((Zd : w.heap.size ≤ gb315)); have n3_ := Aside0.mk ((Zd : w.heap.size ≤ gb315)); clear HB; have HB := n0_; have BK315 := n1_; have GW315 := n2_; have GE315 := n3_; clear n0_ n1_ n2_ n3_; clear hb hbox hg; obtain ⟨hcz11_0, hcz11_1, hfz11_0, hfz11_1⟩ := cz2 BK315))
        go_roundg k1
        case measure => have := HK1.out; omega
        case rel => exact ⟨(wrap64 (x7_1 + (wrap64 (((rd_T108 y310 x14_1).f0) * ((rd_T108 y310 x14_1).f1))))), (wrap64 (x14_1 + 1)), Za, Za, H', ⟨Zt⟩, ⟨(have z0_ := GE315; Zf)⟩⟩
       ·rw [if_neg c9] at H
        exact absurd H (by simp)
      ·rw [if_neg c8] at H
       exact absurd H (by simp)
     ·rw [if_neg c7] at H
      have c7b0 := decide_eq_false c7
      clear c7
      by_cases c12 : a2 > 0
      ·rw [if_pos c12] at H
       have c12b0 : decide (0 < a2) = true := decide_eq_true c12
       clear c12
       by_cases c13 : 0 ≤ a1
       ·rw [if_pos c13] at H
        have c13b0 := decide_eq_true c13
        clear c13
        by_cases c14 : a1 < (l0.length : Int)
        ·rw [if_pos c14] at H
         have c14b0 := decide_eq_true c14
         clear c14
         obtain rfl := Option.some.inj H
         have p316 : 0 ≤ (a1 : Int) := of_decide_eq_true Zp
         have q316 : a1 < (l0.length : Int) := of_decide_eq_true Zp
         obtain ⟨ad316, e316, hx316_0, hx316_1⟩ := at_T108 HR0.out a1 p316 q316
         cases e316
         replace hx316_0 := cbH HB hx316_0
         replace hx316_1 := cbH HB hx316_1
         replace p316 := eq_true p316
         replace q316 := eq_true q316
         go_wp2
         go_ret
         exact ⟨Zk, Zc⟩
        ·rw [if_neg c14] at H
         exact absurd H (by simp)
       ·rw [if_neg c13] at H
        exact absurd H (by simp)
      ·rw [if_neg c12] at H
       have c12b0 : decide (0 < a2) = false := decide_eq_false c12
       clear c12
       obtain rfl := Option.some.inj H
       go_wp2
       go_ret
       exact ⟨Zk, Zc⟩
  ·rw [if_neg c5] at H
   exact absurd H (by simp)
 ·rw [if_neg c4] at H
  exact absurd H (by simp)
def impl_firedAt.f (k : Nat) (l0_0 : List (S108)) (l0_1 : List (S92)) (l0_2 : List (S43)) (a1_0 : Int) (a1_1 : Int) (a1_2 : ByteArray) (a1_3 : Int) : Option (Int) := (impl_articleOf.f k l0_1 a1_2).bind fun t319 => (if t319 < 0 then (some (-1)) else ((impl_isBeat.f l0_0 a1_0 a1_1).bind fun t320 => (if t320 = true then ((impl_beatTime.f k l0_0 a1_0 a1_1).bind fun t321 => (if 0 ≤ t319 then (if t319 < (l0_1.length : Int) then (some (mx (-1) (wrap64 (t321 - ((rd_T92 l0_1 t319).f3))))) else (none)) else (none))) else (some (-1)))))
def impl_firedAt.T4 : Bool × List (List Nat × List Nat) := (true, [([], []), ([0], [0]), ([], []), ([2], [2]), ([], []), ([4], [4]), ([1, 3, 5], [1, 3, 5]), ([], []), ([7], [7]), ([], []), ([8, 9], [8, 9]), ([10], [10]), ([11], [11]), ([6, 12], [6, 12]), ([13], [13]), ([14, 6, 0, 1, 2, 3, 4, 5, 6, 7, 8, 9, 10, 11, 12, 13, 14], [14])])
def impl_firedAt.B4 : List Nat := [0, 1, 0, 4, 0, 16, 63, 0, 128, 0, 896, 1920, 3968, 8191, 16383, 32767]
theorem impl_firedAt.tab4 : rtab .any (opsOf Try.f98 4) = impl_firedAt.T4 := by kernel_rfl
theorem impl_firedAt.bits4 : waitsOk impl_firedAt.T4.2 impl_firedAt.B4 = true := by kernel_rfl
set_option maxHeartbeats 8000000 in
set_option maxRecDepth 100000 in
theorem impl_firedAt.calls (k : Nat) (A0_0 : Option Addr) (c0_0 : Nat) (l0_0 : List (S108)) (A0_1 : Option Addr) (c0_1 : Nat) (l0_1 : List (S92)) (A0_2 : Option Addr) (c0_2 : Nat) (l0_2 : List (S43)) (a1_0 : Int) (a1_1 : Int) (a1_2 : ByteArray) (a1_3 : Int) (r : Int) (w : World) (hr0_0 : Kd.C k108 w A0_0 l0_0.length l0_0) (hc0_0 : l0_0.length ≤ c0_0) (hr0_1 : Kd.C k92 w A0_1 l0_1.length l0_1) (hc0_1 : l0_1.length ≤ c0_1) (hr0_2 : Kd.C k43 w A0_2 l0_2.length l0_2) (hc0_2 : l0_2.length ≤ c0_2) (h : impl_firedAt.f k l0_0 l0_1 l0_2 a1_0 a1_1 a1_2 a1_3 = some r) :
  Calls Try.prog 98 #[.agg #[.slice A0_0 l0_0.length c0_0, .slice A0_1 l0_1.length c0_1, .slice A0_2 l0_2.length c0_2], .agg #[.int .i64 a1_0, .int .i64 a1_1, .string a1_2, .int .i64 a1_3]] w fun e w' => e = .returned (.int .i64 r) ∧ Below w.heap.size w w' := by
 have hu32 := Try.underlying32
 have hu43 := Try.underlying43
 have HR0_0 := Aside0.mk hr0_0
 have HC0_0 := Aside0.mk hc0_0
 clear hr0_0 hc0_0
 have HR0_1 := Aside0.mk hr0_1
 have HC0_1 := Aside0.mk hc0_1
 clear hr0_1 hc0_1
 have HR0_2 := Aside0.mk hr0_2
 have HC0_2 := Aside0.mk hc0_2
 clear hr0_2 hc0_2
 have HB := Aside0.mk (Below.refl w.heap.size w)
 have H : ((impl_articleOf.f k l0_1 a1_2).bind fun t319 => (if t319 < 0 then (some (-1)) else ((impl_isBeat.f l0_0 a1_0 a1_1).bind fun t320 => (if t320 = true then ((impl_beatTime.f k l0_0 a1_0 a1_1).bind fun t321 => (if 0 ≤ t319 then (if t319 < (l0_1.length : Int) then (some (mx (-1) (wrap64 (t321 - ((rd_T92 l0_1 t319).f3))))) else (none)) else (none))) else (some (-1)))))) = some r := h
 clear h
 replace H := Option.bind_eq_some_iff.mp H
 obtain ⟨t319, A30, H⟩ := H
 have A3 := Aside0.mk A30
 clear A30
 by_cases c4 : t319 < 0
 ·rw [if_pos c4] at H
  have c4b0 := decide_eq_true c4
  clear c4
  obtain rfl := Option.some.inj H
  go_enter Try.func98, Try.ntmps98
  go_wp2_with (first | ((with_reducible refine gate_dst (N := 2) rfl ?_); refine boxZ 2 #[.slice A0_0 l0_0.length c0_0, .slice A0_1 l0_1.length c0_1, .slice A0_2 l0_2.length c0_2] 32 ?_; intro gb317 hg w5 hbox hb; have n0_ := Aside0.mk (below_step Zc hb); have n1_ := Aside0.mk (hbox); have n2_ := Aside0.mk ((Zd : w.heap.size ≤ gb317)); have n3_ := Aside0.mk ((Zd : w.heap.size ≤ gb317)); clear HB; have HB := n0_; have BK317 := n1_; have GW317 := n2_; have GE317 := n3_; clear n0_ n1_ n2_ n3_; clear hb hbox hg) | ((with_reducible refine gate_dst (N := 3) rfl ?_); refine boxZ 3 #[.int .i64 a1_0, .int .i64 a1_1, .string a1_2, .int .i64 a1_3] 43 ?_; intro gb318 hg w6 hbox hb; have n0_ := Aside0.mk (blk_below (g := gb317) (o := .cells #[.slice A0_0 l0_0.length c0_0, .slice A0_1 l0_1.length c0_1, .slice A0_2 l0_2.length c0_2] 32 (0, 0)) (have z0_ := BK317; Ze) hb); have n1_ := Aside0.mk (below_step (have z0_ := GE317; Zf) hb); have n2_ := Aside0.mk (hbox); have n3_ := Aside0.mk (((have z0_ := GE317; Zg) : w.heap.size ≤ gb318)); have n4_ := Aside0.mk (((have z0_ := GE317; Zg) : w.heap.size ≤ gb318)); have n5_ := Aside0.mk (((have z0_ := BK317; Zbg) : gb317 ≠ gb318)); have n6_ := Aside0.mk (((have z0_ := BK317; Zbh) : gb318 ≠ gb317)); clear BK317; clear HB; have BK317 := n0_; have HB := n1_; have BK318 := n2_; have GW318 := n3_; have GE318 := n4_; have NB317_318 := n5_; have NB318_317 := n6_; clear n0_ n1_ n2_ n3_ n4_ n5_ n6_; clear hb hbox hg; have hnb7 := NB317_318.out; have hnc7 := NB318_317.out; obtain ⟨hcz8_0, hcz8_1, hcz8_2, hfz8_0, hfz8_1, hfz8_2⟩ := cz3 BK317; obtain ⟨hcz9_0, hcz9_1, hcz9_2, hcz9_3, hfz9_0, hfz9_1, hfz9_2, hfz9_3⟩ := cz4 BK318) | ((with_reducible refine gate_callee (f := 113) rfl ?_); refine goesL_ (some 10) rfl rfl Try.func113 Zj rfl #[.slice A0_1 l0_1.length c0_1, .string a1_2] rfl Zo ?_; (with_reducible refine (impl_articleOf.calls k _ _ l0_1 a1_2 t319 _ ?side1 ?side2 A3.out).mono ?_); (case side1 => exact (have z0_ := HR0_1; Zad)); (case side2 => exact HC0_1.out); rintro e w10 ⟨rfl, hb⟩; refine ⟨_, rfl, ?_⟩; have n0_ := Aside0.mk (blk_below (g := gb317) (o := .cells #[.slice A0_0 l0_0.length c0_0, .slice A0_1 l0_1.length c0_1, .slice A0_2 l0_2.length c0_2] 32 (0, 0)) (have z0_ := BK317; Ze) hb); have n1_ := Aside0.mk (blk_below (g := gb318) (o := .cells #[.int .i64 a1_0, .int .i64 a1_1, .string a1_2, .int .i64 a1_3] 43 (0, 0)) (have z0_ := BK318; Ze) hb); have n2_ := Aside0.mk (below_step (have z0_ := GE317; have z1_ := GE318; Zh) hb); clear BK317; clear BK318; clear HB; have BK317 := n0_; have BK318 := n1_; have HB := n2_; clear n0_ n1_ n2_; (try clear hb); (try clear hb2); (try clear hk); (try clear hi)))
  go_ret
  exact ⟨Zk, (have z0_ := GE317; have z1_ := GE318; Zh)⟩
 ·rw [if_neg c4] at H
  have c4b0 := decide_eq_false c4
  clear c4
  replace H := Option.bind_eq_some_iff.mp H
  obtain ⟨t320, A110, H⟩ := H
  have A11 := Aside0.mk A110
  clear A110
  by_cases c12 : t320 = true
  ·subst c12
   have H1 : ((impl_beatTime.f k l0_0 a1_0 a1_1).bind fun t321 => (if 0 ≤ t319 then (if t319 < (l0_1.length : Int) then (some (mx (-1) (wrap64 (t321 - ((rd_T92 l0_1 t319).f3))))) else (none)) else (none))) = some r := by rw [if_pos rfl] at H; exact H
   clear H
   have H := H1
   clear H1
   replace H := Option.bind_eq_some_iff.mp H
   obtain ⟨t321, A130, H⟩ := H
   have A13 := Aside0.mk A130
   clear A130
   by_cases c14 : 0 ≤ t319
   ·rw [if_pos c14] at H
    have c14b0 := decide_eq_true c14
    clear c14
    by_cases c15 : t319 < (l0_1.length : Int)
    ·rw [if_pos c15] at H
     have c15b0 := decide_eq_true c15
     clear c15
     obtain ⟨ji16, hji16⟩ : ∃ j_ : Int, (mx (-1) (wrap64 (t321 - ((rd_T92 l0_1 t319).f3)))) = j_ := ⟨_, rfl⟩
     replace H : (some ji16) = some r := by first | (rw [hji16] at H; exact H) | (simp only [hji16] at H ⊢; exact H)
     (try rw [hji16] at A3)
     (try rw [hji16] at A11)
     (try rw [hji16] at A13)
     have hji16_ : (if (-1) < (wrap64 (t321 - ((rd_T92 l0_1 t319).f3))) then (wrap64 (t321 - ((rd_T92 l0_1 t319).f3))) else (-1)) = ji16 := hji16
     obtain rfl := Option.some.inj H
     go_enter Try.func98, Try.ntmps98
     try go_wp2_with (first | ((with_reducible refine gate_dst (N := 2) rfl ?_); refine boxZ 2 #[.slice A0_0 l0_0.length c0_0, .slice A0_1 l0_1.length c0_1, .slice A0_2 l0_2.length c0_2] 32 ?_; intro gb317 hg w17 hbox hb; have n0_ := Aside0.mk (below_step Zc hb); have n1_ := Aside0.mk (hbox); have n2_ := Aside0.mk ((Zd : w.heap.size ≤ gb317)); have n3_ := Aside0.mk ((Zd : w.heap.size ≤ gb317)); clear HB; have HB := n0_; have BK317 := n1_; have GW317 := n2_; have GE317 := n3_; clear n0_ n1_ n2_ n3_; clear hb hbox hg) | ((with_reducible refine gate_dst (N := 3) rfl ?_); refine boxZ 3 #[.int .i64 a1_0, .int .i64 a1_1, .string a1_2, .int .i64 a1_3] 43 ?_; intro gb318 hg w18 hbox hb; have n0_ := Aside0.mk (blk_below (g := gb317) (o := .cells #[.slice A0_0 l0_0.length c0_0, .slice A0_1 l0_1.length c0_1, .slice A0_2 l0_2.length c0_2] 32 (0, 0)) (have z0_ := BK317; Ze) hb); have n1_ := Aside0.mk (below_step (have z0_ := GE317; Zf) hb); have n2_ := Aside0.mk (hbox); have n3_ := Aside0.mk (((have z0_ := GE317; Zg) : w.heap.size ≤ gb318)); have n4_ := Aside0.mk (((have z0_ := GE317; Zg) : w.heap.size ≤ gb318)); have n5_ := Aside0.mk (((have z0_ := BK317; Zbg) : gb317 ≠ gb318)); have n6_ := Aside0.mk (((have z0_ := BK317; Zbh) : gb318 ≠ gb317)); clear BK317; clear HB; have BK317 := n0_; have HB := n1_; have BK318 := n2_; have GW318 := n3_; have GE318 := n4_; have NB317_318 := n5_; have NB318_317 := n6_; clear n0_ n1_ n2_ n3_ n4_ n5_ n6_; clear hb hbox hg; have hnb19 := NB317_318.out; have hnc19 := NB318_317.out; obtain ⟨hcz20_0, hcz20_1, hcz20_2, hfz20_0, hfz20_1, hfz20_2⟩ := cz3 BK317; obtain ⟨hcz21_0, hcz21_1, hcz21_2, hcz21_3, hfz21_0, hfz21_1, hfz21_2, hfz21_3⟩ := cz4 BK318) | ((with_reducible refine gate_callee (f := 113) rfl ?_); refine goesL_ (some 10) rfl rfl Try.func113 Zj rfl #[.slice A0_1 l0_1.length c0_1, .string a1_2] rfl Zo ?_; (with_reducible refine (impl_articleOf.calls k _ _ l0_1 a1_2 t319 _ ?side1 ?side2 A3.out).mono ?_); (case side1 => exact (have z0_ := HR0_1; Zad)); (case side2 => exact HC0_1.out); rintro e w22 ⟨rfl, hb⟩; refine ⟨_, rfl, ?_⟩; have n0_ := Aside0.mk (blk_below (g := gb317) (o := .cells #[.slice A0_0 l0_0.length c0_0, .slice A0_1 l0_1.length c0_1, .slice A0_2 l0_2.length c0_2] 32 (0, 0)) (have z0_ := BK317; Ze) hb); have n1_ := Aside0.mk (blk_below (g := gb318) (o := .cells #[.int .i64 a1_0, .int .i64 a1_1, .string a1_2, .int .i64 a1_3] 43 (0, 0)) (have z0_ := BK318; Ze) hb); have n2_ := Aside0.mk (below_step (have z0_ := GE317; have z1_ := GE318; Zh) hb); clear BK317; clear BK318; clear HB; have BK317 := n0_; have BK318 := n1_; have HB := n2_; clear n0_ n1_ n2_; (try clear hb); (try clear hb2); (try clear hk); (try clear hi); obtain ⟨hcz23_0, hcz23_1, hcz23_2, hfz23_0, hfz23_1, hfz23_2⟩ := cz3 BK317; obtain ⟨hcz24_0, hcz24_1, hcz24_2, hcz24_3, hfz24_0, hfz24_1, hfz24_2, hfz24_3⟩ := cz4 BK318) | (go_at_call 130; (with_reducible refine (impl_isBeat.calls _ _ l0_0 a1_0 a1_1 true _ ?side1 ?side2 A11.out).mono ?_); (case side1 => exact (have z0_ := HR0_0; Zad)); (case side2 => exact HC0_0.out); rintro e w' ⟨rfl, ⟨nd, rfl⟩⟩))
     (try (rw [drewN_self w22]; generalize hq_ : World.drewN w22 _ = w22; have n0_ : Aside0 (w22.heap[gb317]? = some (.cells #[.slice A0_0 l0_0.length c0_0, .slice A0_1 l0_1.length c0_1, .slice A0_2 l0_2.length c0_2] 32 (0, 0))) := ⟨by rw [← hq_]; exact (have z0_ := BK317; Ze)⟩; have n1_ : Aside0 (w22.heap[gb318]? = some (.cells #[.int .i64 a1_0, .int .i64 a1_1, .string a1_2, .int .i64 a1_3] 43 (0, 0))) := ⟨by rw [← hq_]; exact (have z0_ := BK318; Ze)⟩; have n2_ : Aside0 (Below w.heap.size w w22) := ⟨by rw [← hq_]; exact (have z0_ := GE317; have z1_ := GE318; Zh)⟩; clear BK317 BK318 HB hq_; have BK317 := n0_; have BK318 := n1_; have HB := n2_; clear n0_ n1_ n2_))
     have n0_ := Aside0.mk (blk_drew BK317.out)
     have n1_ := Aside0.mk (blk_drew BK318.out)
     have n2_ := Aside0.mk (below_drew1 HB.out)
     clear BK317
     clear BK318
     clear HB
     have BK317 := n0_
     have BK318 := n1_
     have HB := n2_
     clear n0_ n1_ n2_
     have p322 : 0 ≤ (t319 : Int) := of_decide_eq_true Zp
     have q322 : t319 < (l0_1.length : Int) := of_decide_eq_true Zp
     obtain ⟨ad322, e322, hx322_0, hx322_1, hx322_2, hx322_3, hx322_4, hx322_5, hx322_6, hx322_7, hx322_8⟩ := at_T92 HR0_1.out t319 p322 q322
     have hw322_8 := hx322_8
     have hw322_7 := hx322_7
     have hw322_6 := hx322_6
     have hw322_5 := hx322_5
     have hw322_4 := hx322_4
     have hw322_3 := hx322_3
     have hw322_2 := hx322_2
     have hw322_1 := hx322_1
     have hw322_0 := hx322_0
     cases e322
     replace hx322_0 := cbH HB hx322_0
     replace hx322_1 := cbH HB hx322_1
     replace hx322_2 := cbH HB hx322_2
     replace hx322_3 := cbH HB hx322_3
     replace hx322_4 := cbH HB hx322_4
     replace hx322_5 := cbH HB hx322_5
     replace hx322_6 := cbH HB hx322_6
     replace hx322_7 := cbH HB hx322_7
     replace hx322_8 := cbH HB hx322_8
     replace p322 := eq_true p322
     replace q322 := eq_true q322
     refine start_ (n := 16) (S := fun w' => w'.cell? ⟨gb317, 0, none⟩ = some (.slice A0_0 l0_0.length c0_0) ∧ w'.cell? ⟨gb317, 1, none⟩ = some (.slice (some ad322) l0_1.length c0_1) ∧ w'.cell? ⟨gb317, 2, none⟩ = some (.slice A0_2 l0_2.length c0_2) ∧ w'.cell? ⟨gb318, 0, none⟩ = some (.int .i64 a1_0) ∧ w'.cell? ⟨gb318, 1, none⟩ = some (.int .i64 a1_1) ∧ w'.cell? ⟨gb318, 2, none⟩ = some (.string a1_2) ∧ w'.cell? ⟨gb318, 3, none⟩ = some (.int .i64 a1_3) ∧ w'.cell? (ad322.add ((t319).toNat * 9)) = some (.string ((rd_T92 l0_1 t319).f0)) ∧ w'.cell? ⟨(ad322.add ((t319).toNat * 9)).block, (ad322.add ((t319).toNat * 9)).off + 1, none⟩ = some (.int .i64 ((rd_T92 l0_1 t319).f1)) ∧ w'.cell? ⟨(ad322.add ((t319).toNat * 9)).block, (ad322.add ((t319).toNat * 9)).off + 2, none⟩ = some (.int .i64 ((rd_T92 l0_1 t319).f2)) ∧ w'.cell? ⟨(ad322.add ((t319).toNat * 9)).block, (ad322.add ((t319).toNat * 9)).off + 3, none⟩ = some (.int .i64 ((rd_T92 l0_1 t319).f3)) ∧ w'.cell? ⟨(ad322.add ((t319).toNat * 9)).block, (ad322.add ((t319).toNat * 9)).off + 4, none⟩ = some (.int .i64 ((rd_T92 l0_1 t319).f4)) ∧ w'.cell? ⟨(ad322.add ((t319).toNat * 9)).block, (ad322.add ((t319).toNat * 9)).off + 5, none⟩ = some (.int .i64 ((rd_T92 l0_1 t319).f5)) ∧ w'.cell? ⟨(ad322.add ((t319).toNat * 9)).block, (ad322.add ((t319).toNat * 9)).off + 6, none⟩ = some (.int .i64 ((rd_T92 l0_1 t319).f6)) ∧ w'.cell? ⟨(ad322.add ((t319).toNat * 9)).block, (ad322.add ((t319).toNat * 9)).off + 7, none⟩ = some (.int .i64 ((rd_T92 l0_1 t319).f7)) ∧ w'.cell? ⟨(ad322.add ((t319).toNat * 9)).block, (ad322.add ((t319).toNat * 9)).off + 8, none⟩ = some (.int .i64 ((rd_T92 l0_1 t319).f8))) (ds := []) (bT 16 0) Zj rfl rfl ⟨(blk_cell BK317.out 0).trans rfl, (blk_cell BK317.out 1).trans rfl, (blk_cell BK317.out 2).trans rfl, (blk_cell BK318.out 0).trans rfl, (blk_cell BK318.out 1).trans rfl, (blk_cell BK318.out 2).trans rfl, (blk_cell BK318.out 3).trans rfl, (cbH HB hw322_0 :), (cbH HB hw322_1 :), (cbH HB hw322_2 :), (cbH HB hw322_3 :), (cbH HB hw322_4 :), (cbH HB hw322_5 :), (cbH HB hw322_6 :), (cbH HB hw322_7 :), (cbH HB hw322_8 :)⟩ (fun hHeld => ?_); refine with_tabW impl_firedAt.tab4 impl_firedAt.bits4 (fun HT_ HW_ => ?_)
     generalize w22.drew = w25 at BK317 BK318 HB hx322_0 hx322_1 hx322_2 hx322_3 hx322_4 hx322_5 hx322_6 hx322_7 hx322_8 hHeld ⊢
     refine pureZ HT_ 0 (some 23) (bT 16 1) ?_
     refine pureZ HT_ 2 (some 25) #[true, false, true, false, false, false, false, false, false, false, false, false, false, false, false, false] ?_
     refine pureZ HT_ 4 (some 27) #[true, false, true, false, true, false, false, false, false, false, false, false, false, false, false, false] ?_
     refine pureZ HT_ 7 (some 30) #[true, false, true, false, true, false, false, true, false, false, false, false, false, false, false, false] ?_
     refine pureZ HT_ 9 (some 32) #[true, false, true, false, true, false, false, true, false, true, false, false, false, false, false, false] ?_
     refine take_ (i := 1) (N := some 24) (v := ?_) (a' := ?_) #[true, true, true, false, true, false, false, true, false, true, false, false, false, false, false, false] rfl rfl (take_ofW HT_.out HW_.out Zj) (fun _ _ _ h => h) (Or.inl ⟨by rfl, ?_⟩) hHeld ?_ ?_
     rotate_left
     ·rintro w' ⟨s0, s1, s2, s3, s4, s5, s6, s7, s8, s9, s10, s11, s12, s13, s14, s15⟩
      go_simp
      with_reducible rfl
     rotate_left
     ·exact Zput
     refine take_ (i := 3) (N := some 26) (v := ?_) (a' := ?_) #[true, true, true, true, true, false, false, true, false, true, false, false, false, false, false, false] rfl rfl (take_ofW HT_.out HW_.out Zj) (fun _ _ _ h => h) (Or.inl ⟨by rfl, ?_⟩) hHeld ?_ ?_
     rotate_left
     ·rintro w' ⟨s0, s1, s2, s3, s4, s5, s6, s7, s8, s9, s10, s11, s12, s13, s14, s15⟩
      go_simp
      with_reducible rfl
     rotate_left
     ·exact Zput
     refine take_ (i := 5) (N := some 28) (v := ?_) (a' := ?_) #[true, true, true, true, true, true, false, true, false, true, false, false, false, false, false, false] rfl rfl (take_ofW HT_.out HW_.out Zj) (fun _ _ _ h => h) (Or.inl ⟨by rfl, ?_⟩) hHeld ?_ ?_
     rotate_left
     ·rintro w' ⟨s0, s1, s2, s3, s4, s5, s6, s7, s8, s9, s10, s11, s12, s13, s14, s15⟩
      go_simp
      with_reducible rfl
     rotate_left
     ·exact Zput
     refine take_ (i := 8) (N := some 31) (v := ?_) (a' := ?_) #[true, true, true, true, true, true, false, true, true, true, false, false, false, false, false, false] rfl rfl (take_ofW HT_.out HW_.out Zj) (fun _ _ _ h => h) (Or.inl ⟨by rfl, ?_⟩) hHeld ?_ ?_
     rotate_left
     ·rintro w' ⟨s0, s1, s2, s3, s4, s5, s6, s7, s8, s9, s10, s11, s12, s13, s14, s15⟩
      go_simp
      with_reducible rfl
     rotate_left
     ·exact Zput
     refine pureZ HT_ 10 (some 33) #[true, true, true, true, true, true, false, true, true, true, true, false, false, false, false, false] ?_
     refine pureZ HT_ 11 (some 34) #[true, true, true, true, true, true, false, true, true, true, true, true, false, false, false, false] ?_
     refine take_ (i := 12) (N := some 35) (v := ?_) (a' := ?_) #[true, true, true, true, true, true, false, true, true, true, true, true, true, false, false, false] rfl rfl (take_ofW HT_.out HW_.out Zj) (fun _ _ _ h => h) (Or.inl ⟨by rfl, ?_⟩) hHeld ?_ ?_
     rotate_left
     ·rintro w' ⟨s0, s1, s2, s3, s4, s5, s6, s7, s8, s9, s10, s11, s12, s13, s14, s15⟩
      go_simp
      with_reducible rfl
     rotate_left
     ·exact Zput
     refine one_ (i := 6) (N := some 29) (bT 16 13) rfl rfl (one_of HT_.out Zj) (by decide) (fun K hK => ?_)
     refine goes_ Try.func131 Zj rfl #[.slice A0_0 l0_0.length c0_0, .int .i64 a1_0, .int .i64 a1_1] (by rfl) rfl rfl Zo ?_
     with_reducible refine (impl_beatTime.calls k _ _ l0_0 a1_0 a1_1 t321 _ ?side1 ?side2 A13.out).mono ?_
     (case side1 => exact (have z0_ := HR0_0; Zad))
     (case side2 => exact HC0_0.out)
     rintro e w26 ⟨rfl, hb⟩
     refine ⟨_, rfl, ?_⟩
     have n0_ := Aside0.mk (blk_below (g := gb317) (o := .cells #[.slice A0_0 l0_0.length c0_0, .slice (some ad322) l0_1.length c0_1, .slice A0_2 l0_2.length c0_2] 32 (0, 0)) (have z0_ := BK317; Ze) hb)
     have n1_ := Aside0.mk (blk_below (g := gb318) (o := .cells #[.int .i64 a1_0, .int .i64 a1_1, .string a1_2, .int .i64 a1_3] 43 (0, 0)) (have z0_ := BK318; Ze) hb)
     have n2_ := Aside0.mk (below_step (have z0_ := GE317; have z1_ := GE318; Zh) hb)
     clear BK317
     clear BK318
     clear HB
     have BK317 := n0_
     have BK318 := n1_
     have HB := n2_
     clear n0_ n1_ n2_
     (try clear hb)
     (try clear hb2)
     (try clear hk)
     (try clear hi)
     refine hK.out _ _ ⟨(blk_cell BK317.out 0).trans rfl, (blk_cell BK317.out 1).trans rfl, (blk_cell BK317.out 2).trans rfl, (blk_cell BK318.out 0).trans rfl, (blk_cell BK318.out 1).trans rfl, (blk_cell BK318.out 2).trans rfl, (blk_cell BK318.out 3).trans rfl, (cbH HB hw322_0 :), (cbH HB hw322_1 :), (cbH HB hw322_2 :), (cbH HB hw322_3 :), (cbH HB hw322_4 :), (cbH HB hw322_5 :), (cbH HB hw322_6 :), (cbH HB hw322_7 :), (cbH HB hw322_8 :)⟩ (fun hHeld => ?_)
     clear hK K
     refine norm_ (a' := ?_) ?_ ?_
     rotate_left
     ·show Act.put _ (some 29) _ = _
      simp only [Act.put, List.setIfInBounds_toArray, List.set_cons_zero, List.set_cons_succ, i64_w, i32_w]
      rfl
     refine pureZ HT_ 13 (some 36) (bT 16 14) ?_
     refine pureZ HT_ 14 (some 37) (bT 16 15) ?_
     refine pureZ HT_ 15 (some 4) (bT 16 16) ?_
     refine done_ (done_of HT_.out Zj) ?_
     try go_wp2
     go_ret
     exact ⟨by first | rfl | (simp [errW_none, errW_some] <;> rfl) | (simp only [← hji16]; first | rfl | (simp [errW_none, errW_some] <;> rfl)) | (simp [*, errW_none, errW_some] <;> rfl), (have z0_ := GE317; have z1_ := GE318; Zh)⟩
    ·rw [if_neg c15] at H
     exact absurd H (by simp)
   ·rw [if_neg c14] at H
    exact absurd H (by simp)
  ·replace c12 := Bool.eq_false_iff.mpr c12
   subst c12
   have H1 : (some (-1)) = some r := by rw [if_neg (show ¬ (false = true) by decide)] at H; exact H
   clear H
   have H := H1
   clear H1
   obtain rfl := Option.some.inj H
   go_enter Try.func98, Try.ntmps98
   go_wp2_with (first | ((with_reducible refine gate_dst (N := 2) rfl ?_); refine boxZ 2 #[.slice A0_0 l0_0.length c0_0, .slice A0_1 l0_1.length c0_1, .slice A0_2 l0_2.length c0_2] 32 ?_; intro gb317 hg w27 hbox hb; have n0_ := Aside0.mk (below_step Zc hb); have n1_ := Aside0.mk (hbox); have n2_ := Aside0.mk ((Zd : w.heap.size ≤ gb317)); have n3_ := Aside0.mk ((Zd : w.heap.size ≤ gb317)); clear HB; have HB := n0_; have BK317 := n1_; have GW317 := n2_; have GE317 := n3_; clear n0_ n1_ n2_ n3_; clear hb hbox hg) | ((with_reducible refine gate_dst (N := 3) rfl ?_); refine boxZ 3 #[.int .i64 a1_0, .int .i64 a1_1, .string a1_2, .int .i64 a1_3] 43 ?_; intro gb318 hg w28 hbox hb; have n0_ := Aside0.mk (blk_below (g := gb317) (o := .cells #[.slice A0_0 l0_0.length c0_0, .slice A0_1 l0_1.length c0_1, .slice A0_2 l0_2.length c0_2] 32 (0, 0)) (have z0_ := BK317; Ze) hb); have n1_ := Aside0.mk (below_step (have z0_ := GE317; Zf) hb); have n2_ := Aside0.mk (hbox); have n3_ := Aside0.mk (((have z0_ := GE317; Zg) : w.heap.size ≤ gb318)); have n4_ := Aside0.mk (((have z0_ := GE317; Zg) : w.heap.size ≤ gb318)); have n5_ := Aside0.mk (((have z0_ := BK317; Zbg) : gb317 ≠ gb318)); have n6_ := Aside0.mk (((have z0_ := BK317; Zbh) : gb318 ≠ gb317)); clear BK317; clear HB; have BK317 := n0_; have HB := n1_; have BK318 := n2_; have GW318 := n3_; have GE318 := n4_; have NB317_318 := n5_; have NB318_317 := n6_; clear n0_ n1_ n2_ n3_ n4_ n5_ n6_; clear hb hbox hg; have hnb29 := NB317_318.out; have hnc29 := NB318_317.out; obtain ⟨hcz30_0, hcz30_1, hcz30_2, hfz30_0, hfz30_1, hfz30_2⟩ := cz3 BK317; obtain ⟨hcz31_0, hcz31_1, hcz31_2, hcz31_3, hfz31_0, hfz31_1, hfz31_2, hfz31_3⟩ := cz4 BK318) | ((with_reducible refine gate_callee (f := 113) rfl ?_); refine goesL_ (some 10) rfl rfl Try.func113 Zj rfl #[.slice A0_1 l0_1.length c0_1, .string a1_2] rfl Zo ?_; (with_reducible refine (impl_articleOf.calls k _ _ l0_1 a1_2 t319 _ ?side1 ?side2 A3.out).mono ?_); (case side1 => exact (have z0_ := HR0_1; Zad)); (case side2 => exact HC0_1.out); rintro e w32 ⟨rfl, hb⟩; refine ⟨_, rfl, ?_⟩; have n0_ := Aside0.mk (blk_below (g := gb317) (o := .cells #[.slice A0_0 l0_0.length c0_0, .slice A0_1 l0_1.length c0_1, .slice A0_2 l0_2.length c0_2] 32 (0, 0)) (have z0_ := BK317; Ze) hb); have n1_ := Aside0.mk (blk_below (g := gb318) (o := .cells #[.int .i64 a1_0, .int .i64 a1_1, .string a1_2, .int .i64 a1_3] 43 (0, 0)) (have z0_ := BK318; Ze) hb); have n2_ := Aside0.mk (below_step (have z0_ := GE317; have z1_ := GE318; Zh) hb); clear BK317; clear BK318; clear HB; have BK317 := n0_; have BK318 := n1_; have HB := n2_; clear n0_ n1_ n2_; (try clear hb); (try clear hb2); (try clear hk); (try clear hi); obtain ⟨hcz33_0, hcz33_1, hcz33_2, hfz33_0, hfz33_1, hfz33_2⟩ := cz3 BK317; obtain ⟨hcz34_0, hcz34_1, hcz34_2, hcz34_3, hfz34_0, hfz34_1, hfz34_2, hfz34_3⟩ := cz4 BK318) | (go_at_call 130; (with_reducible refine (impl_isBeat.calls _ _ l0_0 a1_0 a1_1 false _ ?side1 ?side2 A11.out).mono ?_); (case side1 => exact (have z0_ := HR0_0; Zad)); (case side2 => exact HC0_0.out); rintro e w' ⟨rfl, ⟨nd, rfl⟩⟩))
   go_ret
   exact ⟨Zk, (have z0_ := GE317; have z1_ := GE318; Zh)⟩
mutual
def impl_IsShow.j0 : Nat → Bool → List (S108) → List (S92) → List (S43) → Option (Bool)
 | 0, _, _, _, _ => none
 | k + 1, x20, x324000, x324001, x324002 => if x20 = true then (some false) else (impl_IsShow.l0 k x324002 (x324002.length : Int) 0 x324000 x324001 x324002)
def impl_IsShow.l0 : Nat → List (S43) → Int → Int → List (S108) → List (S92) → List (S43) → Option (Bool)
 | 0, _, _, _, _, _, _ => none
 | k + 1, x22, x23, x24, x324000, x324001, x324002 => if x24 < x23 then (if 0 ≤ x24 then (if x24 < (x22.length : Int) then ((impl_within.f ((rd_T43 x22 x24).f3) 0 11).bind fun t328 => (if t328 = true then ((impl_firedAt.f k x324000 x324001 x324002 ((rd_T43 x22 x24).f0) ((rd_T43 x22 x24).f1) ((rd_T43 x22 x24).f2) ((rd_T43 x22 x24).f3)).bind fun t329 => (if t329 < 0 then (some false) else (impl_IsShow.l0 k x22 x23 (wrap64 (x24 + 1)) x324000 x324001 x324002))) else (some false))) else (none)) else (none)) else (some true)
end
def impl_IsShow.f (k : Nat) (l0_0 : List (S108)) (l0_1 : List (S92)) (l0_2 : List (S43)) : Option (Bool) := (impl_IsScore.f k l0_0).bind fun t324 => (if t324 = true then ((impl_AreArticles.f k l0_1).bind fun t325 => (if t325 = true then (impl_IsShow.j0 k (decide ((l0_2.length : Int) > 20)) l0_0 l0_1 l0_2) else (impl_IsShow.j0 k true l0_0 l0_1 l0_2))) else (impl_IsShow.j0 k true l0_0 l0_1 l0_2))
set_option maxHeartbeats 8000000 in
set_option maxRecDepth 100000 in
theorem impl_IsShow.calls (k : Nat) (A0_0 : Option Addr) (c0_0 : Nat) (l0_0 : List (S108)) (A0_1 : Option Addr) (c0_1 : Nat) (l0_1 : List (S92)) (A0_2 : Option Addr) (c0_2 : Nat) (l0_2 : List (S43)) (r : Bool) (w : World) (hr0_0 : Kd.C k108 w A0_0 l0_0.length l0_0) (hc0_0 : l0_0.length ≤ c0_0) (hr0_1 : Kd.C k92 w A0_1 l0_1.length l0_1) (hc0_1 : l0_1.length ≤ c0_1) (hr0_2 : Kd.C k43 w A0_2 l0_2.length l0_2) (hc0_2 : l0_2.length ≤ c0_2) (h : impl_IsShow.f k l0_0 l0_1 l0_2 = some r) :
  Calls Try.prog 37 #[.agg #[.slice A0_0 l0_0.length c0_0, .slice A0_1 l0_1.length c0_1, .slice A0_2 l0_2.length c0_2]] w fun e w' => e = .returned (.bool r) ∧ Below w.heap.size w w' := by
 have hu32 := Try.underlying32
 have hu43 := Try.underlying43
 have HR0_0 := Aside0.mk hr0_0
 have HC0_0 := Aside0.mk hc0_0
 clear hr0_0 hc0_0
 have HR0_1 := Aside0.mk hr0_1
 have HC0_1 := Aside0.mk hc0_1
 clear hr0_1 hc0_1
 have HR0_2 := Aside0.mk hr0_2
 have HC0_2 := Aside0.mk hc0_2
 clear hr0_2 hc0_2
 have HB := Aside0.mk (Below.refl w.heap.size w)
 have H : ((impl_IsScore.f k l0_0).bind fun t324 => (if t324 = true then ((impl_AreArticles.f k l0_1).bind fun t325 => (if t325 = true then (impl_IsShow.j0 k (decide ((l0_2.length : Int) > 20)) l0_0 l0_1 l0_2) else (impl_IsShow.j0 k true l0_0 l0_1 l0_2))) else (impl_IsShow.j0 k true l0_0 l0_1 l0_2))) = some r := h
 clear h
 have HC2 := Aside0.mk H
 clear H
 go_enter Try.func37, Try.ntmps37
 go_upto_region 1 with (first | ((with_reducible refine gate_dst (N := 1) rfl ?_); (try (refine gate_guard (by rfl) ?_; dsimp only)); refine boxZ 1 #[.slice A0_0 l0_0.length c0_0, .slice A0_1 l0_1.length c0_1, .slice A0_2 l0_2.length c0_2] 32 ?_; intro gb323 hg w3 hbox hb; have n0_ := Aside0.mk (below_step Zc hb); have n1_ := Aside0.mk (hbox); have n2_ := Aside0.mk ((Zd : w.heap.size ≤ gb323)); have n3_ := Aside0.mk ((Zd : w.heap.size ≤ gb323)); clear HB; have HB := n0_; have BK323 := n1_; have GW323 := n2_; have GE323 := n3_; clear n0_ n1_ n2_ n3_; clear hb hbox hg))
 (try simp only [Act.put, List.setIfInBounds_toArray, List.set_cons_zero, List.set_cons_succ])
 go_cut [20] (fun v20 wc => ∃ (kq : Nat) (x20_1 : Bool), v20 = .bool x20_1 ∧ Aside0 (impl_IsShow.j0 kq x20_1 l0_0 l0_1 l0_2 = some r) ∧ Aside0 (kq ≤ k) ∧ Aside0 (wc.heap[gb323]? = some (.cells #[(.slice A0_0 l0_0.length c0_0), (.slice A0_1 l0_1.length c0_1), (.slice A0_2 l0_2.length c0_2)] 32 (0, 0))) ∧ Aside0 (Below w.heap.size w wc))
 case first =>
  have H := HC2.out
  clear HC2
  replace H := Option.bind_eq_some_iff.mp H
  obtain ⟨t324, A40, H⟩ := H
  have A4 := Aside0.mk A40
  clear A40
  by_cases c5 : t324 = true
  ·subst c5
   have H1 : ((impl_AreArticles.f k l0_1).bind fun t325 => (if t325 = true then (impl_IsShow.j0 k (decide ((l0_2.length : Int) > 20)) l0_0 l0_1 l0_2) else (impl_IsShow.j0 k true l0_0 l0_1 l0_2))) = some r := by rw [if_pos rfl] at H; exact H
   clear H
   have H := H1
   clear H1
   replace H := Option.bind_eq_some_iff.mp H
   obtain ⟨t325, A60, H⟩ := H
   have A6 := Aside0.mk A60
   clear A60
   by_cases c7 : t325 = true
   ·subst c7
    have H1 : (impl_IsShow.j0 k (decide ((l0_2.length : Int) > 20)) l0_0 l0_1 l0_2) = some r := by rw [if_pos rfl] at H; exact H
    clear H
    have H := H1
    clear H1
    have H' := Aside0.mk H
    clear H
    obtain ⟨hcz8_0, hcz8_1, hcz8_2, hfz8_0, hfz8_1, hfz8_2⟩ := cz3 BK323
    go_wp2_with (first | ((with_reducible refine gate_callee (f := 96) rfl ?_); refine goesL_ (some 7) rfl rfl Try.func96 Zj rfl #[.slice A0_0 l0_0.length c0_0] rfl Zo ?_; (with_reducible refine (impl_IsScore.calls k _ _ l0_0 true _ ?side1 ?side2 A4.out).mono ?_); (case side1 => exact (have z0_ := HR0_0; Zad)); (case side2 => exact HC0_0.out); rintro e w9 ⟨rfl, hb⟩; refine ⟨_, rfl, ?_⟩; have n0_ := Aside0.mk (blk_below (g := gb323) (o := .cells #[.slice A0_0 l0_0.length c0_0, .slice A0_1 l0_1.length c0_1, .slice A0_2 l0_2.length c0_2] 32 (0, 0)) (have z0_ := BK323; Ze) hb); have n1_ := Aside0.mk (below_step (have z0_ := GE323; Zf) hb); clear BK323; clear HB; have BK323 := n0_; have HB := n1_; clear n0_ n1_; (try clear hb); (try clear hb2); (try clear hk); (try clear hi); obtain ⟨hcz10_0, hcz10_1, hcz10_2, hfz10_0, hfz10_1, hfz10_2⟩ := cz3 BK323) | (go_at_call 97; (with_reducible refine (impl_AreArticles.calls k _ _ l0_1 true _ ?side1 ?side2 A6.out).mono ?_); (case side1 => exact (have z0_ := HR0_1; Zad)); (case side2 => exact HC0_1.out); rintro e w11 ⟨rfl, hb⟩; have n0_ := Aside0.mk (blk_below (g := gb323) (o := .cells #[.slice A0_0 l0_0.length c0_0, .slice A0_1 l0_1.length c0_1, .slice A0_2 l0_2.length c0_2] 32 (0, 0)) (have z0_ := BK323; Ze) hb); have n1_ := Aside0.mk (below_step (have z0_ := GE323; Zf) hb); clear BK323; clear HB; have BK323 := n0_; have HB := n1_; clear n0_ n1_; (try clear hb); (try clear hb2); (try clear hk); (try clear hi); obtain ⟨hcz12_0, hcz12_1, hcz12_2, hfz12_0, hfz12_1, hfz12_2⟩ := cz3 BK323))
    go_meet
    case rel => exact ⟨_, (decide ((l0_2.length : Int) > 20)), Za, H', ⟨Zm⟩, ⟨(have z0_ := BK323; Ze)⟩, ⟨(have z0_ := GE323; Zf)⟩⟩
   ·replace c7 := Bool.eq_false_iff.mpr c7
    subst c7
    have H1 : (impl_IsShow.j0 k true l0_0 l0_1 l0_2) = some r := by rw [if_neg (show ¬ (false = true) by decide)] at H; exact H
    clear H
    have H := H1
    clear H1
    have H' := Aside0.mk H
    clear H
    obtain ⟨hcz13_0, hcz13_1, hcz13_2, hfz13_0, hfz13_1, hfz13_2⟩ := cz3 BK323
    go_wp2_with (first | ((with_reducible refine gate_callee (f := 96) rfl ?_); refine goesL_ (some 7) rfl rfl Try.func96 Zj rfl #[.slice A0_0 l0_0.length c0_0] rfl Zo ?_; (with_reducible refine (impl_IsScore.calls k _ _ l0_0 true _ ?side1 ?side2 A4.out).mono ?_); (case side1 => exact (have z0_ := HR0_0; Zad)); (case side2 => exact HC0_0.out); rintro e w14 ⟨rfl, hb⟩; refine ⟨_, rfl, ?_⟩; have n0_ := Aside0.mk (blk_below (g := gb323) (o := .cells #[.slice A0_0 l0_0.length c0_0, .slice A0_1 l0_1.length c0_1, .slice A0_2 l0_2.length c0_2] 32 (0, 0)) (have z0_ := BK323; Ze) hb); have n1_ := Aside0.mk (below_step (have z0_ := GE323; Zf) hb); clear BK323; clear HB; have BK323 := n0_; have HB := n1_; clear n0_ n1_; (try clear hb); (try clear hb2); (try clear hk); (try clear hi); obtain ⟨hcz15_0, hcz15_1, hcz15_2, hfz15_0, hfz15_1, hfz15_2⟩ := cz3 BK323) | (go_at_call 97; (with_reducible refine (impl_AreArticles.calls k _ _ l0_1 false _ ?side1 ?side2 A6.out).mono ?_); (case side1 => exact (have z0_ := HR0_1; Zad)); (case side2 => exact HC0_1.out); rintro e w16 ⟨rfl, hb⟩; have n0_ := Aside0.mk (blk_below (g := gb323) (o := .cells #[.slice A0_0 l0_0.length c0_0, .slice A0_1 l0_1.length c0_1, .slice A0_2 l0_2.length c0_2] 32 (0, 0)) (have z0_ := BK323; Ze) hb); have n1_ := Aside0.mk (below_step (have z0_ := GE323; Zf) hb); clear BK323; clear HB; have BK323 := n0_; have HB := n1_; clear n0_ n1_; (try clear hb); (try clear hb2); (try clear hk); (try clear hi)))
    go_meet
    case rel => exact ⟨_, (true), Za, H', ⟨Zm⟩, ⟨(have z0_ := BK323; Ze)⟩, ⟨(have z0_ := GE323; Zf)⟩⟩
  ·replace c5 := Bool.eq_false_iff.mpr c5
   subst c5
   have H1 : (impl_IsShow.j0 k true l0_0 l0_1 l0_2) = some r := by rw [if_neg (show ¬ (false = true) by decide)] at H; exact H
   clear H
   have H := H1
   clear H1
   have H' := Aside0.mk H
   clear H
   obtain ⟨hcz17_0, hcz17_1, hcz17_2, hfz17_0, hfz17_1, hfz17_2⟩ := cz3 BK323
   go_wp2_with (first | ((with_reducible refine gate_callee (f := 96) rfl ?_); refine goesL_ (some 7) rfl rfl Try.func96 Zj rfl #[.slice A0_0 l0_0.length c0_0] rfl Zo ?_; (with_reducible refine (impl_IsScore.calls k _ _ l0_0 false _ ?side1 ?side2 A4.out).mono ?_); (case side1 => exact (have z0_ := HR0_0; Zad)); (case side2 => exact HC0_0.out); rintro e w18 ⟨rfl, hb⟩; refine ⟨_, rfl, ?_⟩; have n0_ := Aside0.mk (blk_below (g := gb323) (o := .cells #[.slice A0_0 l0_0.length c0_0, .slice A0_1 l0_1.length c0_1, .slice A0_2 l0_2.length c0_2] 32 (0, 0)) (have z0_ := BK323; Ze) hb); have n1_ := Aside0.mk (below_step (have z0_ := GE323; Zf) hb); clear BK323; clear HB; have BK323 := n0_; have HB := n1_; clear n0_ n1_; (try clear hb); (try clear hb2); (try clear hk); (try clear hi)))
   go_meet
   case rel => exact ⟨_, (true), Za, H', ⟨Zm⟩, ⟨(have z0_ := BK323; Ze)⟩, ⟨(have z0_ := GE323; Zf)⟩⟩
 case rest =>
  clear HC2
  try clear p2
  try clear c3
  try clear c5
  try clear c7
  try clear c9
  try clear hcz10_0
  try clear hcz10_1
  try clear hcz10_2
  try clear hcz12_0
  try clear hcz12_1
  try clear hcz12_2
  try clear hcz13_0
  try clear hcz13_1
  try clear hcz13_2
  try clear hcz15_0
  try clear hcz15_1
  try clear hcz15_2
  try clear hcz17_0
  try clear hcz17_1
  try clear hcz17_2
  try clear hcz8_0
  try clear hcz8_1
  try clear hcz8_2
  try clear hfz10_0
  try clear hfz10_1
  try clear hfz10_2
  try clear hfz12_0
  try clear hfz12_1
  try clear hfz12_2
  try clear hfz13_0
  try clear hfz13_1
  try clear hfz13_2
  try clear hfz15_0
  try clear hfz15_1
  try clear hfz15_2
  try clear hfz17_0
  try clear hfz17_1
  try clear hfz17_2
  try clear hfz8_0
  try clear hfz8_1
  try clear hfz8_2
  obtain ⟨kq, x20_1, rfl, HA, HJ1, BK323, HB⟩ := hcut
  cases kq with
  | zero => exact absurd HA.out (by simp [impl_IsShow.j0])
  | succ kj1 =>
   have H := HA.out
   clear HA
   simp only [impl_IsShow.j0] at H
   by_cases c19 : x20_1 = true
   ·subst c19
    have H1 : (some false) = some r := by rw [if_pos rfl] at H; exact H
    clear H
    have H := H1
    clear H1
    obtain rfl := Option.some.inj H
    go_wp2
    go_ret
    exact ⟨Zk, (have z0_ := GE323; Zf)⟩
   ·replace c19 := Bool.eq_false_iff.mpr c19
    subst c19
    have H1 : (impl_IsShow.l0 kj1 l0_2 (l0_2.length : Int) 0 l0_0 l0_1 l0_2) = some r := by rw [if_neg (show ¬ (false = true) by decide)] at H; exact H
    clear H
    have H := H1
    clear H1
    have H' := Aside0.mk H
    clear H
    obtain ⟨hcz20_0, hcz20_1, hcz20_2, hfz20_0, hfz20_1, hfz20_2⟩ := cz3 BK323
    go_wp2
    go_loopg [24] kj1 (fun kq v24 w' => ∃ (x24_2 : Int), v24 = .int .i64 x24_2 ∧ Aside0 (impl_IsShow.l0 kq l0_2 (l0_2.length : Int) x24_2 l0_0 l0_1 l0_2 = some r) ∧ Aside0 (kq ≤ kj1) ∧ Aside0 (w'.heap[gb323]? = some (.cells #[(.slice A0_0 l0_0.length c0_0), (.slice A0_1 l0_1.length c0_1), (.slice A0_2 l0_2.length c0_2)] 32 (0, 0))) ∧ Aside0 (Below w.heap.size w w'))
    case atStart => exact ⟨(0), Za, H', ⟨Nat.le_refl _⟩, ⟨(have z0_ := BK323; Ze)⟩, ⟨(have z0_ := GE323; Zf)⟩⟩
    case round =>
     clear H'
     try clear c1
     try clear p2
     try clear c3
     try clear c5
     try clear c7
     try clear c9
     try clear c19
     try clear hcz10_0
     try clear hcz10_1
     try clear hcz10_2
     try clear hcz12_0
     try clear hcz12_1
     try clear hcz12_2
     try clear hcz13_0
     try clear hcz13_1
     try clear hcz13_2
     try clear hcz15_0
     try clear hcz15_1
     try clear hcz15_2
     try clear hcz17_0
     try clear hcz17_1
     try clear hcz17_2
     try clear hcz20_0
     try clear hcz20_1
     try clear hcz20_2
     try clear hcz8_0
     try clear hcz8_1
     try clear hcz8_2
     try clear hfz10_0
     try clear hfz10_1
     try clear hfz10_2
     try clear hfz12_0
     try clear hfz12_1
     try clear hfz12_2
     try clear hfz13_0
     try clear hfz13_1
     try clear hfz13_2
     try clear hfz15_0
     try clear hfz15_1
     try clear hfz15_2
     try clear hfz17_0
     try clear hfz17_1
     try clear hfz17_2
     try clear hfz20_0
     try clear hfz20_1
     try clear hfz20_2
     try clear hfz8_0
     try clear hfz8_1
     try clear hfz8_2
     try clear p2
     obtain ⟨x24_2, rfl, HA, HK2, BK323, HB⟩ := hrel
     cases gk with
     | zero => exact absurd HA.out (by simp [impl_IsShow.l0])
     | succ k2 =>
      have H := HA.out
      clear HA
      simp only [impl_IsShow.l0] at H
      by_cases c21 : x24_2 < (l0_2.length : Int)
      ·rw [if_pos c21] at H
       have c21b0 := decide_eq_true c21
       clear c21
       by_cases c22 : 0 ≤ x24_2
       ·rw [if_pos c22] at H
        have c22b0 := decide_eq_true c22
        clear c22
        by_cases c23 : x24_2 < (l0_2.length : Int)
        ·rw [if_pos c23] at H
         have c23b0 := decide_eq_true c23
         clear c23
         replace H := Option.bind_eq_some_iff.mp H
         obtain ⟨t328, A240, H⟩ := H
         have A24 := Aside0.mk A240
         clear A240
         by_cases c25 : t328 = true
         ·subst c25
          have H1 : ((impl_firedAt.f k2 l0_0 l0_1 l0_2 ((rd_T43 l0_2 x24_2).f0) ((rd_T43 l0_2 x24_2).f1) ((rd_T43 l0_2 x24_2).f2) ((rd_T43 l0_2 x24_2).f3)).bind fun t329 => (if t329 < 0 then (some false) else (impl_IsShow.l0 k2 l0_2 (l0_2.length : Int) (wrap64 (x24_2 + 1)) l0_0 l0_1 l0_2))) = some r := by rw [if_pos rfl] at H; exact H
          clear H
          have H := H1
          clear H1
          replace H := Option.bind_eq_some_iff.mp H
          obtain ⟨t329, A260, H⟩ := H
          have A26 := Aside0.mk A260
          clear A260
          by_cases c27 : t329 < 0
          ·rw [if_pos c27] at H
           have c27b0 := decide_eq_true c27
           clear c27
           obtain rfl := Option.some.inj H
           have p326 : 0 ≤ (x24_2 : Int) := of_decide_eq_true Zp
           have q326 : x24_2 < (l0_2.length : Int) := of_decide_eq_true Zp
           obtain ⟨ad326, e326, hx326_0, hx326_1, hx326_2, hx326_3⟩ := at_T43 HR0_2.out x24_2 p326 q326
           cases e326
           replace hx326_0 := cbH HB hx326_0
           replace hx326_1 := cbH HB hx326_1
           replace hx326_2 := cbH HB hx326_2
           replace hx326_3 := cbH HB hx326_3
           replace p326 := eq_true p326
           replace q326 := eq_true q326
           go_wp2_with (first | ((with_reducible refine gate_dst (N := 4) rfl ?_); (try (refine gate_guard (by rfl) ?_; dsimp only)); refine boxZ 4 #[.int .i64 0, .int .i64 0, .string (⟨#[]⟩ : ByteArray), .int .i64 0] 43 ?_; intro gb327 hg w28 hbox hb; have n0_ := Aside0.mk (blk_below (g := gb323) (o := .cells #[.slice A0_0 l0_0.length c0_0, .slice A0_1 l0_1.length c0_1, .slice (some ad326) l0_2.length c0_2] 32 (0, 0)) (have z0_ := BK323; Ze) hb); have n1_ := Aside0.mk (below_step (have z0_ := GE323; Zf) hb); have n2_ := Aside0.mk (hbox); have n3_ := Aside0.mk (((have z0_ := GE323; Zg) : w.heap.size ≤ gb327)); have n4_ := Aside0.mk (((have z0_ := GE323; Zg) : w.heap.size ≤ gb327)); have n5_ := Aside0.mk (((have z0_ := BK323; Zbi) : gb323 ≠ gb327)); have n6_ := Aside0.mk (((have z0_ := BK323; Zbj) : gb327 ≠ gb323)); clear BK323; clear HB; have BK323 := n0_; have HB := n1_; have BK327 := n2_; have GW327 := n3_; have GE327 := n4_; have NB323_327 := n5_; have NB327_323 := n6_; clear n0_ n1_ n2_ n3_ n4_ n5_ n6_; clear hb hbox hg; have hnb29 := NB327_323.out; have hnc29 := NB323_327.out; obtain ⟨hcz30_0, hcz30_1, hcz30_2, hcz30_3, hfz30_0, hfz30_1, hfz30_2, hfz30_3⟩ := cz4 BK327) | ((with_reducible refine gate_callee (f := 89) rfl ?_); refine goesL_ (some 30) rfl rfl Try.func89 Zj rfl #[.int .i64 ((rd_T43 l0_2 x24_2).f3), .int .i64 0, .int .i64 11] rfl Zo ?_; (with_reducible refine (impl_within.calls ((rd_T43 l0_2 x24_2).f3) 0 11 true _ A24.out).mono ?_); rintro e w' ⟨rfl, ⟨nd, rfl⟩⟩; refine ⟨_, rfl, ?_⟩; obtain ⟨hcz31_0, hcz31_1, hcz31_2, hfz31_0, hfz31_1, hfz31_2⟩ := cz3 BK323) | (go_at_call 98; (with_reducible refine (impl_firedAt.calls k2 _ _ l0_0 _ _ l0_1 _ _ l0_2 ((rd_T43 l0_2 x24_2).f0) ((rd_T43 l0_2 x24_2).f1) ((rd_T43 l0_2 x24_2).f2) ((rd_T43 l0_2 x24_2).f3) t329 _ ?side1 ?side2 ?side3 ?side4 ?side5 ?side6 A26.out).mono ?_); (case side1 => exact Kd.C_below HR0_0.out (have z0_ := GE323; have z1_ := GE327; Zh)); (case side2 => exact HC0_0.out); (case side3 => exact Kd.C_below HR0_1.out (have z0_ := GE323; have z1_ := GE327; Zh)); (case side4 => exact HC0_1.out); (case side5 => exact Kd.C_below HR0_2.out (have z0_ := GE323; have z1_ := GE327; Zh)); (case side6 => exact HC0_2.out); rintro e w32 ⟨rfl, hb⟩; have n0_ := Aside0.mk (blk_below (g := gb323) (o := .cells #[.slice A0_0 l0_0.length c0_0, .slice A0_1 l0_1.length c0_1, .slice (some ad326) l0_2.length c0_2] 32 (0, 0)) (have z0_ := NB323_327; have z1_ := BK323; Zas) hb); have n1_ := Aside0.mk (blk_below (g := gb327) (o := .cells #[.int .i64 ((rd_T43 l0_2 x24_2).f0), .int .i64 ((rd_T43 l0_2 x24_2).f1), .string ((rd_T43 l0_2 x24_2).f2), .int .i64 ((rd_T43 l0_2 x24_2).f3)] 43 (0, 0)) (have z0_ := BK327; Zbk) hb); have n2_ := Aside0.mk (below_step (have z0_ := GE323; have z1_ := GE327; Zh) hb); clear BK323; clear BK327; clear HB; have BK323 := n0_; have BK327 := n1_; have HB := n2_; clear n0_ n1_ n2_; (try clear hb); (try clear hb2); (try clear hk); (try clear hi)))
           go_ret
           exact ⟨Zk, (have z0_ := GE323; have z1_ := GE327; Zh)⟩
          ·rw [if_neg c27] at H
           have c27b0 := decide_eq_false c27
           clear c27
           have H' := Aside0.mk H
           clear H
           have p326 : 0 ≤ (x24_2 : Int) := of_decide_eq_true Zp
           have q326 : x24_2 < (l0_2.length : Int) := of_decide_eq_true Zp
           obtain ⟨ad326, e326, hx326_0, hx326_1, hx326_2, hx326_3⟩ := at_T43 HR0_2.out x24_2 p326 q326
           cases e326
           replace hx326_0 := cbH HB hx326_0
           replace hx326_1 := cbH HB hx326_1
           replace hx326_2 := cbH HB hx326_2
           replace hx326_3 := cbH HB hx326_3
           replace p326 := eq_true p326
           replace q326 := eq_true q326
           go_wp2_with (first | ((with_reducible refine gate_dst (N := 4) rfl ?_); (try (refine gate_guard (by rfl) ?_; dsimp only)); refine boxZ 4 #[.int .i64 0, .int .i64 0, .string (⟨#[]⟩ : ByteArray), .int .i64 0] 43 ?_; intro gb327 hg w33 hbox hb; have n0_ := Aside0.mk (blk_below (g := gb323) (o := .cells #[.slice A0_0 l0_0.length c0_0, .slice A0_1 l0_1.length c0_1, .slice (some ad326) l0_2.length c0_2] 32 (0, 0)) (have z0_ := BK323; Ze) hb); have n1_ := Aside0.mk (below_step (have z0_ := GE323; Zf) hb); have n2_ := Aside0.mk (hbox); have n3_ := Aside0.mk (((have z0_ := GE323; Zg) : w.heap.size ≤ gb327)); have n4_ := Aside0.mk (((have z0_ := GE323; Zg) : w.heap.size ≤ gb327)); have n5_ := Aside0.mk (((have z0_ := BK323; Zbi) : gb323 ≠ gb327)); have n6_ := Aside0.mk (((have z0_ := BK323; Zbj) : gb327 ≠ gb323)); clear BK323; clear HB; have BK323 := n0_; have HB := n1_; have BK327 := n2_; have GW327 := n3_; have GE327 := n4_; have NB323_327 := n5_; have NB327_323 := n6_; clear n0_ n1_ n2_ n3_ n4_ n5_ n6_; clear hb hbox hg; have hnb34 := NB327_323.out; have hnc34 := NB323_327.out; obtain ⟨hcz35_0, hcz35_1, hcz35_2, hcz35_3, hfz35_0, hfz35_1, hfz35_2, hfz35_3⟩ := cz4 BK327) | ((with_reducible refine gate_callee (f := 89) rfl ?_); refine goesL_ (some 30) rfl rfl Try.func89 Zj rfl #[.int .i64 ((rd_T43 l0_2 x24_2).f3), .int .i64 0, .int .i64 11] rfl Zo ?_; (with_reducible refine (impl_within.calls ((rd_T43 l0_2 x24_2).f3) 0 11 true _ A24.out).mono ?_); rintro e w' ⟨rfl, ⟨nd, rfl⟩⟩; refine ⟨_, rfl, ?_⟩; obtain ⟨hcz36_0, hcz36_1, hcz36_2, hfz36_0, hfz36_1, hfz36_2⟩ := cz3 BK323) | (go_at_call 98; (with_reducible refine (impl_firedAt.calls k2 _ _ l0_0 _ _ l0_1 _ _ l0_2 ((rd_T43 l0_2 x24_2).f0) ((rd_T43 l0_2 x24_2).f1) ((rd_T43 l0_2 x24_2).f2) ((rd_T43 l0_2 x24_2).f3) t329 _ ?side1 ?side2 ?side3 ?side4 ?side5 ?side6 A26.out).mono ?_); (case side1 => exact Kd.C_below HR0_0.out (have z0_ := GE323; have z1_ := GE327; Zh)); (case side2 => exact HC0_0.out); (case side3 => exact Kd.C_below HR0_1.out (have z0_ := GE323; have z1_ := GE327; Zh)); (case side4 => exact HC0_1.out); (case side5 => exact Kd.C_below HR0_2.out (have z0_ := GE323; have z1_ := GE327; Zh)); (case side6 => exact HC0_2.out); rintro e w37 ⟨rfl, hb⟩; have n0_ := Aside0.mk (blk_below (g := gb323) (o := .cells #[.slice A0_0 l0_0.length c0_0, .slice A0_1 l0_1.length c0_1, .slice (some ad326) l0_2.length c0_2] 32 (0, 0)) (have z0_ := NB323_327; have z1_ := BK323; Zas) hb); have n1_ := Aside0.mk (blk_below (g := gb327) (o := .cells #[.int .i64 ((rd_T43 l0_2 x24_2).f0), .int .i64 ((rd_T43 l0_2 x24_2).f1), .string ((rd_T43 l0_2 x24_2).f2), .int .i64 ((rd_T43 l0_2 x24_2).f3)] 43 (0, 0)) (have z0_ := BK327; Zbk) hb); have n2_ := Aside0.mk (below_step (have z0_ := GE323; have z1_ := GE327; Zh) hb); clear BK323; clear BK327; clear HB; have BK323 := n0_; have BK327 := n1_; have HB := n2_; clear n0_ n1_ n2_; (try clear hb); (try clear hb2); (try clear hk); (try clear hi)))
           go_roundg k2
           case measure => have := HJ1.out; have := HK2.out; omega
           case rel => exact ⟨(wrap64 (x24_2 + 1)), Za, H', ⟨by have := HJ1.out; have := HK2.out; omega⟩, ⟨(have z0_ := BK323; Ze)⟩, ⟨(have z0_ := GE323; have z1_ := GE327; Zh)⟩⟩
         ·replace c25 := Bool.eq_false_iff.mpr c25
          subst c25
          have H1 : (some false) = some r := by rw [if_neg (show ¬ (false = true) by decide)] at H; exact H
          clear H
          have H := H1
          clear H1
          obtain rfl := Option.some.inj H
          have p326 : 0 ≤ (x24_2 : Int) := of_decide_eq_true Zp
          have q326 : x24_2 < (l0_2.length : Int) := of_decide_eq_true Zp
          obtain ⟨ad326, e326, hx326_0, hx326_1, hx326_2, hx326_3⟩ := at_T43 HR0_2.out x24_2 p326 q326
          cases e326
          replace hx326_0 := cbH HB hx326_0
          replace hx326_1 := cbH HB hx326_1
          replace hx326_2 := cbH HB hx326_2
          replace hx326_3 := cbH HB hx326_3
          replace p326 := eq_true p326
          replace q326 := eq_true q326
          go_wp2_with (first | ((with_reducible refine gate_dst (N := 4) rfl ?_); (try (refine gate_guard (by rfl) ?_; dsimp only)); refine boxZ 4 #[.int .i64 0, .int .i64 0, .string (⟨#[]⟩ : ByteArray), .int .i64 0] 43 ?_; intro gb327 hg w38 hbox hb; have n0_ := Aside0.mk (blk_below (g := gb323) (o := .cells #[.slice A0_0 l0_0.length c0_0, .slice A0_1 l0_1.length c0_1, .slice (some ad326) l0_2.length c0_2] 32 (0, 0)) (have z0_ := BK323; Ze) hb); have n1_ := Aside0.mk (below_step (have z0_ := GE323; Zf) hb); have n2_ := Aside0.mk (hbox); have n3_ := Aside0.mk (((have z0_ := GE323; Zg) : w.heap.size ≤ gb327)); have n4_ := Aside0.mk (((have z0_ := GE323; Zg) : w.heap.size ≤ gb327)); have n5_ := Aside0.mk (((have z0_ := BK323; Zbi) : gb323 ≠ gb327)); have n6_ := Aside0.mk (((have z0_ := BK323; Zbj) : gb327 ≠ gb323)); clear BK323; clear HB; have BK323 := n0_; have HB := n1_; have BK327 := n2_; have GW327 := n3_; have GE327 := n4_; have NB323_327 := n5_; have NB327_323 := n6_; clear n0_ n1_ n2_ n3_ n4_ n5_ n6_; clear hb hbox hg; have hnb39 := NB327_323.out; have hnc39 := NB323_327.out; obtain ⟨hcz40_0, hcz40_1, hcz40_2, hcz40_3, hfz40_0, hfz40_1, hfz40_2, hfz40_3⟩ := cz4 BK327) | ((with_reducible refine gate_callee (f := 89) rfl ?_); refine goesL_ (some 30) rfl rfl Try.func89 Zj rfl #[.int .i64 ((rd_T43 l0_2 x24_2).f3), .int .i64 0, .int .i64 11] rfl Zo ?_; (with_reducible refine (impl_within.calls ((rd_T43 l0_2 x24_2).f3) 0 11 false _ A24.out).mono ?_); rintro e w' ⟨rfl, ⟨nd, rfl⟩⟩; refine ⟨_, rfl, ?_⟩))
          go_ret
          exact ⟨Zk, (have z0_ := GE323; have z1_ := GE327; Zh)⟩
        ·rw [if_neg c23] at H
         exact absurd H (by simp)
       ·rw [if_neg c22] at H
        exact absurd H (by simp)
      ·rw [if_neg c21] at H
       have c21b0 := decide_eq_false c21
       clear c21
       obtain rfl := Option.some.inj H
       go_wp2
       go_ret
       exact ⟨Zk, (have z0_ := GE323; Zf)⟩
def impl_articleFor.f (k : Nat) (l0_0 : List (S108)) (l0_1 : List (S92)) (l0_2 : List (S43)) (a1_0 : Int) (a1_1 : Int) (a1_2 : ByteArray) (a1_3 : Int) : Option (ByteArray × Int × Int × Int × Int × Int × Int × Int × Int) := (impl_articleOf.f k l0_1 a1_2).bind fun t816 => (if 0 ≤ t816 then (if t816 < (l0_1.length : Int) then (some ((rd_T92 l0_1 t816).f0, (rd_T92 l0_1 t816).f1, (rd_T92 l0_1 t816).f2, (rd_T92 l0_1 t816).f3, (rd_T92 l0_1 t816).f4, (rd_T92 l0_1 t816).f5, (rd_T92 l0_1 t816).f6, (rd_T92 l0_1 t816).f7, (rd_T92 l0_1 t816).f8)) else (none)) else (none))
def impl_articleFor.T1 : Bool × List (List Nat × List Nat) := (true, [([], []), ([0], [0]), ([], []), ([2], [2]), ([], []), ([4], [4]), ([3, 5], [3, 5]), ([1, 6], [1, 6]), ([7], [7]), ([8, 6, 0, 1, 2, 3, 4, 5, 6, 7, 8], [8])])
def impl_articleFor.B1 : List Nat := [0, 1, 0, 4, 0, 16, 60, 127, 255, 511]
theorem impl_articleFor.tab1 : rtab .any (opsOf Try.f101 1) = impl_articleFor.T1 := by kernel_rfl
theorem impl_articleFor.bits1 : waitsOk impl_articleFor.T1.2 impl_articleFor.B1 = true := by kernel_rfl
set_option maxHeartbeats 8000000 in
set_option maxRecDepth 100000 in
theorem impl_articleFor.calls (k : Nat) (A0_0 : Option Addr) (c0_0 : Nat) (l0_0 : List (S108)) (A0_1 : Option Addr) (c0_1 : Nat) (l0_1 : List (S92)) (A0_2 : Option Addr) (c0_2 : Nat) (l0_2 : List (S43)) (a1_0 : Int) (a1_1 : Int) (a1_2 : ByteArray) (a1_3 : Int) (r1 : ByteArray) (r2 : Int) (r3 : Int) (r4 : Int) (r5 : Int) (r6 : Int) (r7 : Int) (r8 : Int) (r9 : Int) (w : World) (hr0_0 : Kd.C k108 w A0_0 l0_0.length l0_0) (hc0_0 : l0_0.length ≤ c0_0) (hr0_1 : Kd.C k92 w A0_1 l0_1.length l0_1) (hc0_1 : l0_1.length ≤ c0_1) (hr0_2 : Kd.C k43 w A0_2 l0_2.length l0_2) (hc0_2 : l0_2.length ≤ c0_2) (h : impl_articleFor.f k l0_0 l0_1 l0_2 a1_0 a1_1 a1_2 a1_3 = some (r1, r2, r3, r4, r5, r6, r7, r8, r9)) :
  Calls Try.prog 101 #[.agg #[.slice A0_0 l0_0.length c0_0, .slice A0_1 l0_1.length c0_1, .slice A0_2 l0_2.length c0_2], .agg #[.int .i64 a1_0, .int .i64 a1_1, .string a1_2, .int .i64 a1_3]] w fun e w' => e = .returned (.agg #[.string r1, .int .i64 r2, .int .i64 r3, .int .i64 r4, .int .i64 r5, .int .i64 r6, .int .i64 r7, .int .i64 r8, .int .i64 r9]) ∧ Below w.heap.size w w' := by
 have hu32 := Try.underlying32
 have hu43 := Try.underlying43
 have hu92 := Try.underlying92
 have HR0_0 := Aside0.mk hr0_0
 have HC0_0 := Aside0.mk hc0_0
 clear hr0_0 hc0_0
 have HR0_1 := Aside0.mk hr0_1
 have HC0_1 := Aside0.mk hc0_1
 clear hr0_1 hc0_1
 have HR0_2 := Aside0.mk hr0_2
 have HC0_2 := Aside0.mk hc0_2
 clear hr0_2 hc0_2
 have HB := Aside0.mk (Below.refl w.heap.size w)
 have H : ((impl_articleOf.f k l0_1 a1_2).bind fun t816 => (if 0 ≤ t816 then (if t816 < (l0_1.length : Int) then (some ((rd_T92 l0_1 t816).f0, (rd_T92 l0_1 t816).f1, (rd_T92 l0_1 t816).f2, (rd_T92 l0_1 t816).f3, (rd_T92 l0_1 t816).f4, (rd_T92 l0_1 t816).f5, (rd_T92 l0_1 t816).f6, (rd_T92 l0_1 t816).f7, (rd_T92 l0_1 t816).f8)) else (none)) else (none))) = some (r1, r2, r3, r4, r5, r6, r7, r8, r9) := h
 clear h
 replace H := Option.bind_eq_some_iff.mp H
 obtain ⟨t816, A30, H⟩ := H
 have A3 := Aside0.mk A30
 clear A30
 by_cases c4 : 0 ≤ t816
 ·rw [if_pos c4] at H
  have c4b0 := decide_eq_true c4
  clear c4
  by_cases c5 : t816 < (l0_1.length : Int)
  ·rw [if_pos c5] at H
   have c5b0 := decide_eq_true c5
   clear c5
   simp only [Option.some.injEq, Prod.mk.injEq] at H
   obtain ⟨rfl, rfl, rfl, rfl, rfl, rfl, rfl, rfl, rfl⟩ := H
   go_enter Try.func101, Try.ntmps101
   try go_wp2_with (first | ((with_reducible refine gate_dst (N := 2) rfl ?_); refine boxZ 2 #[.slice A0_0 l0_0.length c0_0, .slice A0_1 l0_1.length c0_1, .slice A0_2 l0_2.length c0_2] 32 ?_; intro gb813 hg w6 hbox hb; have n0_ := Aside0.mk (below_step Zc hb); have n1_ := Aside0.mk (hbox); have n2_ := Aside0.mk ((Zd : w.heap.size ≤ gb813)); have n3_ := Aside0.mk ((Zd : w.heap.size ≤ gb813)); clear HB; have HB := n0_; have BK813 := n1_; have GW813 := n2_; have GE813 := n3_; clear n0_ n1_ n2_ n3_; clear hb hbox hg) | ((with_reducible refine gate_dst (N := 3) rfl ?_); refine boxZ 3 #[.int .i64 a1_0, .int .i64 a1_1, .string a1_2, .int .i64 a1_3] 43 ?_; intro gb814 hg w7 hbox hb; have n0_ := Aside0.mk (blk_below (g := gb813) (o := .cells #[.slice A0_0 l0_0.length c0_0, .slice A0_1 l0_1.length c0_1, .slice A0_2 l0_2.length c0_2] 32 (0, 0)) (have z0_ := BK813; Ze) hb); have n1_ := Aside0.mk (below_step (have z0_ := GE813; Zf) hb); have n2_ := Aside0.mk (hbox); have n3_ := Aside0.mk (((have z0_ := GE813; Zg) : w.heap.size ≤ gb814)); have n4_ := Aside0.mk (((have z0_ := GE813; Zg) : w.heap.size ≤ gb814)); have n5_ := Aside0.mk (((have z0_ := BK813; Zbl) : gb813 ≠ gb814)); have n6_ := Aside0.mk (((have z0_ := BK813; Zbm) : gb814 ≠ gb813)); clear BK813; clear HB; have BK813 := n0_; have HB := n1_; have BK814 := n2_; have GW814 := n3_; have GE814 := n4_; have NB813_814 := n5_; have NB814_813 := n6_; clear n0_ n1_ n2_ n3_ n4_ n5_ n6_; clear hb hbox hg) | ((with_reducible refine gate_dst (N := 4) rfl ?_); refine boxZ 4 #[.string (⟨#[]⟩ : ByteArray), .int .i64 0, .int .i64 0, .int .i64 0, .int .i64 0, .int .i64 0, .int .i64 0, .int .i64 0, .int .i64 0] 92 ?_; intro gb815 hg w8 hbox hb; have n0_ := Aside0.mk (blk_below (g := gb813) (o := .cells #[.slice A0_0 l0_0.length c0_0, .slice A0_1 l0_1.length c0_1, .slice A0_2 l0_2.length c0_2] 32 (0, 0)) (have z0_ := BK813; Ze) hb); have n1_ := Aside0.mk (blk_below (g := gb814) (o := .cells #[.int .i64 a1_0, .int .i64 a1_1, .string a1_2, .int .i64 a1_3] 43 (0, 0)) (have z0_ := BK814; Ze) hb); have n2_ := Aside0.mk (below_step (have z0_ := GE813; have z1_ := GE814; Zh) hb); have n3_ := Aside0.mk (hbox); have n4_ := Aside0.mk (((have z0_ := GE813; have z1_ := GE814; Zi) : w.heap.size ≤ gb815)); have n5_ := Aside0.mk (((have z0_ := GE813; have z1_ := GE814; Zi) : w.heap.size ≤ gb815)); have n6_ := Aside0.mk (((have z0_ := BK813; Zbl) : gb813 ≠ gb815)); have n7_ := Aside0.mk (((have z0_ := BK813; Zbm) : gb815 ≠ gb813)); have n8_ := Aside0.mk ((by rw [hg]; exact Nat.ne_of_lt (blk_lt (g := gb814) (o := .cells #[.int .i64 a1_0, .int .i64 a1_1, .string a1_2, .int .i64 a1_3] 43 (0, 0)) (have z0_ := BK814; Ze)) : gb814 ≠ gb815)); have n9_ := Aside0.mk ((by rw [hg]; exact Nat.ne_of_gt (blk_lt (g := gb814) (o := .cells #[.int .i64 a1_0, .int .i64 a1_1, .string a1_2, .int .i64 a1_3] 43 (0, 0)) (have z0_ := BK814; Ze)) : gb815 ≠ gb814)); clear BK813; clear BK814; clear HB; have BK813 := n0_; have BK814 := n1_; have HB := n2_; have BK815 := n3_; have GW815 := n4_; have GE815 := n5_; have NB813_815 := n6_; have NB815_813 := n7_; have NB814_815 := n8_; have NB815_814 := n9_; clear n0_ n1_ n2_ n3_ n4_ n5_ n6_ n7_ n8_ n9_; clear hb hbox hg))
   have n0_ := Aside0.mk (blk_drew BK813.out)
   have n1_ := Aside0.mk (blk_drew BK814.out)
   have n2_ := Aside0.mk (blk_drew BK815.out)
   have n3_ := Aside0.mk (below_drew1 HB.out)
   clear BK813
   clear BK814
   clear BK815
   clear HB
   have BK813 := n0_
   have BK814 := n1_
   have BK815 := n2_
   have HB := n3_
   clear n0_ n1_ n2_ n3_
   have p817 : 0 ≤ (t816 : Int) := of_decide_eq_true Zp
   have q817 : t816 < (l0_1.length : Int) := of_decide_eq_true Zp
   obtain ⟨ad817, e817, hx817_0, hx817_1, hx817_2, hx817_3, hx817_4, hx817_5, hx817_6, hx817_7, hx817_8⟩ := at_T92 HR0_1.out t816 p817 q817
   have hw817_8 := hx817_8
   have hw817_7 := hx817_7
   have hw817_6 := hx817_6
   have hw817_5 := hx817_5
   have hw817_4 := hx817_4
   have hw817_3 := hx817_3
   have hw817_2 := hx817_2
   have hw817_1 := hx817_1
   have hw817_0 := hx817_0
   cases e817
   replace hx817_0 := cbH HB hx817_0
   replace hx817_1 := cbH HB hx817_1
   replace hx817_2 := cbH HB hx817_2
   replace hx817_3 := cbH HB hx817_3
   replace hx817_4 := cbH HB hx817_4
   replace hx817_5 := cbH HB hx817_5
   replace hx817_6 := cbH HB hx817_6
   replace hx817_7 := cbH HB hx817_7
   replace hx817_8 := cbH HB hx817_8
   replace p817 := eq_true p817
   replace q817 := eq_true q817
   refine start_ (n := 10) (S := fun w' => w'.cell? ⟨gb813, 0, none⟩ = some (.slice A0_0 l0_0.length c0_0) ∧ w'.cell? ⟨gb813, 1, none⟩ = some (.slice (some ad817) l0_1.length c0_1) ∧ w'.cell? ⟨gb813, 2, none⟩ = some (.slice A0_2 l0_2.length c0_2) ∧ w'.cell? ⟨gb814, 0, none⟩ = some (.int .i64 a1_0) ∧ w'.cell? ⟨gb814, 1, none⟩ = some (.int .i64 a1_1) ∧ w'.cell? ⟨gb814, 2, none⟩ = some (.string a1_2) ∧ w'.cell? ⟨gb814, 3, none⟩ = some (.int .i64 a1_3) ∧ w'.cell? (ad817.add ((t816).toNat * 9)) = some (.string ((rd_T92 l0_1 t816).f0)) ∧ w'.cell? ⟨(ad817.add ((t816).toNat * 9)).block, (ad817.add ((t816).toNat * 9)).off + 1, none⟩ = some (.int .i64 ((rd_T92 l0_1 t816).f1)) ∧ w'.cell? ⟨(ad817.add ((t816).toNat * 9)).block, (ad817.add ((t816).toNat * 9)).off + 2, none⟩ = some (.int .i64 ((rd_T92 l0_1 t816).f2)) ∧ w'.cell? ⟨(ad817.add ((t816).toNat * 9)).block, (ad817.add ((t816).toNat * 9)).off + 3, none⟩ = some (.int .i64 ((rd_T92 l0_1 t816).f3)) ∧ w'.cell? ⟨(ad817.add ((t816).toNat * 9)).block, (ad817.add ((t816).toNat * 9)).off + 4, none⟩ = some (.int .i64 ((rd_T92 l0_1 t816).f4)) ∧ w'.cell? ⟨(ad817.add ((t816).toNat * 9)).block, (ad817.add ((t816).toNat * 9)).off + 5, none⟩ = some (.int .i64 ((rd_T92 l0_1 t816).f5)) ∧ w'.cell? ⟨(ad817.add ((t816).toNat * 9)).block, (ad817.add ((t816).toNat * 9)).off + 6, none⟩ = some (.int .i64 ((rd_T92 l0_1 t816).f6)) ∧ w'.cell? ⟨(ad817.add ((t816).toNat * 9)).block, (ad817.add ((t816).toNat * 9)).off + 7, none⟩ = some (.int .i64 ((rd_T92 l0_1 t816).f7)) ∧ w'.cell? ⟨(ad817.add ((t816).toNat * 9)).block, (ad817.add ((t816).toNat * 9)).off + 8, none⟩ = some (.int .i64 ((rd_T92 l0_1 t816).f8))) (ds := []) (bT 10 0) Zj rfl rfl ⟨(blk_cell BK813.out 0).trans rfl, (blk_cell BK813.out 1).trans rfl, (blk_cell BK813.out 2).trans rfl, (blk_cell BK814.out 0).trans rfl, (blk_cell BK814.out 1).trans rfl, (blk_cell BK814.out 2).trans rfl, (blk_cell BK814.out 3).trans rfl, (cbH HB hw817_0 :), (cbH HB hw817_1 :), (cbH HB hw817_2 :), (cbH HB hw817_3 :), (cbH HB hw817_4 :), (cbH HB hw817_5 :), (cbH HB hw817_6 :), (cbH HB hw817_7 :), (cbH HB hw817_8 :)⟩ (fun hHeld => ?_); refine with_tabW impl_articleFor.tab1 impl_articleFor.bits1 (fun HT_ HW_ => ?_)
   generalize w8.drew = w9 at BK813 BK814 BK815 HB hx817_0 hx817_1 hx817_2 hx817_3 hx817_4 hx817_5 hx817_6 hx817_7 hx817_8 hHeld ⊢
   refine pureZ HT_ 0 (some 5) (bT 10 1) ?_
   refine pureZ HT_ 2 (some 7) #[true, false, true, false, false, false, false, false, false, false] ?_
   refine pureZ HT_ 4 (some 9) #[true, false, true, false, true, false, false, false, false, false] ?_
   refine take_ (i := 1) (N := some 6) (v := ?_) (a' := ?_) #[true, true, true, false, true, false, false, false, false, false] rfl rfl (take_ofW HT_.out HW_.out Zj) (fun _ _ _ h => h) (Or.inl ⟨by rfl, ?_⟩) hHeld ?_ ?_
   rotate_left
   ·rintro w' ⟨s0, s1, s2, s3, s4, s5, s6, s7, s8, s9, s10, s11, s12, s13, s14, s15⟩
    go_simp
    with_reducible rfl
   rotate_left
   ·exact Zput
   refine take_ (i := 3) (N := some 8) (v := ?_) (a' := ?_) (bT 10 5) rfl rfl (take_ofW HT_.out HW_.out Zj) (fun _ _ _ h => h) (Or.inl ⟨by rfl, ?_⟩) hHeld ?_ ?_
   rotate_left
   ·rintro w' ⟨s0, s1, s2, s3, s4, s5, s6, s7, s8, s9, s10, s11, s12, s13, s14, s15⟩
    go_simp
    with_reducible rfl
   rotate_left
   ·exact Zput
   refine take_ (i := 5) (N := some 10) (v := ?_) (a' := ?_) (bT 10 6) rfl rfl (take_ofW HT_.out HW_.out Zj) (fun _ _ _ h => h) (Or.inl ⟨by rfl, ?_⟩) hHeld ?_ ?_
   rotate_left
   ·rintro w' ⟨s0, s1, s2, s3, s4, s5, s6, s7, s8, s9, s10, s11, s12, s13, s14, s15⟩
    go_simp
    with_reducible rfl
   rotate_left
   ·exact Zput
   refine one_ (i := 6) (N := some 11) (bT 10 7) rfl rfl (one_of HT_.out Zj) (by decide) (fun K hK => ?_)
   refine goes_ Try.func113 Zj rfl #[.slice (some ad817) l0_1.length c0_1, .string a1_2] (by rfl) rfl rfl Zo ?_
   with_reducible refine (impl_articleOf.calls k _ _ l0_1 a1_2 t816 _ ?side1 ?side2 A3.out).mono ?_
   (case side1 => exact (have z0_ := HR0_1; Zad))
   (case side2 => exact HC0_1.out)
   rintro e w10 ⟨rfl, hb⟩
   refine ⟨_, rfl, ?_⟩
   have n0_ := Aside0.mk (blk_below (g := gb813) (o := .cells #[.slice A0_0 l0_0.length c0_0, .slice (some ad817) l0_1.length c0_1, .slice A0_2 l0_2.length c0_2] 32 (0, 0)) (have z0_ := BK813; Ze) hb)
   have n1_ := Aside0.mk (blk_below (g := gb814) (o := .cells #[.int .i64 a1_0, .int .i64 a1_1, .string a1_2, .int .i64 a1_3] 43 (0, 0)) (have z0_ := BK814; Ze) hb)
   have n2_ := Aside0.mk (blk_below (g := gb815) (o := .cells #[.string (⟨#[]⟩ : ByteArray), .int .i64 0, .int .i64 0, .int .i64 0, .int .i64 0, .int .i64 0, .int .i64 0, .int .i64 0, .int .i64 0] 92 (0, 0)) (have z0_ := BK815; Ze) hb)
   have n3_ := Aside0.mk (below_step (have z0_ := GE813; have z1_ := GE814; have z2_ := GE815; Zl) hb)
   clear BK813
   clear BK814
   clear BK815
   clear HB
   have BK813 := n0_
   have BK814 := n1_
   have BK815 := n2_
   have HB := n3_
   clear n0_ n1_ n2_ n3_
   (try clear hb)
   (try clear hb2)
   (try clear hk)
   (try clear hi)
   refine hK.out _ _ ⟨(blk_cell BK813.out 0).trans rfl, (blk_cell BK813.out 1).trans rfl, (blk_cell BK813.out 2).trans rfl, (blk_cell BK814.out 0).trans rfl, (blk_cell BK814.out 1).trans rfl, (blk_cell BK814.out 2).trans rfl, (blk_cell BK814.out 3).trans rfl, (cbH HB hw817_0 :), (cbH HB hw817_1 :), (cbH HB hw817_2 :), (cbH HB hw817_3 :), (cbH HB hw817_4 :), (cbH HB hw817_5 :), (cbH HB hw817_6 :), (cbH HB hw817_7 :), (cbH HB hw817_8 :)⟩ (fun hHeld => ?_)
   clear hK K
   refine norm_ (a' := ?_) ?_ ?_
   rotate_left
   ·show Act.put _ (some 11) _ = _
    simp only [Act.put, List.setIfInBounds_toArray, List.set_cons_zero, List.set_cons_succ, i64_w, i32_w]
    rfl
   refine pureZ HT_ 7 (some 12) (bT 10 8) ?_
   refine take_ (i := 8) (N := some 13) (v := ?_) (a' := ?_) (bT 10 9) rfl rfl (take_ofW HT_.out HW_.out Zj) (fun _ _ _ h => h) (Or.inl ⟨by rfl, ?_⟩) hHeld ?_ ?_
   rotate_left
   ·rintro w' ⟨s0, s1, s2, s3, s4, s5, s6, s7, s8, s9, s10, s11, s12, s13, s14, s15⟩
    go_simp
    with_reducible rfl
   rotate_left
   ·exact Zput
   refine one_ (i := 9) (N := none) (bT 10 10) rfl rfl (one_of HT_.out Zj) (by decide) (fun K hK => ?_)
   have hs11 : w10.cell? ⟨gb815, 0, none⟩ = some (.string (⟨#[]⟩ : ByteArray)) := (blk_cell BK815.out 0).trans rfl
   have hfs11 := blk_frozen BK815.out 0
   have hns11_0 := NB813_815.out
   have hns11_1 := NB814_815.out
   have hms11_0 := NB815_813.out
   have hms11_1 := NB815_814.out
   have hs12 : w10.cell? ⟨gb815, 1, none⟩ = some (.int .i64 0) := (blk_cell BK815.out 1).trans rfl
   have hfs12 := blk_frozen BK815.out 1
   have hns12_0 := NB813_815.out
   have hns12_1 := NB814_815.out
   have hms12_0 := NB815_813.out
   have hms12_1 := NB815_814.out
   have hs13 : w10.cell? ⟨gb815, 2, none⟩ = some (.int .i64 0) := (blk_cell BK815.out 2).trans rfl
   have hfs13 := blk_frozen BK815.out 2
   have hns13_0 := NB813_815.out
   have hns13_1 := NB814_815.out
   have hms13_0 := NB815_813.out
   have hms13_1 := NB815_814.out
   have hs14 : w10.cell? ⟨gb815, 3, none⟩ = some (.int .i64 0) := (blk_cell BK815.out 3).trans rfl
   have hfs14 := blk_frozen BK815.out 3
   have hns14_0 := NB813_815.out
   have hns14_1 := NB814_815.out
   have hms14_0 := NB815_813.out
   have hms14_1 := NB815_814.out
   have hs15 : w10.cell? ⟨gb815, 4, none⟩ = some (.int .i64 0) := (blk_cell BK815.out 4).trans rfl
   have hfs15 := blk_frozen BK815.out 4
   have hns15_0 := NB813_815.out
   have hns15_1 := NB814_815.out
   have hms15_0 := NB815_813.out
   have hms15_1 := NB815_814.out
   have hs16 : w10.cell? ⟨gb815, 5, none⟩ = some (.int .i64 0) := (blk_cell BK815.out 5).trans rfl
   have hfs16 := blk_frozen BK815.out 5
   have hns16_0 := NB813_815.out
   have hns16_1 := NB814_815.out
   have hms16_0 := NB815_813.out
   have hms16_1 := NB815_814.out
   have hs17 : w10.cell? ⟨gb815, 6, none⟩ = some (.int .i64 0) := (blk_cell BK815.out 6).trans rfl
   have hfs17 := blk_frozen BK815.out 6
   have hns17_0 := NB813_815.out
   have hns17_1 := NB814_815.out
   have hms17_0 := NB815_813.out
   have hms17_1 := NB815_814.out
   have hs18 : w10.cell? ⟨gb815, 7, none⟩ = some (.int .i64 0) := (blk_cell BK815.out 7).trans rfl
   have hfs18 := blk_frozen BK815.out 7
   have hns18_0 := NB813_815.out
   have hns18_1 := NB814_815.out
   have hms18_0 := NB815_813.out
   have hms18_1 := NB815_814.out
   have hs19 : w10.cell? ⟨gb815, 8, none⟩ = some (.int .i64 0) := (blk_cell BK815.out 8).trans rfl
   have hfs19 := blk_frozen BK815.out 8
   have hns19_0 := NB813_815.out
   have hns19_1 := NB814_815.out
   have hms19_0 := NB815_813.out
   have hms19_1 := NB815_814.out
   refine skip_ (w1 := ?_) (by rfl) rfl ?_ ?_
   rotate_left
   ·go_simp
    rfl
   refine hK.out _ _ ⟨((cell_far (p := ⟨gb815, _, none⟩) NB813_815.out _).trans (((cell_far (p := ⟨gb815, _, none⟩) NB813_815.out _).trans (((cell_far (p := ⟨gb815, _, none⟩) NB813_815.out _).trans (((cell_far (p := ⟨gb815, _, none⟩) NB813_815.out _).trans (((cell_far (p := ⟨gb815, _, none⟩) NB813_815.out _).trans (((cell_far (p := ⟨gb815, _, none⟩) NB813_815.out _).trans (((cell_far (p := ⟨gb815, _, none⟩) NB813_815.out _).trans (((cell_far (p := ⟨gb815, _, none⟩) NB813_815.out _).trans (((cell_far (p := ⟨gb815, _, none⟩) NB813_815.out _).trans (hHeld.1)))))))))))))))))), ((cell_far (p := ⟨gb815, _, none⟩) NB813_815.out _).trans (((cell_far (p := ⟨gb815, _, none⟩) NB813_815.out _).trans (((cell_far (p := ⟨gb815, _, none⟩) NB813_815.out _).trans (((cell_far (p := ⟨gb815, _, none⟩) NB813_815.out _).trans (((cell_far (p := ⟨gb815, _, none⟩) NB813_815.out _).trans (((cell_far (p := ⟨gb815, _, none⟩) NB813_815.out _).trans (((cell_far (p := ⟨gb815, _, none⟩) NB813_815.out _).trans (((cell_far (p := ⟨gb815, _, none⟩) NB813_815.out _).trans (((cell_far (p := ⟨gb815, _, none⟩) NB813_815.out _).trans (hHeld.2.1)))))))))))))))))), ((cell_far (p := ⟨gb815, _, none⟩) NB813_815.out _).trans (((cell_far (p := ⟨gb815, _, none⟩) NB813_815.out _).trans (((cell_far (p := ⟨gb815, _, none⟩) NB813_815.out _).trans (((cell_far (p := ⟨gb815, _, none⟩) NB813_815.out _).trans (((cell_far (p := ⟨gb815, _, none⟩) NB813_815.out _).trans (((cell_far (p := ⟨gb815, _, none⟩) NB813_815.out _).trans (((cell_far (p := ⟨gb815, _, none⟩) NB813_815.out _).trans (((cell_far (p := ⟨gb815, _, none⟩) NB813_815.out _).trans (((cell_far (p := ⟨gb815, _, none⟩) NB813_815.out _).trans (hHeld.2.2.1)))))))))))))))))), ((cell_far (p := ⟨gb815, _, none⟩) NB814_815.out _).trans (((cell_far (p := ⟨gb815, _, none⟩) NB814_815.out _).trans (((cell_far (p := ⟨gb815, _, none⟩) NB814_815.out _).trans (((cell_far (p := ⟨gb815, _, none⟩) NB814_815.out _).trans (((cell_far (p := ⟨gb815, _, none⟩) NB814_815.out _).trans (((cell_far (p := ⟨gb815, _, none⟩) NB814_815.out _).trans (((cell_far (p := ⟨gb815, _, none⟩) NB814_815.out _).trans (((cell_far (p := ⟨gb815, _, none⟩) NB814_815.out _).trans (((cell_far (p := ⟨gb815, _, none⟩) NB814_815.out _).trans (hHeld.2.2.2.1)))))))))))))))))), ((cell_far (p := ⟨gb815, _, none⟩) NB814_815.out _).trans (((cell_far (p := ⟨gb815, _, none⟩) NB814_815.out _).trans (((cell_far (p := ⟨gb815, _, none⟩) NB814_815.out _).trans (((cell_far (p := ⟨gb815, _, none⟩) NB814_815.out _).trans (((cell_far (p := ⟨gb815, _, none⟩) NB814_815.out _).trans (((cell_far (p := ⟨gb815, _, none⟩) NB814_815.out _).trans (((cell_far (p := ⟨gb815, _, none⟩) NB814_815.out _).trans (((cell_far (p := ⟨gb815, _, none⟩) NB814_815.out _).trans (((cell_far (p := ⟨gb815, _, none⟩) NB814_815.out _).trans (hHeld.2.2.2.2.1)))))))))))))))))), ((cell_far (p := ⟨gb815, _, none⟩) NB814_815.out _).trans (((cell_far (p := ⟨gb815, _, none⟩) NB814_815.out _).trans (((cell_far (p := ⟨gb815, _, none⟩) NB814_815.out _).trans (((cell_far (p := ⟨gb815, _, none⟩) NB814_815.out _).trans (((cell_far (p := ⟨gb815, _, none⟩) NB814_815.out _).trans (((cell_far (p := ⟨gb815, _, none⟩) NB814_815.out _).trans (((cell_far (p := ⟨gb815, _, none⟩) NB814_815.out _).trans (((cell_far (p := ⟨gb815, _, none⟩) NB814_815.out _).trans (((cell_far (p := ⟨gb815, _, none⟩) NB814_815.out _).trans (hHeld.2.2.2.2.2.1)))))))))))))))))), ((cell_far (p := ⟨gb815, _, none⟩) NB814_815.out _).trans (((cell_far (p := ⟨gb815, _, none⟩) NB814_815.out _).trans (((cell_far (p := ⟨gb815, _, none⟩) NB814_815.out _).trans (((cell_far (p := ⟨gb815, _, none⟩) NB814_815.out _).trans (((cell_far (p := ⟨gb815, _, none⟩) NB814_815.out _).trans (((cell_far (p := ⟨gb815, _, none⟩) NB814_815.out _).trans (((cell_far (p := ⟨gb815, _, none⟩) NB814_815.out _).trans (((cell_far (p := ⟨gb815, _, none⟩) NB814_815.out _).trans (((cell_far (p := ⟨gb815, _, none⟩) NB814_815.out _).trans (hHeld.2.2.2.2.2.2.1)))))))))))))))))), ((cell_far (p := ⟨gb815, _, none⟩) (have z0_ := hw817_0; have z1_ := GW815; Zay) _).trans (((cell_far (p := ⟨gb815, _, none⟩) (have z0_ := hw817_0; have z1_ := GW815; Zay) _).trans (((cell_far (p := ⟨gb815, _, none⟩) (have z0_ := hw817_0; have z1_ := GW815; Zay) _).trans (((cell_far (p := ⟨gb815, _, none⟩) (have z0_ := hw817_0; have z1_ := GW815; Zay) _).trans (((cell_far (p := ⟨gb815, _, none⟩) (have z0_ := hw817_0; have z1_ := GW815; Zay) _).trans (((cell_far (p := ⟨gb815, _, none⟩) (have z0_ := hw817_0; have z1_ := GW815; Zay) _).trans (((cell_far (p := ⟨gb815, _, none⟩) (have z0_ := hw817_0; have z1_ := GW815; Zay) _).trans (((cell_far (p := ⟨gb815, _, none⟩) (have z0_ := hw817_0; have z1_ := GW815; Zay) _).trans (((cell_far (p := ⟨gb815, _, none⟩) (have z0_ := hw817_0; have z1_ := GW815; Zay) _).trans (hHeld.2.2.2.2.2.2.2.1)))))))))))))))))), ((cell_far (p := ⟨gb815, _, none⟩) (have z0_ := hw817_1; have z1_ := GW815; Zay) _).trans (((cell_far (p := ⟨gb815, _, none⟩) (have z0_ := hw817_1; have z1_ := GW815; Zay) _).trans (((cell_far (p := ⟨gb815, _, none⟩) (have z0_ := hw817_1; have z1_ := GW815; Zay) _).trans (((cell_far (p := ⟨gb815, _, none⟩) (have z0_ := hw817_1; have z1_ := GW815; Zay) _).trans (((cell_far (p := ⟨gb815, _, none⟩) (have z0_ := hw817_1; have z1_ := GW815; Zay) _).trans (((cell_far (p := ⟨gb815, _, none⟩) (have z0_ := hw817_1; have z1_ := GW815; Zay) _).trans (((cell_far (p := ⟨gb815, _, none⟩) (have z0_ := hw817_1; have z1_ := GW815; Zay) _).trans (((cell_far (p := ⟨gb815, _, none⟩) (have z0_ := hw817_1; have z1_ := GW815; Zay) _).trans (((cell_far (p := ⟨gb815, _, none⟩) (have z0_ := hw817_1; have z1_ := GW815; Zay) _).trans (hHeld.2.2.2.2.2.2.2.2.1)))))))))))))))))), ((cell_far (p := ⟨gb815, _, none⟩) (have z0_ := hw817_2; have z1_ := GW815; Zay) _).trans (((cell_far (p := ⟨gb815, _, none⟩) (have z0_ := hw817_2; have z1_ := GW815; Zay) _).trans (((cell_far (p := ⟨gb815, _, none⟩) (have z0_ := hw817_2; have z1_ := GW815; Zay) _).trans (((cell_far (p := ⟨gb815, _, none⟩) (have z0_ := hw817_2; have z1_ := GW815; Zay) _).trans (((cell_far (p := ⟨gb815, _, none⟩) (have z0_ := hw817_2; have z1_ := GW815; Zay) _).trans (((cell_far (p := ⟨gb815, _, none⟩) (have z0_ := hw817_2; have z1_ := GW815; Zay) _).trans (((cell_far (p := ⟨gb815, _, none⟩) (have z0_ := hw817_2; have z1_ := GW815; Zay) _).trans (((cell_far (p := ⟨gb815, _, none⟩) (have z0_ := hw817_2; have z1_ := GW815; Zay) _).trans (((cell_far (p := ⟨gb815, _, none⟩) (have z0_ := hw817_2; have z1_ := GW815; Zay) _).trans (hHeld.2.2.2.2.2.2.2.2.2.1)))))))))))))))))), ((cell_far (p := ⟨gb815, _, none⟩) (have z0_ := hw817_3; have z1_ := GW815; Zay) _).trans (((cell_far (p := ⟨gb815, _, none⟩) (have z0_ := hw817_3; have z1_ := GW815; Zay) _).trans (((cell_far (p := ⟨gb815, _, none⟩) (have z0_ := hw817_3; have z1_ := GW815; Zay) _).trans (((cell_far (p := ⟨gb815, _, none⟩) (have z0_ := hw817_3; have z1_ := GW815; Zay) _).trans (((cell_far (p := ⟨gb815, _, none⟩) (have z0_ := hw817_3; have z1_ := GW815; Zay) _).trans (((cell_far (p := ⟨gb815, _, none⟩) (have z0_ := hw817_3; have z1_ := GW815; Zay) _).trans (((cell_far (p := ⟨gb815, _, none⟩) (have z0_ := hw817_3; have z1_ := GW815; Zay) _).trans (((cell_far (p := ⟨gb815, _, none⟩) (have z0_ := hw817_3; have z1_ := GW815; Zay) _).trans (((cell_far (p := ⟨gb815, _, none⟩) (have z0_ := hw817_3; have z1_ := GW815; Zay) _).trans (hHeld.2.2.2.2.2.2.2.2.2.2.1)))))))))))))))))), ((cell_far (p := ⟨gb815, _, none⟩) (have z0_ := hw817_4; have z1_ := GW815; Zay) _).trans (((cell_far (p := ⟨gb815, _, none⟩) (have z0_ := hw817_4; have z1_ := GW815; Zay) _).trans (((cell_far (p := ⟨gb815, _, none⟩) (have z0_ := hw817_4; have z1_ := GW815; Zay) _).trans (((cell_far (p := ⟨gb815, _, none⟩) (have z0_ := hw817_4; have z1_ := GW815; Zay) _).trans (((cell_far (p := ⟨gb815, _, none⟩) (have z0_ := hw817_4; have z1_ := GW815; Zay) _).trans (((cell_far (p := ⟨gb815, _, none⟩) (have z0_ := hw817_4; have z1_ := GW815; Zay) _).trans (((cell_far (p := ⟨gb815, _, none⟩) (have z0_ := hw817_4; have z1_ := GW815; Zay) _).trans (((cell_far (p := ⟨gb815, _, none⟩) (have z0_ := hw817_4; have z1_ := GW815; Zay) _).trans (((cell_far (p := ⟨gb815, _, none⟩) (have z0_ := hw817_4; have z1_ := GW815; Zay) _).trans (hHeld.2.2.2.2.2.2.2.2.2.2.2.1)))))))))))))))))), ((cell_far (p := ⟨gb815, _, none⟩) (have z0_ := hw817_5; have z1_ := GW815; Zay) _).trans (((cell_far (p := ⟨gb815, _, none⟩) (have z0_ := hw817_5; have z1_ := GW815; Zay) _).trans (((cell_far (p := ⟨gb815, _, none⟩) (have z0_ := hw817_5; have z1_ := GW815; Zay) _).trans (((cell_far (p := ⟨gb815, _, none⟩) (have z0_ := hw817_5; have z1_ := GW815; Zay) _).trans (((cell_far (p := ⟨gb815, _, none⟩) (have z0_ := hw817_5; have z1_ := GW815; Zay) _).trans (((cell_far (p := ⟨gb815, _, none⟩) (have z0_ := hw817_5; have z1_ := GW815; Zay) _).trans (((cell_far (p := ⟨gb815, _, none⟩) (have z0_ := hw817_5; have z1_ := GW815; Zay) _).trans (((cell_far (p := ⟨gb815, _, none⟩) (have z0_ := hw817_5; have z1_ := GW815; Zay) _).trans (((cell_far (p := ⟨gb815, _, none⟩) (have z0_ := hw817_5; have z1_ := GW815; Zay) _).trans (hHeld.2.2.2.2.2.2.2.2.2.2.2.2.1)))))))))))))))))), ((cell_far (p := ⟨gb815, _, none⟩) (have z0_ := hw817_6; have z1_ := GW815; Zay) _).trans (((cell_far (p := ⟨gb815, _, none⟩) (have z0_ := hw817_6; have z1_ := GW815; Zay) _).trans (((cell_far (p := ⟨gb815, _, none⟩) (have z0_ := hw817_6; have z1_ := GW815; Zay) _).trans (((cell_far (p := ⟨gb815, _, none⟩) (have z0_ := hw817_6; have z1_ := GW815; Zay) _).trans (((cell_far (p := ⟨gb815, _, none⟩) (have z0_ := hw817_6; have z1_ := GW815; Zay) _).trans (((cell_far (p := ⟨gb815, _, none⟩) (have z0_ := hw817_6; have z1_ := GW815; Zay) _).trans (((cell_far (p := ⟨gb815, _, none⟩) (have z0_ := hw817_6; have z1_ := GW815; Zay) _).trans (((cell_far (p := ⟨gb815, _, none⟩) (have z0_ := hw817_6; have z1_ := GW815; Zay) _).trans (((cell_far (p := ⟨gb815, _, none⟩) (have z0_ := hw817_6; have z1_ := GW815; Zay) _).trans (hHeld.2.2.2.2.2.2.2.2.2.2.2.2.2.1)))))))))))))))))), ((cell_far (p := ⟨gb815, _, none⟩) (have z0_ := hw817_7; have z1_ := GW815; Zay) _).trans (((cell_far (p := ⟨gb815, _, none⟩) (have z0_ := hw817_7; have z1_ := GW815; Zay) _).trans (((cell_far (p := ⟨gb815, _, none⟩) (have z0_ := hw817_7; have z1_ := GW815; Zay) _).trans (((cell_far (p := ⟨gb815, _, none⟩) (have z0_ := hw817_7; have z1_ := GW815; Zay) _).trans (((cell_far (p := ⟨gb815, _, none⟩) (have z0_ := hw817_7; have z1_ := GW815; Zay) _).trans (((cell_far (p := ⟨gb815, _, none⟩) (have z0_ := hw817_7; have z1_ := GW815; Zay) _).trans (((cell_far (p := ⟨gb815, _, none⟩) (have z0_ := hw817_7; have z1_ := GW815; Zay) _).trans (((cell_far (p := ⟨gb815, _, none⟩) (have z0_ := hw817_7; have z1_ := GW815; Zay) _).trans (((cell_far (p := ⟨gb815, _, none⟩) (have z0_ := hw817_7; have z1_ := GW815; Zay) _).trans (hHeld.2.2.2.2.2.2.2.2.2.2.2.2.2.2.1)))))))))))))))))), ((cell_far (p := ⟨gb815, _, none⟩) (have z0_ := hw817_8; have z1_ := GW815; Zay) _).trans (((cell_far (p := ⟨gb815, _, none⟩) (have z0_ := hw817_8; have z1_ := GW815; Zay) _).trans (((cell_far (p := ⟨gb815, _, none⟩) (have z0_ := hw817_8; have z1_ := GW815; Zay) _).trans (((cell_far (p := ⟨gb815, _, none⟩) (have z0_ := hw817_8; have z1_ := GW815; Zay) _).trans (((cell_far (p := ⟨gb815, _, none⟩) (have z0_ := hw817_8; have z1_ := GW815; Zay) _).trans (((cell_far (p := ⟨gb815, _, none⟩) (have z0_ := hw817_8; have z1_ := GW815; Zay) _).trans (((cell_far (p := ⟨gb815, _, none⟩) (have z0_ := hw817_8; have z1_ := GW815; Zay) _).trans (((cell_far (p := ⟨gb815, _, none⟩) (have z0_ := hw817_8; have z1_ := GW815; Zay) _).trans (((cell_far (p := ⟨gb815, _, none⟩) (have z0_ := hw817_8; have z1_ := GW815; Zay) _).trans (hHeld.2.2.2.2.2.2.2.2.2.2.2.2.2.2.2))))))))))))))))))⟩ (fun hHeld => ?_)
   clear hK K
   refine done_ (done_of HT_.out Zj) ?_
   try go_wp2
   refine bodyPost_ret (results_cell_row rfl _ _ gb815 92 #[.string ((rd_T92 l0_1 t816).f0), .int .i64 ((rd_T92 l0_1 t816).f1), .int .i64 ((rd_T92 l0_1 t816).f2), .int .i64 ((rd_T92 l0_1 t816).f3), .int .i64 ((rd_T92 l0_1 t816).f4), .int .i64 ((rd_T92 l0_1 t816).f5), .int .i64 ((rd_T92 l0_1 t816).f6), .int .i64 ((rd_T92 l0_1 t816).f7), .int .i64 ((rd_T92 l0_1 t816).f8)] (0, 0) _ rfl (by (with_reducible repeat (first | refine blk_drewN ?_ _ | refine blk_drew ?_ | refine blk_alloc ?_ _)); refine blk_put (cs := #[.string ((rd_T92 l0_1 t816).f0), .int .i64 ((rd_T92 l0_1 t816).f1), .int .i64 ((rd_T92 l0_1 t816).f2), .int .i64 ((rd_T92 l0_1 t816).f3), .int .i64 ((rd_T92 l0_1 t816).f4), .int .i64 ((rd_T92 l0_1 t816).f5), .int .i64 ((rd_T92 l0_1 t816).f6), .int .i64 ((rd_T92 l0_1 t816).f7), .int .i64 0]) ?_ 8 _ rfl; (with_reducible repeat (first | refine blk_drewN ?_ _ | refine blk_drew ?_ | refine blk_alloc ?_ _)); refine blk_put (cs := #[.string ((rd_T92 l0_1 t816).f0), .int .i64 ((rd_T92 l0_1 t816).f1), .int .i64 ((rd_T92 l0_1 t816).f2), .int .i64 ((rd_T92 l0_1 t816).f3), .int .i64 ((rd_T92 l0_1 t816).f4), .int .i64 ((rd_T92 l0_1 t816).f5), .int .i64 ((rd_T92 l0_1 t816).f6), .int .i64 0, .int .i64 0]) ?_ 7 _ rfl; (with_reducible repeat (first | refine blk_drewN ?_ _ | refine blk_drew ?_ | refine blk_alloc ?_ _)); refine blk_put (cs := #[.string ((rd_T92 l0_1 t816).f0), .int .i64 ((rd_T92 l0_1 t816).f1), .int .i64 ((rd_T92 l0_1 t816).f2), .int .i64 ((rd_T92 l0_1 t816).f3), .int .i64 ((rd_T92 l0_1 t816).f4), .int .i64 ((rd_T92 l0_1 t816).f5), .int .i64 0, .int .i64 0, .int .i64 0]) ?_ 6 _ rfl; (with_reducible repeat (first | refine blk_drewN ?_ _ | refine blk_drew ?_ | refine blk_alloc ?_ _)); refine blk_put (cs := #[.string ((rd_T92 l0_1 t816).f0), .int .i64 ((rd_T92 l0_1 t816).f1), .int .i64 ((rd_T92 l0_1 t816).f2), .int .i64 ((rd_T92 l0_1 t816).f3), .int .i64 ((rd_T92 l0_1 t816).f4), .int .i64 0, .int .i64 0, .int .i64 0, .int .i64 0]) ?_ 5 _ rfl; (with_reducible repeat (first | refine blk_drewN ?_ _ | refine blk_drew ?_ | refine blk_alloc ?_ _)); refine blk_put (cs := #[.string ((rd_T92 l0_1 t816).f0), .int .i64 ((rd_T92 l0_1 t816).f1), .int .i64 ((rd_T92 l0_1 t816).f2), .int .i64 ((rd_T92 l0_1 t816).f3), .int .i64 0, .int .i64 0, .int .i64 0, .int .i64 0, .int .i64 0]) ?_ 4 _ rfl; (with_reducible repeat (first | refine blk_drewN ?_ _ | refine blk_drew ?_ | refine blk_alloc ?_ _)); refine blk_put (cs := #[.string ((rd_T92 l0_1 t816).f0), .int .i64 ((rd_T92 l0_1 t816).f1), .int .i64 ((rd_T92 l0_1 t816).f2), .int .i64 0, .int .i64 0, .int .i64 0, .int .i64 0, .int .i64 0, .int .i64 0]) ?_ 3 _ rfl; (with_reducible repeat (first | refine blk_drewN ?_ _ | refine blk_drew ?_ | refine blk_alloc ?_ _)); refine blk_put (cs := #[.string ((rd_T92 l0_1 t816).f0), .int .i64 ((rd_T92 l0_1 t816).f1), .int .i64 0, .int .i64 0, .int .i64 0, .int .i64 0, .int .i64 0, .int .i64 0, .int .i64 0]) ?_ 2 _ rfl; (with_reducible repeat (first | refine blk_drewN ?_ _ | refine blk_drew ?_ | refine blk_alloc ?_ _)); refine blk_put (cs := #[.string ((rd_T92 l0_1 t816).f0), .int .i64 0, .int .i64 0, .int .i64 0, .int .i64 0, .int .i64 0, .int .i64 0, .int .i64 0, .int .i64 0]) ?_ 1 _ rfl; (with_reducible repeat (first | refine blk_drewN ?_ _ | refine blk_drew ?_ | refine blk_alloc ?_ _)); refine blk_put (cs := #[.string (⟨#[]⟩ : ByteArray), .int .i64 0, .int .i64 0, .int .i64 0, .int .i64 0, .int .i64 0, .int .i64 0, .int .i64 0, .int .i64 0]) ?_ 0 _ rfl; (with_reducible repeat (first | refine blk_drewN ?_ _ | refine blk_drew ?_ | refine blk_alloc ?_ _)); exact BK815.out) Try.underlying92 rfl Zj) rfl ?_
   exact ⟨Zk, (have z0_ := GE813; have z1_ := GE814; have z2_ := GE815; Zl)⟩
  ·rw [if_neg c5] at H
   exact absurd H (by simp)
 ·rw [if_neg c4] at H
  exact absurd H (by simp)
def impl_shotWindows.l0 : Nat → Int → List (List Int) → Int → ByteArray → Int → Int → Int → Int → Int → Int → Int → Int → Option ((List (List Int)))
 | 0, _, _, _, _, _, _, _, _, _, _, _, _ => none
 | k + 1, x1, x5, x6, x819000, x819001, x819002, x819003, x819004, x819005, x819006, x819007, x819008 => if x6 < x819005 then (if x5.length < 5864062014805 then (impl_shotWindows.l0 k x1 (x5 ++ [(([wrap64 ((wrap64 ((wrap64 (x1 + x819003)) + (wrap64 (x6 * x819006)))) - x819004), wrap64 ((wrap64 ((wrap64 (x1 + x819003)) + (wrap64 (x6 * x819006)))) + x819004)] : List Int))]) (wrap64 (x6 + 1)) x819000 x819001 x819002 x819003 x819004 x819005 x819006 x819007 x819008) else (none)) else (some x5)
def impl_shotWindows.f (k : Nat) (a0_0 : ByteArray) (a0_1 : Int) (a0_2 : Int) (a0_3 : Int) (a0_4 : Int) (a0_5 : Int) (a0_6 : Int) (a0_7 : Int) (a0_8 : Int) (a1 : Int) : Option ((List (List Int))) := impl_shotWindows.l0 k a1 ([] : List (List Int)) 0 a0_0 a0_1 a0_2 a0_3 a0_4 a0_5 a0_6 a0_7 a0_8
set_option maxHeartbeats 8000000 in
set_option maxRecDepth 100000 in
theorem impl_shotWindows.calls (k : Nat) (a0_0 : ByteArray) (a0_1 : Int) (a0_2 : Int) (a0_3 : Int) (a0_4 : Int) (a0_5 : Int) (a0_6 : Int) (a0_7 : Int) (a0_8 : Int) (a1 : Int) (r : List (List Int)) (w : World) (h : impl_shotWindows.f k a0_0 a0_1 a0_2 a0_3 a0_4 a0_5 a0_6 a0_7 a0_8 a1 = some r) :
  Calls Try.prog 132 #[.agg #[.string a0_0, .int .i64 a0_1, .int .i64 a0_2, .int .i64 a0_3, .int .i64 a0_4, .int .i64 a0_5, .int .i64 a0_6, .int .i64 a0_7, .int .i64 a0_8], .int .i64 a1] w fun e w' => ∃ v0_ : Value, e = .returned (v0_) ∧ Kd.S (Kd.slice 2 (Kd.int .i64)) 61 w' w.heap.size (fun _ => True) v0_ r ∧ Below w.heap.size w w' := by
 have hu92 := Try.underlying92
 have HB := Aside0.mk (Below.refl w.heap.size w)
 have H : (impl_shotWindows.l0 k a1 ([] : List (List Int)) 0 a0_0 a0_1 a0_2 a0_3 a0_4 a0_5 a0_6 a0_7 a0_8) = some r := h
 clear h
 have H' := Aside0.mk H
 clear H
 go_enter Try.func132, Try.ntmps132
 go_wp2_with (first | ((with_reducible refine gate_dst (N := 2) rfl ?_); refine boxZ 2 #[.string a0_0, .int .i64 a0_1, .int .i64 a0_2, .int .i64 a0_3, .int .i64 a0_4, .int .i64 a0_5, .int .i64 a0_6, .int .i64 a0_7, .int .i64 a0_8] 92 ?_; intro gb818 hg w3 hbox hb; have n0_ := Aside0.mk (below_step Zc hb); have n1_ := Aside0.mk (hbox); have n2_ := Aside0.mk ((Zd : w.heap.size ≤ gb818)); have n3_ := Aside0.mk ((Zd : w.heap.size ≤ gb818)); clear HB; have HB := n0_; have BK818 := n1_; have GW818 := n2_; have GE818 := n3_; clear n0_ n1_ n2_ n3_; clear hb hbox hg))
 go_loopg [5, 6] k (fun kq v5 v6 w' => ∃ (x5_1 : List (List Int)) (x6_1 : Int), v6 = .int .i64 x6_1 ∧ Aside0 (impl_shotWindows.l0 kq a1 x5_1 x6_1 a0_0 a0_1 a0_2 a0_3 a0_4 a0_5 a0_6 a0_7 a0_8 = some r) ∧ Aside0 (kq ≤ k) ∧ Aside0 (Kd.S (Kd.slice 2 (Kd.int .i64)) 61 w' w.heap.size (fun _ => True) v5 x5_1) ∧ Aside0 (w'.heap[gb818]? = some (.cells #[.string a0_0, .int .i64 a0_1, .int .i64 a0_2, .int .i64 a0_3, .int .i64 a0_4, .int .i64 a0_5, .int .i64 a0_6, .int .i64 a0_7, .int .i64 a0_8] 92 (0, 0))) ∧ Aside0 (Below w.heap.size w w'))
 case atStart => exact ⟨(([] : List (List Int))), (0), Za, H', ⟨Nat.le_refl _⟩, ⟨Zbe⟩, ⟨(have z0_ := BK818; Ze)⟩, ⟨(have z0_ := GE818; Zf)⟩⟩
 case round =>
  clear H'
  try clear c1
  try clear p2
  obtain ⟨x5_1, x6_1, rfl, HA, HK1, HO_5, BK818, HB⟩ := hrel
  cases gk with
  | zero => exact absurd HA.out (by simp [impl_shotWindows.l0])
  | succ k1 =>
   have H := HA.out
   clear HA
   simp only [impl_shotWindows.l0] at H
   by_cases c4 : x6_1 < a0_5
   ·rw [if_pos c4] at H
    have c4b0 := decide_eq_true c4
    clear c4
    obtain ⟨y819, hy819⟩ : ∃ y_ : List Int, y_ = (([wrap64 ((wrap64 ((wrap64 (a1 + a0_3)) + (wrap64 (x6_1 * a0_6)))) - a0_4), wrap64 ((wrap64 ((wrap64 (a1 + a0_3)) + (wrap64 (x6_1 * a0_6)))) + a0_4)] : List Int)) := ⟨_, rfl⟩
    replace H : (if x5_1.length < 5864062014805 then (impl_shotWindows.l0 k1 a1 (x5_1 ++ [y819]) (wrap64 (x6_1 + 1)) a0_0 a0_1 a0_2 a0_3 a0_4 a0_5 a0_6 a0_7 a0_8) else (none)) = some r := by (try rw [hy819]); first | with_reducible exact H | with_reducible exact (Option.bind_some _ _).symm.trans H | exact H
    have Ny819 := Aside0.mk hy819
    clear hy819
    by_cases c5 : x5_1.length < 5864062014805
    ·rw [if_pos c5] at H
     have LMc5 := Aside0.mk c5
     clear c5
     obtain ⟨y822, hy822⟩ : ∃ y_ : List (List Int), y_ = (x5_1 ++ [y819]) := ⟨_, rfl⟩
     replace H : (impl_shotWindows.l0 k1 a1 y822 (wrap64 (x6_1 + 1)) a0_0 a0_1 a0_2 a0_3 a0_4 a0_5 a0_6 a0_7 a0_8) = some r := by (try rw [hy822]); first | with_reducible exact H | with_reducible exact (Option.bind_some _ _).symm.trans H | exact H
     have Ny822 := Aside0.mk hy822
     clear hy822
     have H' := Aside0.mk H
     clear H
     obtain ⟨hcz6_0, hcz6_1, hcz6_2, hcz6_3, hcz6_4, hcz6_5, hcz6_6, hcz6_7, hcz6_8, hfz6_0, hfz6_1, hfz6_2, hfz6_3, hfz6_4, hfz6_5, hfz6_6, hfz6_7, hfz6_8⟩ := cz9 BK818
     go_wp2_with (first | ((with_reducible refine gate_dst (N := 32) rfl ?_); refine Kd.R_lit (Kd.int .i64) _ 2 ?hg (N := 32) ?hd (xs := ([wrap64 ((wrap64 ((wrap64 (a1 + a0_3)) + (wrap64 (x6_1 * a0_6)))) - a0_4), wrap64 ((wrap64 ((wrap64 (a1 + a0_3)) + (wrap64 (x6_1 * a0_6)))) + a0_4)] : List Int)) (inner := [.int .i64 (wrap64 ((wrap64 ((wrap64 (a1 + a0_3)) + (wrap64 (x6_1 * a0_6)))) - a0_4)), .int .i64 (wrap64 ((wrap64 ((wrap64 (a1 + a0_3)) + (wrap64 (x6_1 * a0_6)))) + a0_4))]) (ok := fun _ => True) (okp := fun _ => True) ?hr ?hp (fun _ hk => hk) trivial (Below.refl _ _) (Nat.le_refl _) (by simp) ?_; (case hd => rfl); (case hg => rfl); (case hr => first | (go_simp; done) | (go_simp; rfl)); (case hp => exact (Reps.one (show Kd.M (Kd.int .i64) _ _ _ (wrap64 ((wrap64 ((wrap64 (a1 + a0_3)) + (wrap64 (x6_1 * a0_6)))) - a0_4)) [.int .i64 (wrap64 ((wrap64 ((wrap64 (a1 + a0_3)) + (wrap64 (x6_1 * a0_6)))) - a0_4))] from rfl) (Reps.one (show Kd.M (Kd.int .i64) _ _ _ (wrap64 ((wrap64 ((wrap64 (a1 + a0_3)) + (wrap64 (x6_1 * a0_6)))) + a0_4)) [.int .i64 (wrap64 ((wrap64 ((wrap64 (a1 + a0_3)) + (wrap64 (x6_1 * a0_6)))) + a0_4))] from rfl) (Reps.none _ _)))); intro v820 w7 ho8 hb hg_ hnew_; clear hg_ hnew_; (first | rw [← Ny819.out] at ho8 | (simp only [Int.reduceToNat] at ho8; rw [← Ny819.out] at ho8)); have n0_ := Aside0.mk (Kd.S_elder' (have z0_ := HO_5; Zba) (Kd.R_base ho8) hb); have n1_ := Aside0.mk (Kd.R_lower ho8 (below_size (have z0_ := GE818; Zf))); have n2_ := Aside0.mk (blk_below (g := gb818) (o := .cells #[.string a0_0, .int .i64 a0_1, .int .i64 a0_2, .int .i64 a0_3, .int .i64 a0_4, .int .i64 a0_5, .int .i64 a0_6, .int .i64 a0_7, .int .i64 a0_8] 92 (0, 0)) (have z0_ := BK818; Ze) hb); have n3_ := Aside0.mk (below_step (have z0_ := GE818; Zf) hb); clear HO_5; clear BK818; clear HB; have HO_5 := n0_; have HO821 := n1_; have BK818 := n2_; have HB := n3_; clear n0_ n1_ n2_ n3_; clear hb ho8; obtain ⟨Ao10, co10, eo10⟩ := Kd.R_slice HO821.out; subst eo10) | ((with_reducible refine gate_builtin (b := .append) (xs := #[.tmp 23, .tmp 33]) rfl ?_); at_builtin; refine Kd.S_append (Kd.slice 2 (Kd.int .i64)) (w0 := w) w.heap.size rfl (.tmp 23) (.tmp 33) 46 61 (.slice none 0 0) 24 rfl Try.underlying46 info61 rfl (by decide) (by omega) u5 x5_1 y819 [.slice Ao10 y819.length co10] (fun _ => True) (fun k_ => some k_ = (.slice Ao10 y819.length co10 : Value).ownBlock) rfl rfl ?aP (fun k_ hk_ => ((Kd.R_mono (ok' := fun k_ => ((fun _ => True)) k_ ∧ some k_ ≠ (u5 : Value).ownBlock) (Kd.R_apart' (HO821.out) (Kd.S_typed HO_5.out) (by decide)) (fun k_ hk => ⟨trivial, hk.2⟩))).1 k_ hk_.symm) ?aF ?aO ?aB ?aS ?aL ?_; (case aP => exact Kd.M_row (Kd.R_mono (Kd.R_tight rfl (Kd.R_mono (ok' := fun k_ => ((fun _ => True)) k_ ∧ some k_ ≠ (u5 : Value).ownBlock) (Kd.R_apart' (HO821.out) (Kd.S_typed HO_5.out) (by decide)) (fun k_ hk => ⟨trivial, hk.2⟩))) (fun _ h_ => h_))); (case aB => exact (have z0_ := GE818; Zf)); (case aF => exact (fun _ _ => trivial)); (case aO => exact (have z0_ := HO_5; Zbd)); (case aS => exact (below_size (have z0_ := GE818; Zf))); (case aL => have := LMc5.out; omega); intro v823 w9 ho hb hg hat; rw [← Ny822.out] at ho; have n0_ := Aside0.mk (blk_grown (g := gb818) (o := .cells #[.string a0_0, .int .i64 a0_1, .int .i64 a0_2, .int .i64 a0_3, .int .i64 a0_4, .int .i64 a0_5, .int .i64 a0_6, .int .i64 a0_7, .int .i64 a0_8] 92 (0, 0)) (have z0_ := BK818; Ze) hg (Kd.S_ne HO_5.out BK818.out (by decide))); have n1_ := Aside0.mk (hb); have n2_ := Aside0.mk (ho); clear BK818; clear HB; clear HO_5; clear HO821; have BK818 := n0_; have HB := n1_; have HO824 := n2_; clear n0_ n1_ n2_; clear ho hb hg hat))
     go_roundg k1
     case measure => have := HK1.out; omega
     case rel => exact ⟨(y822), (wrap64 (x6_1 + 1)), Za, H', ⟨Zt⟩, ⟨(have z0_ := HO824; Zba)⟩, ⟨(have z0_ := BK818; Ze)⟩, ⟨(have z0_ := GE818; Zf)⟩⟩
    ·rw [if_neg c5] at H
     exact absurd H (by simp)
   ·rw [if_neg c4] at H
    have c4b0 := decide_eq_false c4
    clear c4
    obtain rfl := Option.some.inj H
    obtain ⟨hcz11_0, hcz11_1, hcz11_2, hcz11_3, hcz11_4, hcz11_5, hcz11_6, hcz11_7, hcz11_8, hfz11_0, hfz11_1, hfz11_2, hfz11_3, hfz11_4, hfz11_5, hfz11_6, hfz11_7, hfz11_8⟩ := cz9 BK818
    go_wp2
    go_ret
    exact ⟨_, Zk, (have z0_ := HO_5; Zba), (have z0_ := GE818; Zf)⟩
def impl_windowsOfCue.f (k : Nat) (l0_0 : List (S108)) (l0_1 : List (S92)) (l0_2 : List (S43)) (a1_0 : Int) (a1_1 : Int) (a1_2 : ByteArray) (a1_3 : Int) : Option ((List (List Int))) := (impl_articleFor.f k l0_0 l0_1 l0_2 a1_0 a1_1 a1_2 a1_3).bind fun bt827 => ((impl_firedAt.f k l0_0 l0_1 l0_2 a1_0 a1_1 a1_2 a1_3).bind fun t836 => ((impl_shotWindows.f k bt827.1 bt827.2.1 bt827.2.2.1 bt827.2.2.2.1 bt827.2.2.2.2.1 bt827.2.2.2.2.2.1 bt827.2.2.2.2.2.2.1 bt827.2.2.2.2.2.2.2.1 bt827.2.2.2.2.2.2.2.2 t836).bind fun t837 => (some t837)))
def impl_windowsOfCue.T1 : Bool × List (List Nat × List Nat) := (true, [([], []), ([], []), ([0, 1], [0, 1]), ([], []), ([], []), ([3, 4, 2], [3, 4]), ([2, 5, 5], [2, 5]), ([6, 6, 0, 1, 2, 3, 4, 5, 6], [6])])
def impl_windowsOfCue.B1 : List Nat := [0, 0, 3, 0, 0, 31, 63, 127]
theorem impl_windowsOfCue.tab1 : rtab .any (opsOf Try.f107 1) = impl_windowsOfCue.T1 := by kernel_rfl
theorem impl_windowsOfCue.bits1 : waitsOk impl_windowsOfCue.T1.2 impl_windowsOfCue.B1 = true := by kernel_rfl
set_option maxHeartbeats 8000000 in
set_option maxRecDepth 100000 in
theorem impl_windowsOfCue.calls (k : Nat) (A0_0 : Option Addr) (c0_0 : Nat) (l0_0 : List (S108)) (A0_1 : Option Addr) (c0_1 : Nat) (l0_1 : List (S92)) (A0_2 : Option Addr) (c0_2 : Nat) (l0_2 : List (S43)) (a1_0 : Int) (a1_1 : Int) (a1_2 : ByteArray) (a1_3 : Int) (r : List (List Int)) (w : World) (hr0_0 : Kd.C k108 w A0_0 l0_0.length l0_0) (hc0_0 : l0_0.length ≤ c0_0) (hr0_1 : Kd.C k92 w A0_1 l0_1.length l0_1) (hc0_1 : l0_1.length ≤ c0_1) (hr0_2 : Kd.C k43 w A0_2 l0_2.length l0_2) (hc0_2 : l0_2.length ≤ c0_2) (h : impl_windowsOfCue.f k l0_0 l0_1 l0_2 a1_0 a1_1 a1_2 a1_3 = some r) :
  Calls Try.prog 107 #[.agg #[.slice A0_0 l0_0.length c0_0, .slice A0_1 l0_1.length c0_1, .slice A0_2 l0_2.length c0_2], .agg #[.int .i64 a1_0, .int .i64 a1_1, .string a1_2, .int .i64 a1_3]] w fun e w' => ∃ v0_ : Value, e = .returned (v0_) ∧ Kd.S (Kd.slice 2 (Kd.int .i64)) 61 w' w.heap.size (fun _ => True) v0_ r ∧ Below w.heap.size w w' := by
 have hu32 := Try.underlying32
 have hu43 := Try.underlying43
 have HR0_0 := Aside0.mk hr0_0
 have HC0_0 := Aside0.mk hc0_0
 clear hr0_0 hc0_0
 have HR0_1 := Aside0.mk hr0_1
 have HC0_1 := Aside0.mk hc0_1
 clear hr0_1 hc0_1
 have HR0_2 := Aside0.mk hr0_2
 have HC0_2 := Aside0.mk hc0_2
 clear hr0_2 hc0_2
 have HB := Aside0.mk (Below.refl w.heap.size w)
 have H : ((impl_articleFor.f k l0_0 l0_1 l0_2 a1_0 a1_1 a1_2 a1_3).bind fun bt827 => ((impl_firedAt.f k l0_0 l0_1 l0_2 a1_0 a1_1 a1_2 a1_3).bind fun t836 => ((impl_shotWindows.f k bt827.1 bt827.2.1 bt827.2.2.1 bt827.2.2.2.1 bt827.2.2.2.2.1 bt827.2.2.2.2.2.1 bt827.2.2.2.2.2.2.1 bt827.2.2.2.2.2.2.2.1 bt827.2.2.2.2.2.2.2.2 t836).bind fun t837 => (some t837)))) = some r := h
 clear h
 replace H := Option.bind_eq_some_iff.mp H
 obtain ⟨⟨t827, t828, t829, t830, t831, t832, t833, t834, t835⟩, A30, H⟩ := H
 replace H : ((impl_firedAt.f k l0_0 l0_1 l0_2 a1_0 a1_1 a1_2 a1_3).bind fun t836 => ((impl_shotWindows.f k t827 t828 t829 t830 t831 t832 t833 t834 t835 t836).bind fun t837 => (some t837))) = some r := H
 have A3 := Aside0.mk A30
 clear A30
 replace H := Option.bind_eq_some_iff.mp H
 obtain ⟨t836, A40, H⟩ := H
 have A4 := Aside0.mk A40
 clear A40
 replace H := Option.bind_eq_some_iff.mp H
 obtain ⟨t837, A50, H⟩ := H
 have A5 := Aside0.mk A50
 clear A50
 obtain rfl := Option.some.inj H
 go_enter Try.func107, Try.ntmps107
 try go_wp2_with (first | ((with_reducible refine gate_dst (N := 2) rfl ?_); refine boxZ 2 #[.slice A0_0 l0_0.length c0_0, .slice A0_1 l0_1.length c0_1, .slice A0_2 l0_2.length c0_2] 32 ?_; intro gb825 hg w6 hbox hb; have n0_ := Aside0.mk (below_step Zc hb); have n1_ := Aside0.mk (hbox); have n2_ := Aside0.mk ((Zd : w.heap.size ≤ gb825)); have n3_ := Aside0.mk ((Zd : w.heap.size ≤ gb825)); clear HB; have HB := n0_; have BK825 := n1_; have GW825 := n2_; have GE825 := n3_; clear n0_ n1_ n2_ n3_; clear hb hbox hg) | ((with_reducible refine gate_dst (N := 3) rfl ?_); refine boxZ 3 #[.int .i64 a1_0, .int .i64 a1_1, .string a1_2, .int .i64 a1_3] 43 ?_; intro gb826 hg w7 hbox hb; have n0_ := Aside0.mk (blk_below (g := gb825) (o := .cells #[.slice A0_0 l0_0.length c0_0, .slice A0_1 l0_1.length c0_1, .slice A0_2 l0_2.length c0_2] 32 (0, 0)) (have z0_ := BK825; Ze) hb); have n1_ := Aside0.mk (below_step (have z0_ := GE825; Zf) hb); have n2_ := Aside0.mk (hbox); have n3_ := Aside0.mk (((have z0_ := GE825; Zg) : w.heap.size ≤ gb826)); have n4_ := Aside0.mk (((have z0_ := GE825; Zg) : w.heap.size ≤ gb826)); have n5_ := Aside0.mk ((by rw [hg]; exact Nat.ne_of_lt (blk_lt (g := gb825) (o := .cells #[.slice A0_0 l0_0.length c0_0, .slice A0_1 l0_1.length c0_1, .slice A0_2 l0_2.length c0_2] 32 (0, 0)) (have z0_ := BK825; Ze)) : gb825 ≠ gb826)); have n6_ := Aside0.mk ((by rw [hg]; exact Nat.ne_of_gt (blk_lt (g := gb825) (o := .cells #[.slice A0_0 l0_0.length c0_0, .slice A0_1 l0_1.length c0_1, .slice A0_2 l0_2.length c0_2] 32 (0, 0)) (have z0_ := BK825; Ze)) : gb826 ≠ gb825)); clear BK825; clear HB; have BK825 := n0_; have HB := n1_; have BK826 := n2_; have GW826 := n3_; have GE826 := n4_; have NB825_826 := n5_; have NB826_825 := n6_; clear n0_ n1_ n2_ n3_ n4_ n5_ n6_; clear hb hbox hg))
 have n0_ := Aside0.mk (blk_drew BK825.out)
 have n1_ := Aside0.mk (blk_drew BK826.out)
 have n2_ := Aside0.mk (below_drew1 HB.out)
 clear BK825
 clear BK826
 clear HB
 have BK825 := n0_
 have BK826 := n1_
 have HB := n2_
 clear n0_ n1_ n2_
 refine start_ (n := 8) (S := fun w' => w'.cell? ⟨gb825, 0, none⟩ = some (.slice A0_0 l0_0.length c0_0) ∧ w'.cell? ⟨gb825, 1, none⟩ = some (.slice A0_1 l0_1.length c0_1) ∧ w'.cell? ⟨gb825, 2, none⟩ = some (.slice A0_2 l0_2.length c0_2) ∧ w'.cell? ⟨gb826, 0, none⟩ = some (.int .i64 a1_0) ∧ w'.cell? ⟨gb826, 1, none⟩ = some (.int .i64 a1_1) ∧ w'.cell? ⟨gb826, 2, none⟩ = some (.string a1_2) ∧ w'.cell? ⟨gb826, 3, none⟩ = some (.int .i64 a1_3)) (ds := []) (bT 8 0) Zj rfl rfl ⟨(blk_cell BK825.out 0).trans rfl, (blk_cell BK825.out 1).trans rfl, (blk_cell BK825.out 2).trans rfl, (blk_cell BK826.out 0).trans rfl, (blk_cell BK826.out 1).trans rfl, (blk_cell BK826.out 2).trans rfl, (blk_cell BK826.out 3).trans rfl⟩ (fun hHeld => ?_); refine with_tabW impl_windowsOfCue.tab1 impl_windowsOfCue.bits1 (fun HT_ HW_ => ?_)
 generalize w7.drew = w8 at BK825 BK826 HB hHeld ⊢
 refine take_ (i := 0) (N := some 5) (v := ?_) (a' := ?_) (bT 8 1) rfl rfl (take_ofW HT_.out HW_.out Zj) (fun _ _ _ h => h) (Or.inl ⟨by rfl, ?_⟩) hHeld ?_ ?_
 rotate_left
 ·rintro w' ⟨s0, s1, s2, s3, s4, s5, s6⟩
  go_simp
  with_reducible rfl
 rotate_left
 ·exact Zput
 refine take_ (i := 1) (N := some 6) (v := ?_) (a' := ?_) (bT 8 2) rfl rfl (take_ofW HT_.out HW_.out Zj) (fun _ _ _ h => h) (Or.inl ⟨by rfl, ?_⟩) hHeld ?_ ?_
 rotate_left
 ·rintro w' ⟨s0, s1, s2, s3, s4, s5, s6⟩
  go_simp
  with_reducible rfl
 rotate_left
 ·exact Zput
 refine take_ (i := 3) (N := some 8) (v := ?_) (a' := ?_) #[true, true, false, true, false, false, false, false] rfl rfl (take_ofW HT_.out HW_.out Zj) (fun _ _ _ h => h) (Or.inl ⟨by rfl, ?_⟩) hHeld ?_ ?_
 rotate_left
 ·rintro w' ⟨s0, s1, s2, s3, s4, s5, s6⟩
  go_simp
  with_reducible rfl
 rotate_left
 ·exact Zput
 refine take_ (i := 4) (N := some 9) (v := ?_) (a' := ?_) #[true, true, false, true, true, false, false, false] rfl rfl (take_ofW HT_.out HW_.out Zj) (fun _ _ _ h => h) (Or.inl ⟨by rfl, ?_⟩) hHeld ?_ ?_
 rotate_left
 ·rintro w' ⟨s0, s1, s2, s3, s4, s5, s6⟩
  go_simp
  with_reducible rfl
 rotate_left
 ·exact Zput
 refine one_ (i := 2) (N := some 7) (bT 8 5) rfl rfl (one_of HT_.out Zj) (by decide) (fun K hK => ?_)
 refine goes_ Try.func101 Zj rfl #[.agg #[.slice A0_0 l0_0.length c0_0, .slice A0_1 l0_1.length c0_1, .slice A0_2 l0_2.length c0_2], .agg #[.int .i64 a1_0, .int .i64 a1_1, .string a1_2, .int .i64 a1_3]] (by rfl) rfl rfl Zo ?_
 with_reducible refine (impl_articleFor.calls k _ _ l0_0 _ _ l0_1 _ _ l0_2 a1_0 a1_1 a1_2 a1_3 t827 t828 t829 t830 t831 t832 t833 t834 t835 _ ?side1 ?side2 ?side3 ?side4 ?side5 ?side6 A3.out).mono ?_
 (case side1 => exact (have z0_ := HR0_0; Zad))
 (case side2 => exact HC0_0.out)
 (case side3 => exact (have z0_ := HR0_1; Zad))
 (case side4 => exact HC0_1.out)
 (case side5 => exact (have z0_ := HR0_2; Zad))
 (case side6 => exact HC0_2.out)
 rintro e w9 ⟨rfl, hb⟩
 refine ⟨_, rfl, ?_⟩
 have n0_ := Aside0.mk (blk_below (g := gb825) (o := .cells #[.slice A0_0 l0_0.length c0_0, .slice A0_1 l0_1.length c0_1, .slice A0_2 l0_2.length c0_2] 32 (0, 0)) (have z0_ := BK825; Ze) hb)
 have n1_ := Aside0.mk (blk_below (g := gb826) (o := .cells #[.int .i64 a1_0, .int .i64 a1_1, .string a1_2, .int .i64 a1_3] 43 (0, 0)) (have z0_ := BK826; Ze) hb)
 have n2_ := Aside0.mk (below_step (have z0_ := GE825; have z1_ := GE826; Zh) hb)
 clear BK825
 clear BK826
 clear HB
 have BK825 := n0_
 have BK826 := n1_
 have HB := n2_
 clear n0_ n1_ n2_
 (try clear hb)
 (try clear hb2)
 (try clear hk)
 (try clear hi)
 refine hK.out _ _ ⟨(blk_cell BK825.out 0).trans rfl, (blk_cell BK825.out 1).trans rfl, (blk_cell BK825.out 2).trans rfl, (blk_cell BK826.out 0).trans rfl, (blk_cell BK826.out 1).trans rfl, (blk_cell BK826.out 2).trans rfl, (blk_cell BK826.out 3).trans rfl⟩ (fun hHeld => ?_)
 clear hK K
 refine norm_ (a' := ?_) ?_ ?_
 rotate_left
 ·show Act.put _ (some 7) _ = _
  simp only [Act.put, List.setIfInBounds_toArray, List.set_cons_zero, List.set_cons_succ, i64_w, i32_w]
  rfl
 refine one_ (i := 5) (N := some 10) (bT 8 6) rfl rfl (one_of HT_.out Zj) (by decide) (fun K hK => ?_)
 refine goes_ Try.func98 Zj rfl #[.agg #[.slice A0_0 l0_0.length c0_0, .slice A0_1 l0_1.length c0_1, .slice A0_2 l0_2.length c0_2], .agg #[.int .i64 a1_0, .int .i64 a1_1, .string a1_2, .int .i64 a1_3]] (by rfl) rfl rfl Zo ?_
 with_reducible refine (impl_firedAt.calls k _ _ l0_0 _ _ l0_1 _ _ l0_2 a1_0 a1_1 a1_2 a1_3 t836 _ ?side1 ?side2 ?side3 ?side4 ?side5 ?side6 A4.out).mono ?_
 (case side1 => exact (have z0_ := HR0_0; Zad))
 (case side2 => exact HC0_0.out)
 (case side3 => exact (have z0_ := HR0_1; Zad))
 (case side4 => exact HC0_1.out)
 (case side5 => exact (have z0_ := HR0_2; Zad))
 (case side6 => exact HC0_2.out)
 rintro e w10 ⟨rfl, hb⟩
 refine ⟨_, rfl, ?_⟩
 have n0_ := Aside0.mk (blk_below (g := gb825) (o := .cells #[.slice A0_0 l0_0.length c0_0, .slice A0_1 l0_1.length c0_1, .slice A0_2 l0_2.length c0_2] 32 (0, 0)) (have z0_ := BK825; Ze) hb)
 have n1_ := Aside0.mk (blk_below (g := gb826) (o := .cells #[.int .i64 a1_0, .int .i64 a1_1, .string a1_2, .int .i64 a1_3] 43 (0, 0)) (have z0_ := BK826; Ze) hb)
 have n2_ := Aside0.mk (below_step (have z0_ := GE825; have z1_ := GE826; Zh) hb)
 clear BK825
 clear BK826
 clear HB
 have BK825 := n0_
 have BK826 := n1_
 have HB := n2_
 clear n0_ n1_ n2_
 (try clear hb)
 (try clear hb2)
 (try clear hk)
 (try clear hi)
 refine hK.out _ _ ⟨(blk_cell BK825.out 0).trans rfl, (blk_cell BK825.out 1).trans rfl, (blk_cell BK825.out 2).trans rfl, (blk_cell BK826.out 0).trans rfl, (blk_cell BK826.out 1).trans rfl, (blk_cell BK826.out 2).trans rfl, (blk_cell BK826.out 3).trans rfl⟩ (fun hHeld => ?_)
 clear hK K
 refine norm_ (a' := ?_) ?_ ?_
 rotate_left
 ·show Act.put _ (some 10) _ = _
  simp only [Act.put, List.setIfInBounds_toArray, List.set_cons_zero, List.set_cons_succ, i64_w, i32_w]
  rfl
 refine one_ (i := 6) (N := some 11) (bT 8 7) rfl rfl (one_of HT_.out Zj) (by decide) (fun K hK => ?_)
 refine goes_ Try.func132 Zj rfl #[.agg #[.string t827, .int .i64 t828, .int .i64 t829, .int .i64 t830, .int .i64 t831, .int .i64 t832, .int .i64 t833, .int .i64 t834, .int .i64 t835], .int .i64 t836] (by rfl) rfl rfl Zo ?_
 with_reducible refine (impl_shotWindows.calls k t827 t828 t829 t830 t831 t832 t833 t834 t835 t836 t837 _ A5.out).mono ?_
 rintro e w11 ⟨v838, rfl, ho0, hb⟩
 refine ⟨_, rfl, ?_⟩
 have n0_ := Aside0.mk (Kd.S_lower ho0 (below_size (have z0_ := GE825; have z1_ := GE826; Zh)))
 have n1_ := Aside0.mk (blk_below (g := gb825) (o := .cells #[.slice A0_0 l0_0.length c0_0, .slice A0_1 l0_1.length c0_1, .slice A0_2 l0_2.length c0_2] 32 (0, 0)) (have z0_ := BK825; Ze) hb)
 have n2_ := Aside0.mk (blk_below (g := gb826) (o := .cells #[.int .i64 a1_0, .int .i64 a1_1, .string a1_2, .int .i64 a1_3] 43 (0, 0)) (have z0_ := BK826; Ze) hb)
 have n3_ := Aside0.mk (below_step (have z0_ := GE825; have z1_ := GE826; Zh) hb)
 clear BK825
 clear BK826
 clear HB
 have HO839 := n0_
 have BK825 := n1_
 have BK826 := n2_
 have HB := n3_
 clear n0_ n1_ n2_ n3_
 (try clear hb)
 (try clear hb2)
 (try clear hk)
 (try clear hi)
 (try clear ho0)
 refine hK.out _ _ ⟨(blk_cell BK825.out 0).trans rfl, (blk_cell BK825.out 1).trans rfl, (blk_cell BK825.out 2).trans rfl, (blk_cell BK826.out 0).trans rfl, (blk_cell BK826.out 1).trans rfl, (blk_cell BK826.out 2).trans rfl, (blk_cell BK826.out 3).trans rfl⟩ (fun hHeld => ?_)
 clear hK K
 refine norm_ (a' := ?_) ?_ ?_
 rotate_left
 ·show Act.put _ (some 11) _ = _
  simp only [Act.put, List.setIfInBounds_toArray, List.set_cons_zero, List.set_cons_succ, i64_w, i32_w]
  rfl
 refine pureZ HT_ 7 (some 4) (bT 8 8) ?_
 refine done_ (done_of HT_.out Zj) ?_
 try go_wp2
 go_ret
 exact ⟨_, Zk, (have z0_ := HO839; Zba), (have z0_ := GE825; have z1_ := GE826; Zh)⟩
def impl_surelyBefore.f (k : Nat) (l0_0 : List (S108)) (l0_1 : List (S92)) (l0_2 : List (S43)) (a1 : Int) (a2 : Int) : Option (Bool) := if 0 ≤ a1 then (if a1 < (l0_2.length : Int) then ((impl_windowsOfCue.f k l0_0 l0_1 l0_2 ((rd_T43 l0_2 a1).f0) ((rd_T43 l0_2 a1).f1) ((rd_T43 l0_2 a1).f2) ((rd_T43 l0_2 a1).f3)).bind fun t1049 => (if 0 ≤ a2 then (if a2 < (l0_2.length : Int) then ((impl_windowsOfCue.f k l0_0 l0_1 l0_2 ((rd_T43 l0_2 a2).f0) ((rd_T43 l0_2 a2).f1) ((rd_T43 l0_2 a2).f2) ((rd_T43 l0_2 a2).f3)).bind fun t1053 => (if 0 ≤ (wrap64 ((t1049.length : Int) - 1)) then (if (wrap64 ((t1049.length : Int) - 1)) < (t1049.length : Int) then (if 1 < ((rd_L9 t1049 (wrap64 ((t1049.length : Int) - 1))).length : Int) then (if 0 < (t1053.length : Int) then (if 0 < ((rd_L9 t1053 0).length : Int) then (some (decide ((rd (rd_L9 t1049 (wrap64 ((t1049.length : Int) - 1))) 1) < (rd (rd_L9 t1053 0) 0)))) else (none)) else (none)) else (none)) else (none)) else (none))) else (none)) else (none))) else (none)) else (none)
def impl_surelyBefore.T1 : Bool × List (List Nat × List Nat) := (true, [([], []), ([], []), ([1], [1]), ([], []), ([2, 3], [2, 3]), ([4], [4]), ([0, 5], [0, 5]), ([], []), ([], []), ([8], [8]), ([], []), ([9, 10], [9, 10]), ([11], [11]), ([7, 12, 6], [7, 12]), ([6, 13, 0, 1, 2, 3, 4, 5, 6], [6]), ([13, 14, 0, 1, 2, 3, 4, 5, 6, 7, 8, 9, 10, 11, 12, 13, 14], [13])])
def impl_surelyBefore.B1 : List Nat := [0, 0, 2, 0, 14, 30, 63, 0, 0, 256, 0, 1792, 3840, 8191, 16383, 32767]
theorem impl_surelyBefore.tab1 : rtab .any (opsOf Try.f105 1) = impl_surelyBefore.T1 := by kernel_rfl
theorem impl_surelyBefore.bits1 : waitsOk impl_surelyBefore.T1.2 impl_surelyBefore.B1 = true := by kernel_rfl
def impl_surelyBefore.T2 : Bool × List (List Nat × List Nat) := (true, [([], []), ([], []), ([1], [1]), ([2], [2]), ([0, 3], [0, 3]), ([4], [4]), ([5], [5]), ([6], [6]), ([], []), ([8], [8]), ([9], [9]), ([10], [10]), ([11], [11]), ([7, 12], [7, 12]), ([13, 0, 1, 2, 3, 4, 5, 6, 7, 8, 9, 10, 11, 12, 13], [13])])
def impl_surelyBefore.B2 : List Nat := [0, 0, 2, 6, 15, 31, 63, 127, 0, 256, 768, 1792, 3840, 8191, 16383]
theorem impl_surelyBefore.tab2 : rtab .any (opsOf Try.f105 2) = impl_surelyBefore.T2 := by kernel_rfl
theorem impl_surelyBefore.bits2 : waitsOk impl_surelyBefore.T2.2 impl_surelyBefore.B2 = true := by kernel_rfl
set_option maxHeartbeats 8000000 in
set_option maxRecDepth 100000 in
theorem impl_surelyBefore.calls (k : Nat) (A0_0 : Option Addr) (c0_0 : Nat) (l0_0 : List (S108)) (A0_1 : Option Addr) (c0_1 : Nat) (l0_1 : List (S92)) (A0_2 : Option Addr) (c0_2 : Nat) (l0_2 : List (S43)) (a1 : Int) (a2 : Int) (r : Bool) (w : World) (hr0_0 : Kd.C k108 w A0_0 l0_0.length l0_0) (hc0_0 : l0_0.length ≤ c0_0) (hr0_1 : Kd.C k92 w A0_1 l0_1.length l0_1) (hc0_1 : l0_1.length ≤ c0_1) (hr0_2 : Kd.C k43 w A0_2 l0_2.length l0_2) (hc0_2 : l0_2.length ≤ c0_2) (h : impl_surelyBefore.f k l0_0 l0_1 l0_2 a1 a2 = some r) :
  Calls Try.prog 105 #[.agg #[.slice A0_0 l0_0.length c0_0, .slice A0_1 l0_1.length c0_1, .slice A0_2 l0_2.length c0_2], .int .i64 a1, .int .i64 a2] w fun e w' => e = .returned (.bool r) ∧ Below w.heap.size w w' := by
 have hu32 := Try.underlying32
 have hu43 := Try.underlying43
 have HR0_0 := Aside0.mk hr0_0
 have HC0_0 := Aside0.mk hc0_0
 clear hr0_0 hc0_0
 have HR0_1 := Aside0.mk hr0_1
 have HC0_1 := Aside0.mk hc0_1
 clear hr0_1 hc0_1
 have HR0_2 := Aside0.mk hr0_2
 have HC0_2 := Aside0.mk hc0_2
 clear hr0_2 hc0_2
 have HB := Aside0.mk (Below.refl w.heap.size w)
 have H : (if 0 ≤ a1 then (if a1 < (l0_2.length : Int) then ((impl_windowsOfCue.f k l0_0 l0_1 l0_2 ((rd_T43 l0_2 a1).f0) ((rd_T43 l0_2 a1).f1) ((rd_T43 l0_2 a1).f2) ((rd_T43 l0_2 a1).f3)).bind fun t1049 => (if 0 ≤ a2 then (if a2 < (l0_2.length : Int) then ((impl_windowsOfCue.f k l0_0 l0_1 l0_2 ((rd_T43 l0_2 a2).f0) ((rd_T43 l0_2 a2).f1) ((rd_T43 l0_2 a2).f2) ((rd_T43 l0_2 a2).f3)).bind fun t1053 => (if 0 ≤ (wrap64 ((t1049.length : Int) - 1)) then (if (wrap64 ((t1049.length : Int) - 1)) < (t1049.length : Int) then (if 1 < ((rd_L9 t1049 (wrap64 ((t1049.length : Int) - 1))).length : Int) then (if 0 < (t1053.length : Int) then (if 0 < ((rd_L9 t1053 0).length : Int) then (some (decide ((rd (rd_L9 t1049 (wrap64 ((t1049.length : Int) - 1))) 1) < (rd (rd_L9 t1053 0) 0)))) else (none)) else (none)) else (none)) else (none)) else (none))) else (none)) else (none))) else (none)) else (none)) = some r := h
 clear h
 by_cases c4 : 0 ≤ a1
 ·rw [if_pos c4] at H
  have c4b0 := decide_eq_true c4
  clear c4
  by_cases c5 : a1 < (l0_2.length : Int)
  ·rw [if_pos c5] at H
   have c5b0 := decide_eq_true c5
   clear c5
   replace H := Option.bind_eq_some_iff.mp H
   obtain ⟨t1049, A60, H⟩ := H
   have A6 := Aside0.mk A60
   clear A60
   by_cases c7 : 0 ≤ a2
   ·rw [if_pos c7] at H
    have c7b0 := decide_eq_true c7
    clear c7
    by_cases c8 : a2 < (l0_2.length : Int)
    ·rw [if_pos c8] at H
     have c8b0 := decide_eq_true c8
     clear c8
     replace H := Option.bind_eq_some_iff.mp H
     obtain ⟨t1053, A90, H⟩ := H
     have A9 := Aside0.mk A90
     clear A90
     obtain ⟨ji10, hji10⟩ : ∃ j_ : Int, (wrap64 ((t1049.length : Int) - 1)) = j_ := ⟨_, rfl⟩
     replace H : (if 0 ≤ (ji10) then (if (ji10) < (t1049.length : Int) then (if 1 < ((rd_L9 t1049 (ji10)).length : Int) then (if 0 < (t1053.length : Int) then (if 0 < ((rd_L9 t1053 0).length : Int) then (some (decide ((rd (rd_L9 t1049 (ji10)) 1) < (rd (rd_L9 t1053 0) 0)))) else (none)) else (none)) else (none)) else (none)) else (none)) = some r := by first | (rw [hji10] at H; exact H) | (simp only [hji10] at H ⊢; exact H)
     (try rw [hji10] at A6)
     (try rw [hji10] at A9)
     have hji10w : (IntKind.i64.wrap ((t1049.length : Int) - 1)) = ji10 := (i64_w _).trans hji10
     by_cases c11 : 0 ≤ (ji10)
     ·rw [if_pos c11] at H
      have c11b0 := decide_eq_true c11
      clear c11
      by_cases c12 : (ji10) < (t1049.length : Int)
      ·rw [if_pos c12] at H
       have c12b0 := decide_eq_true c12
       clear c12
       by_cases c13 : 1 < ((rd_L9 t1049 (ji10)).length : Int)
       ·rw [if_pos c13] at H
        have c13b0 := decide_eq_true c13
        have c13b1 : decide (1 < (rd_L9 t1049 (ji10)).length) = true := decide_eq_true (by omega)
        clear c13
        by_cases c14 : 0 < (t1053.length : Int)
        ·rw [if_pos c14] at H
         have c14b0 := decide_eq_true c14
         have c14b1 : decide (0 < t1053.length) = true := decide_eq_true (by omega)
         clear c14
         by_cases c15 : 0 < ((rd_L9 t1053 0).length : Int)
         ·rw [if_pos c15] at H
          have c15b0 := decide_eq_true c15
          have c15b1 : decide (0 < (rd_L9 t1053 0).length) = true := decide_eq_true (by omega)
          clear c15
          obtain rfl := Option.some.inj H
          go_enter Try.func105, Try.ntmps105
          try go_wp2_with (first | ((with_reducible refine gate_dst (N := 3) rfl ?_); refine boxZ 3 #[.slice A0_0 l0_0.length c0_0, .slice A0_1 l0_1.length c0_1, .slice A0_2 l0_2.length c0_2] 32 ?_; intro gb1047 hg w16 hbox hb; have n0_ := Aside0.mk (below_step Zc hb); have n1_ := Aside0.mk (hbox); have n2_ := Aside0.mk ((Zd : w.heap.size ≤ gb1047)); have n3_ := Aside0.mk ((Zd : w.heap.size ≤ gb1047)); clear HB; have HB := n0_; have BK1047 := n1_; have GW1047 := n2_; have GE1047 := n3_; clear n0_ n1_ n2_ n3_; clear hb hbox hg))
          have n0_ := Aside0.mk (blk_drew BK1047.out)
          have n1_ := Aside0.mk (below_drew1 HB.out)
          clear BK1047
          clear HB
          have BK1047 := n0_
          have HB := n1_
          clear n0_ n1_
          have p1048 : 0 ≤ (a1 : Int) := of_decide_eq_true Zp
          have q1048 : a1 < (l0_2.length : Int) := of_decide_eq_true Zp
          obtain ⟨ad1048, e1048, hx1048_0, hx1048_1, hx1048_2, hx1048_3⟩ := at_T43 HR0_2.out a1 p1048 q1048
          have hw1048_3 := hx1048_3
          have hw1048_2 := hx1048_2
          have hw1048_1 := hx1048_1
          have hw1048_0 := hx1048_0
          cases e1048
          replace hx1048_0 := cbH HB hx1048_0
          replace hx1048_1 := cbH HB hx1048_1
          replace hx1048_2 := cbH HB hx1048_2
          replace hx1048_3 := cbH HB hx1048_3
          replace p1048 := eq_true p1048
          replace q1048 := eq_true q1048
          have p1052 : 0 ≤ (a2 : Int) := of_decide_eq_true Zp
          have q1052 : a2 < (l0_2.length : Int) := of_decide_eq_true Zp
          obtain ⟨ad1052, e1052, hx1052_0, hx1052_1, hx1052_2, hx1052_3⟩ := at_T43 HR0_2.out a2 p1052 q1052
          have hw1052_3 := hx1052_3
          have hw1052_2 := hx1052_2
          have hw1052_1 := hx1052_1
          have hw1052_0 := hx1052_0
          obtain rfl : ad1048 = ad1052 := (by injection e1052)
          replace hx1052_0 := cbH HB hx1052_0
          replace hx1052_1 := cbH HB hx1052_1
          replace hx1052_2 := cbH HB hx1052_2
          replace hx1052_3 := cbH HB hx1052_3
          replace p1052 := eq_true p1052
          replace q1052 := eq_true q1052
          refine start_ (n := 16) (S := fun w' => w'.cell? ⟨gb1047, 0, none⟩ = some (.slice A0_0 l0_0.length c0_0) ∧ w'.cell? ⟨gb1047, 1, none⟩ = some (.slice A0_1 l0_1.length c0_1) ∧ w'.cell? ⟨gb1047, 2, none⟩ = some (.slice (some ad1048) l0_2.length c0_2) ∧ w'.cell? (ad1048.add ((a1).toNat * 4)) = some (.int .i64 ((rd_T43 l0_2 a1).f0)) ∧ w'.cell? ⟨(ad1048.add ((a1).toNat * 4)).block, (ad1048.add ((a1).toNat * 4)).off + 1, none⟩ = some (.int .i64 ((rd_T43 l0_2 a1).f1)) ∧ w'.cell? ⟨(ad1048.add ((a1).toNat * 4)).block, (ad1048.add ((a1).toNat * 4)).off + 2, none⟩ = some (.string ((rd_T43 l0_2 a1).f2)) ∧ w'.cell? ⟨(ad1048.add ((a1).toNat * 4)).block, (ad1048.add ((a1).toNat * 4)).off + 3, none⟩ = some (.int .i64 ((rd_T43 l0_2 a1).f3)) ∧ w'.cell? (ad1048.add ((a2).toNat * 4)) = some (.int .i64 ((rd_T43 l0_2 a2).f0)) ∧ w'.cell? ⟨(ad1048.add ((a2).toNat * 4)).block, (ad1048.add ((a2).toNat * 4)).off + 1, none⟩ = some (.int .i64 ((rd_T43 l0_2 a2).f1)) ∧ w'.cell? ⟨(ad1048.add ((a2).toNat * 4)).block, (ad1048.add ((a2).toNat * 4)).off + 2, none⟩ = some (.string ((rd_T43 l0_2 a2).f2)) ∧ w'.cell? ⟨(ad1048.add ((a2).toNat * 4)).block, (ad1048.add ((a2).toNat * 4)).off + 3, none⟩ = some (.int .i64 ((rd_T43 l0_2 a2).f3))) (ds := []) (bT 16 0) Zj rfl rfl ⟨(blk_cell BK1047.out 0).trans rfl, (blk_cell BK1047.out 1).trans rfl, (blk_cell BK1047.out 2).trans rfl, (cbH HB hw1048_0 :), (cbH HB hw1048_1 :), (cbH HB hw1048_2 :), (cbH HB hw1048_3 :), (cbH HB hw1052_0 :), (cbH HB hw1052_1 :), (cbH HB hw1052_2 :), (cbH HB hw1052_3 :)⟩ (fun hHeld => ?_); refine with_tabW impl_surelyBefore.tab1 impl_surelyBefore.bits1 (fun HT_ HW_ => ?_)
          generalize w16.drew = w17 at BK1047 HB hx1048_0 hx1048_1 hx1048_2 hx1048_3 hx1052_0 hx1052_1 hx1052_2 hx1052_3 hHeld ⊢
          refine pureZ HT_ 1 (some 10) #[false, true, false, false, false, false, false, false, false, false, false, false, false, false, false, false] ?_
          refine pureZ HT_ 3 (some 12) #[false, true, false, true, false, false, false, false, false, false, false, false, false, false, false, false] ?_
          refine pureZ HT_ 8 (some 17) #[false, true, false, true, false, false, false, false, true, false, false, false, false, false, false, false] ?_
          refine pureZ HT_ 10 (some 19) #[false, true, false, true, false, false, false, false, true, false, true, false, false, false, false, false] ?_
          refine take_ (i := 0) (N := some 9) (v := ?_) (a' := ?_) #[true, true, false, true, false, false, false, false, true, false, true, false, false, false, false, false] rfl rfl (take_ofW HT_.out HW_.out Zj) (fun _ _ _ h => h) (Or.inl ⟨by rfl, ?_⟩) hHeld ?_ ?_
          rotate_left
          ·rintro w' ⟨s0, s1, s2, s3, s4, s5, s6, s7, s8, s9, s10⟩
           go_simp
           with_reducible rfl
          rotate_left
          ·exact Zput
          refine take_ (i := 2) (N := some 11) (v := ?_) (a' := ?_) #[true, true, true, true, false, false, false, false, true, false, true, false, false, false, false, false] rfl rfl (take_ofW HT_.out HW_.out Zj) (fun _ _ _ h => h) (Or.inl ⟨by rfl, ?_⟩) hHeld ?_ ?_
          rotate_left
          ·rintro w' ⟨s0, s1, s2, s3, s4, s5, s6, s7, s8, s9, s10⟩
           go_simp
           with_reducible rfl
          rotate_left
          ·exact Zput
          refine pureZ HT_ 4 (some 13) #[true, true, true, true, true, false, false, false, true, false, true, false, false, false, false, false] ?_
          refine take_ (i := 5) (N := some 14) (v := ?_) (a' := ?_) #[true, true, true, true, true, true, false, false, true, false, true, false, false, false, false, false] rfl rfl (take_ofW HT_.out HW_.out Zj) (fun _ _ _ h => h) (Or.inl ⟨by rfl, ?_⟩) hHeld ?_ ?_
          rotate_left
          ·rintro w' ⟨s0, s1, s2, s3, s4, s5, s6, s7, s8, s9, s10⟩
           go_simp
           with_reducible rfl
          rotate_left
          ·exact Zput
          refine take_ (i := 7) (N := some 16) (v := ?_) (a' := ?_) #[true, true, true, true, true, true, false, true, true, false, true, false, false, false, false, false] rfl rfl (take_ofW HT_.out HW_.out Zj) (fun _ _ _ h => h) (Or.inl ⟨by rfl, ?_⟩) hHeld ?_ ?_
          rotate_left
          ·rintro w' ⟨s0, s1, s2, s3, s4, s5, s6, s7, s8, s9, s10⟩
           go_simp
           with_reducible rfl
          rotate_left
          ·exact Zput
          refine take_ (i := 9) (N := some 18) (v := ?_) (a' := ?_) #[true, true, true, true, true, true, false, true, true, true, true, false, false, false, false, false] rfl rfl (take_ofW HT_.out HW_.out Zj) (fun _ _ _ h => h) (Or.inl ⟨by rfl, ?_⟩) hHeld ?_ ?_
          rotate_left
          ·rintro w' ⟨s0, s1, s2, s3, s4, s5, s6, s7, s8, s9, s10⟩
           go_simp
           with_reducible rfl
          rotate_left
          ·exact Zput
          refine pureZ HT_ 11 (some 20) #[true, true, true, true, true, true, false, true, true, true, true, true, false, false, false, false] ?_
          refine take_ (i := 12) (N := some 21) (v := ?_) (a' := ?_) #[true, true, true, true, true, true, false, true, true, true, true, true, true, false, false, false] rfl rfl (take_ofW HT_.out HW_.out Zj) (fun _ _ _ h => h) (Or.inl ⟨by rfl, ?_⟩) hHeld ?_ ?_
          rotate_left
          ·rintro w' ⟨s0, s1, s2, s3, s4, s5, s6, s7, s8, s9, s10⟩
           go_simp
           with_reducible rfl
          rotate_left
          ·exact Zput
          refine one_ (i := 6) (N := some 15) (bT 16 13) rfl rfl (one_of HT_.out Zj) (by decide) (fun K hK => ?_)
          refine goes_ Try.func107 Zj rfl #[.agg #[.slice A0_0 l0_0.length c0_0, .slice A0_1 l0_1.length c0_1, .slice (some ad1048) l0_2.length c0_2], .agg #[.int .i64 ((rd_T43 l0_2 a1).f0), .int .i64 ((rd_T43 l0_2 a1).f1), .string ((rd_T43 l0_2 a1).f2), .int .i64 ((rd_T43 l0_2 a1).f3)]] (by rfl) rfl rfl Zo ?_
          with_reducible refine (impl_windowsOfCue.calls k _ _ l0_0 _ _ l0_1 _ _ l0_2 ((rd_T43 l0_2 a1).f0) ((rd_T43 l0_2 a1).f1) ((rd_T43 l0_2 a1).f2) ((rd_T43 l0_2 a1).f3) t1049 _ ?side1 ?side2 ?side3 ?side4 ?side5 ?side6 A6.out).mono ?_
          (case side1 => exact (have z0_ := HR0_0; Zad))
          (case side2 => exact HC0_0.out)
          (case side3 => exact (have z0_ := HR0_1; Zad))
          (case side4 => exact HC0_1.out)
          (case side5 => exact (have z0_ := HR0_2; Zad))
          (case side6 => exact HC0_2.out)
          rintro e w18 ⟨v1050, rfl, ho0, hb⟩
          refine ⟨_, rfl, ?_⟩
          have n0_ := Aside0.mk (Kd.S_lower ho0 (below_size (have z0_ := GE1047; Zf)))
          have n1_ := Aside0.mk (blk_below (g := gb1047) (o := .cells #[.slice A0_0 l0_0.length c0_0, .slice A0_1 l0_1.length c0_1, .slice (some ad1048) l0_2.length c0_2] 32 (0, 0)) (have z0_ := BK1047; Ze) hb)
          have n2_ := Aside0.mk (below_step (have z0_ := GE1047; Zf) hb)
          clear BK1047
          clear HB
          have HO1051 := n0_
          have BK1047 := n1_
          have HB := n2_
          clear n0_ n1_ n2_
          (try clear hb)
          (try clear hb2)
          (try clear hk)
          (try clear hi)
          (try clear ho0)
          refine hK.out _ _ ⟨(blk_cell BK1047.out 0).trans rfl, (blk_cell BK1047.out 1).trans rfl, (blk_cell BK1047.out 2).trans rfl, (cbH HB hw1048_0 :), (cbH HB hw1048_1 :), (cbH HB hw1048_2 :), (cbH HB hw1048_3 :), (cbH HB hw1052_0 :), (cbH HB hw1052_1 :), (cbH HB hw1052_2 :), (cbH HB hw1052_3 :)⟩ (fun hHeld => ?_)
          clear hK K
          refine norm_ (a' := ?_) ?_ ?_
          rotate_left
          ·show Act.put _ (some 15) _ = _
           simp only [Act.put, List.setIfInBounds_toArray, List.set_cons_zero, List.set_cons_succ, i64_w, i32_w]
           rfl
          refine one_ (i := 13) (N := some 22) (bT 16 14) rfl rfl (one_of HT_.out Zj) (by decide) (fun K hK => ?_)
          refine goes_ Try.func107 Zj rfl #[.agg #[.slice A0_0 l0_0.length c0_0, .slice A0_1 l0_1.length c0_1, .slice (some ad1048) l0_2.length c0_2], .agg #[.int .i64 ((rd_T43 l0_2 a2).f0), .int .i64 ((rd_T43 l0_2 a2).f1), .string ((rd_T43 l0_2 a2).f2), .int .i64 ((rd_T43 l0_2 a2).f3)]] (by rfl) rfl rfl Zo ?_
          with_reducible refine (impl_windowsOfCue.calls k _ _ l0_0 _ _ l0_1 _ _ l0_2 ((rd_T43 l0_2 a2).f0) ((rd_T43 l0_2 a2).f1) ((rd_T43 l0_2 a2).f2) ((rd_T43 l0_2 a2).f3) t1053 _ ?side1 ?side2 ?side3 ?side4 ?side5 ?side6 A9.out).mono ?_
          (case side1 => exact (have z0_ := HR0_0; Zad))
          (case side2 => exact HC0_0.out)
          (case side3 => exact (have z0_ := HR0_1; Zad))
          (case side4 => exact HC0_1.out)
          (case side5 => exact (have z0_ := HR0_2; Zad))
          (case side6 => exact HC0_2.out)
          rintro e w19 ⟨v1054, rfl, ho0, hb⟩
          refine ⟨_, rfl, ?_⟩
          have n0_ := Aside0.mk (Kd.S_elder' (have z0_ := HO1051; Zba) (Kd.S_base ho0) hb)
          have n1_ := Aside0.mk (Kd.S_lower (Kd.S_new' ho0 (Kd.S_lt (have z0_ := HO1051; Zba))) (below_size (have z0_ := GE1047; Zf)))
          have n2_ := Aside0.mk (blk_below (g := gb1047) (o := .cells #[.slice A0_0 l0_0.length c0_0, .slice A0_1 l0_1.length c0_1, .slice (some ad1048) l0_2.length c0_2] 32 (0, 0)) (have z0_ := BK1047; Ze) hb)
          have n3_ := Aside0.mk (below_step (have z0_ := GE1047; Zf) hb)
          clear HO1051
          clear BK1047
          clear HB
          have HO1051 := n0_
          have HO1055 := n1_
          have BK1047 := n2_
          have HB := n3_
          clear n0_ n1_ n2_ n3_
          (try clear hb)
          (try clear hb2)
          (try clear hk)
          (try clear hi)
          (try clear ho0)
          refine hK.out _ _ ⟨(blk_cell BK1047.out 0).trans rfl, (blk_cell BK1047.out 1).trans rfl, (blk_cell BK1047.out 2).trans rfl, (cbH HB hw1048_0 :), (cbH HB hw1048_1 :), (cbH HB hw1048_2 :), (cbH HB hw1048_3 :), (cbH HB hw1052_0 :), (cbH HB hw1052_1 :), (cbH HB hw1052_2 :), (cbH HB hw1052_3 :)⟩ (fun hHeld => ?_)
          clear hK K
          refine norm_ (a' := ?_) ?_ ?_
          rotate_left
          ·show Act.put _ (some 22) _ = _
           simp only [Act.put, List.setIfInBounds_toArray, List.set_cons_zero, List.set_cons_succ, i64_w, i32_w]
           rfl
          refine pureZ HT_ 14 (some 7) (bT 16 15) ?_
          refine pureZ HT_ 15 (some 8) (bT 16 16) ?_
          refine done_ (done_of HT_.out Zj) ?_
          try go_wp2
          have n0_ := Aside0.mk (Kd.S_drew HO1051.out)
          have n1_ := Aside0.mk (Kd.S_drew HO1055.out)
          have n2_ := Aside0.mk (blk_drew BK1047.out)
          have n3_ := Aside0.mk (below_drew1 HB.out)
          clear HO1051
          clear HO1055
          clear BK1047
          clear HB
          have HO1051 := n0_
          have HO1055 := n1_
          have BK1047 := n2_
          have HB := n3_
          clear n0_ n1_ n2_ n3_
          obtain ⟨Ao21, co21, eo21⟩ := Kd.S_slice HO1051.out
          (first | subst eo21 | (injection eo21 with f1_ f2_ f3_; have f4_ := f1_.symm; have f5_ := f3_.symm; clear f1_ f2_ f3_; subst f4_; subst f5_))
          have p1056 : 0 ≤ ((ji10) : Int) := of_decide_eq_true Zp
          have q1056 : (ji10) < (t1049.length : Int) := of_decide_eq_true Zp
          obtain ⟨ad1056, A1056_0, c1056_0, e1056, hx1056_0, hl1056_0, hi1056_0⟩ := at_L9 (Kd.S_reads' HO1051.out).2.2 (ji10) p1056 q1056
          cases e1056
          obtain ⟨ce1056, hce1056, hMe1056, hcc1056⟩ := Kd.S_get HO1051.out [] (ji10) p1056 (by first | exact q1056 | exact of_decide_eq_true Zp | (have e_ := (Kd.S_reads' HO1051.out).1; omega))
          obtain ⟨ve1056_0, rfl, ge1056_0⟩ := hMe1056
          have hv1056_0 := hcc1056 0 _ rfl
          rw [Nat.add_zero, show ((Kd.slice 2 (Kd.int .i64))).sz = 1 from rfl, Nat.mul_one] at hv1056_0
          replace hv1056_0 := Option.some.inj (hv1056_0.symm.trans hx1056_0)
          rw [hv1056_0] at ge1056_0
          have HL1056_0 := Aside0.mk (show Kd.R (Kd.int .i64) 2 _ _ _ _ (rd_L9 t1049 (ji10)) from ge1056_0)
          clear hv1056_0 ge1056_0
          clear hcc1056 hce1056
          have HR1056_0 := Aside0.mk hi1056_0
          have HC1056_0 := Aside0.mk hl1056_0
          clear hi1056_0 hl1056_0
          replace p1056 := eq_true p1056
          replace q1056 := eq_true q1056
          have p1057 : 0 ≤ (1 : Int) := (by omega)
          have q1057 : 1 < ((rd_L9 t1049 (ji10)).length : Int) := of_decide_eq_true Zp
          obtain ⟨ad1057, e1057, hx1057_0⟩ := Kd.at_int (have z0_ := HR1056_0; Zbb) 1 p1057 q1057
          cases e1057
          (try simp only [show (1 : Int).toNat = 1 from rfl, Nat.reduceMul, Nat.reduceEqDiff, Go.Addr.add, ↓reduceIte] at hx1057_0)
          have qi1057 : (1 < (rd_L9 t1049 (ji10)).length) = True := eq_true (by omega)
          (try rw [show ((1 : Int)).toNat = 1 from rfl] at hx1057_0)
          replace p1057 := eq_true p1057
          replace q1057 := eq_true q1057
          obtain ⟨Ao22, co22, eo22⟩ := Kd.S_slice HO1055.out
          (first | subst eo22 | (injection eo22 with f1_ f2_ f3_; have f4_ := f1_.symm; have f5_ := f3_.symm; clear f1_ f2_ f3_; subst f4_; subst f5_))
          have p1058 : 0 ≤ (0 : Int) := (by omega)
          have q1058 : 0 < (t1053.length : Int) := of_decide_eq_true Zp
          obtain ⟨ad1058, A1058_0, c1058_0, e1058, hx1058_0, hl1058_0, hi1058_0⟩ := at_L9 (Kd.S_reads' HO1055.out).2.2 0 p1058 q1058
          cases e1058
          obtain ⟨ce1058, hce1058, hMe1058, hcc1058⟩ := Kd.S_get HO1055.out [] 0 p1058 (by first | exact q1058 | exact of_decide_eq_true Zp | (have e_ := (Kd.S_reads' HO1055.out).1; omega))
          obtain ⟨ve1058_0, rfl, ge1058_0⟩ := hMe1058
          have hv1058_0 := hcc1058 0 _ rfl
          rw [Nat.add_zero, show ((Kd.slice 2 (Kd.int .i64))).sz = 1 from rfl, Nat.mul_one] at hv1058_0
          replace hv1058_0 := Option.some.inj (hv1058_0.symm.trans hx1058_0)
          rw [hv1058_0] at ge1058_0
          have HL1058_0 := Aside0.mk (show Kd.R (Kd.int .i64) 2 _ _ _ _ (rd_L9 t1053 0) from ge1058_0)
          clear hv1058_0 ge1058_0
          clear hcc1058 hce1058
          have qi1058 : (0 < t1053.length) = True := eq_true (by omega)
          (try rw [show ((0 : Int)).toNat = 0 from rfl] at hx1058_0)
          (try rw [Addr.add_zero'] at hx1058_0)
          have HR1058_0 := Aside0.mk hi1058_0
          have HC1058_0 := Aside0.mk hl1058_0
          clear hi1058_0 hl1058_0
          replace p1058 := eq_true p1058
          replace q1058 := eq_true q1058
          have p1059 : 0 ≤ (0 : Int) := (by omega)
          have q1059 : 0 < ((rd_L9 t1053 0).length : Int) := of_decide_eq_true Zp
          obtain ⟨ad1059, e1059, hx1059_0⟩ := Kd.at_int (have z0_ := HR1058_0; Zbb) 0 p1059 q1059
          cases e1059
          have qi1059 : (0 < (rd_L9 t1053 0).length) = True := eq_true (by omega)
          (try rw [show ((0 : Int)).toNat = 0 from rfl] at hx1059_0)
          (try rw [Addr.add_zero'] at hx1059_0)
          replace p1059 := eq_true p1059
          replace q1059 := eq_true q1059
          refine start_ (n := 15) (S := fun w' => w'.cell? (ad1056.add ((ji10)).toNat) = some (.slice (some ad1057) (rd_L9 t1049 (ji10)).length c1056_0) ∧ w'.cell? ⟨ad1057.block, ad1057.off + 1, none⟩ = some (.int .i64 (rd (rd_L9 t1049 (ji10)) 1)) ∧ w'.cell? ad1058 = some (.slice (some ad1059) (rd_L9 t1053 0).length c1058_0) ∧ w'.cell? ad1059 = some (.int .i64 (rd (rd_L9 t1053 0) 0))) (ds := []) (bT 15 0) Zj rfl rfl ⟨hx1056_0, hx1057_0, hx1058_0, hx1059_0⟩ (fun hHeld => ?_); refine with_tabW impl_surelyBefore.tab2 impl_surelyBefore.bits2 (fun HT_ HW_ => ?_)
          generalize w19.drew = w20 at HO1051 HO1055 BK1047 HB HL1056_0 HL1058_0 HR1056_0 HR1058_0 hx1056_0 hx1057_0 hx1058_0 hx1059_0 hHeld ⊢
          refine pureZ HT_ 0 (some 23) (bT 15 1) ?_
          refine pureZ HT_ 1 (some 24) (bT 15 2) ?_
          refine pureZ HT_ 2 (some 25) (bT 15 3) ?_
          refine pureZ HT_ 3 (some 26) (bT 15 4) ?_
          refine pureZ HT_ 4 (some 27) (bT 15 5) ?_
          refine pureZ HT_ 8 (some 31) #[true, true, true, true, true, false, false, false, true, false, false, false, false, false, false] ?_
          refine pureZ HT_ 9 (some 32) #[true, true, true, true, true, false, false, false, true, true, false, false, false, false, false] ?_
          refine take_ (i := 5) (N := some 28) (v := ?_) (a' := ?_) #[true, true, true, true, true, true, false, false, true, true, false, false, false, false, false] rfl rfl (take_ofW HT_.out HW_.out Zj) (fun _ _ _ h => h) (Or.inl ⟨by rfl, ?_⟩) hHeld ?_ ?_
          rotate_left
          ·rintro w' ⟨s0, s1, s2, s3⟩
           go_simp
           with_reducible rfl
          rotate_left
          ·exact Zput
          refine pureZ HT_ 6 (some 29) #[true, true, true, true, true, true, true, false, true, true, false, false, false, false, false] ?_
          refine take_ (i := 7) (N := some 30) (v := ?_) (a' := ?_) (bT 15 10) rfl rfl (take_ofW HT_.out HW_.out Zj) (fun _ _ _ h => h) (Or.inl ⟨by rfl, ?_⟩) hHeld ?_ ?_
          rotate_left
          ·rintro w' ⟨s0, s1, s2, s3⟩
           go_simp
           with_reducible rfl
          rotate_left
          ·exact Zput
          refine take_ (i := 10) (N := some 33) (v := ?_) (a' := ?_) (bT 15 11) rfl rfl (take_ofW HT_.out HW_.out Zj) (fun _ _ _ h => h) (Or.inl ⟨by rfl, ?_⟩) hHeld ?_ ?_
          rotate_left
          ·rintro w' ⟨s0, s1, s2, s3⟩
           go_simp
           with_reducible rfl
          rotate_left
          ·exact Zput
          refine pureZ HT_ 11 (some 34) (bT 15 12) ?_
          refine take_ (i := 12) (N := some 35) (v := ?_) (a' := ?_) (bT 15 13) rfl rfl (take_ofW HT_.out HW_.out Zj) (fun _ _ _ h => h) (Or.inl ⟨by rfl, ?_⟩) hHeld ?_ ?_
          rotate_left
          ·rintro w' ⟨s0, s1, s2, s3⟩
           go_simp
           with_reducible rfl
          rotate_left
          ·exact Zput
          refine pureZ HT_ 13 (some 36) (bT 15 14) ?_
          refine pureZ HT_ 14 (some 6) (bT 15 15) ?_
          refine done_ (done_of HT_.out Zj) ?_
          try go_wp2
          go_ret
          exact ⟨by first | rfl | (simp [errW_none, errW_some] <;> rfl) | (simp only [← hji10]; first | rfl | (simp [errW_none, errW_some] <;> rfl)) | (simp [*, errW_none, errW_some] <;> rfl), (have z0_ := GE1047; Zf)⟩
         ·rw [if_neg c15] at H
          exact absurd H (by simp)
        ·rw [if_neg c14] at H
         exact absurd H (by simp)
       ·rw [if_neg c13] at H
        exact absurd H (by simp)
      ·rw [if_neg c12] at H
       exact absurd H (by simp)
     ·rw [if_neg c11] at H
      exact absurd H (by simp)
    ·rw [if_neg c8] at H
     exact absurd H (by simp)
   ·rw [if_neg c7] at H
    exact absurd H (by simp)
  ·rw [if_neg c5] at H
   exact absurd H (by simp)
 ·rw [if_neg c4] at H
  exact absurd H (by simp)
mutual
def impl_UnsurePairs.l0 : Nat → List (List Int) → Int → List (S108) → List (S92) → List (S43) → Option ((List (List Int)) × Int)
 | 0, _, _, _, _, _ => none
 | k + 1, x4, x5, x1814000, x1814001, x1814002 => if x5 < (x1814002.length : Int) then (impl_UnsurePairs.l1 k x4 x5 (wrap64 (x5 + 1)) x1814000 x1814001 x1814002) else (some (x4, 0))
def impl_UnsurePairs.l1 : Nat → List (List Int) → Int → Int → List (S108) → List (S92) → List (S43) → Option ((List (List Int)) × Int)
 | 0, _, _, _, _, _, _ => none
 | k + 1, x4, x5, x6, x1814000, x1814001, x1814002 => if x6 < (x1814002.length : Int) then ((impl_surelyBefore.f k x1814000 x1814001 x1814002 x5 x6).bind fun t1815 => (if t1815 = true then (impl_UnsurePairs.l1 k x4 x5 (wrap64 (x6 + 1)) x1814000 x1814001 x1814002) else ((impl_surelyBefore.f k x1814000 x1814001 x1814002 x6 x5).bind fun t1816 => (if t1816 = true then (impl_UnsurePairs.l1 k x4 x5 (wrap64 (x6 + 1)) x1814000 x1814001 x1814002) else (if x4.length < 5864062014805 then (impl_UnsurePairs.l1 k (x4 ++ [(([x5, x6] : List Int))]) x5 (wrap64 (x6 + 1)) x1814000 x1814001 x1814002) else (none)))))) else (impl_UnsurePairs.l0 k x4 (wrap64 (x5 + 1)) x1814000 x1814001 x1814002)
end
def impl_UnsurePairs.f (k : Nat) (l0_0 : List (S108)) (l0_1 : List (S92)) (l0_2 : List (S43)) : Option ((List (List Int)) × Int) := (impl_IsShow.f k l0_0 l0_1 l0_2).bind fun t1814 => (if t1814 = true then (impl_UnsurePairs.l0 k ([] : List (List Int)) 0 l0_0 l0_1 l0_2) else (some (([] : List (List Int)), 1)))
set_option maxHeartbeats 8000000 in
set_option maxRecDepth 100000 in
theorem impl_UnsurePairs.calls (k : Nat) (A0_0 : Option Addr) (c0_0 : Nat) (l0_0 : List (S108)) (A0_1 : Option Addr) (c0_1 : Nat) (l0_1 : List (S92)) (A0_2 : Option Addr) (c0_2 : Nat) (l0_2 : List (S43)) (r1 : List (List Int)) (r2 : Int) (w : World) (hr0_0 : Kd.C k108 w A0_0 l0_0.length l0_0) (hc0_0 : l0_0.length ≤ c0_0) (hr0_1 : Kd.C k92 w A0_1 l0_1.length l0_1) (hc0_1 : l0_1.length ≤ c0_1) (hr0_2 : Kd.C k43 w A0_2 l0_2.length l0_2) (hc0_2 : l0_2.length ≤ c0_2) (h : impl_UnsurePairs.f k l0_0 l0_1 l0_2 = some (r1, r2)) :
  Calls Try.prog 64 #[.agg #[.slice A0_0 l0_0.length c0_0, .slice A0_1 l0_1.length c0_1, .slice A0_2 l0_2.length c0_2]] w fun e w' => ∃ v0_ : Value, e = .returned (.tuple #[v0_, .int .i64 r2]) ∧ Kd.S (Kd.slice 2 (Kd.int .i64)) 61 w' w.heap.size (fun _ => True) v0_ r1 ∧ Below w.heap.size w w' := by
 have hu32 := Try.underlying32
 have HR0_0 := Aside0.mk hr0_0
 have HC0_0 := Aside0.mk hc0_0
 clear hr0_0 hc0_0
 have HR0_1 := Aside0.mk hr0_1
 have HC0_1 := Aside0.mk hc0_1
 clear hr0_1 hc0_1
 have HR0_2 := Aside0.mk hr0_2
 have HC0_2 := Aside0.mk hc0_2
 clear hr0_2 hc0_2
 have HB := Aside0.mk (Below.refl w.heap.size w)
 have H : ((impl_IsShow.f k l0_0 l0_1 l0_2).bind fun t1814 => (if t1814 = true then (impl_UnsurePairs.l0 k ([] : List (List Int)) 0 l0_0 l0_1 l0_2) else (some (([] : List (List Int)), 1)))) = some (r1, r2) := h
 clear h
 replace H := Option.bind_eq_some_iff.mp H
 obtain ⟨t1814, A20, H⟩ := H
 have A2 := Aside0.mk A20
 clear A20
 by_cases c3 : t1814 = true
 ·subst c3
  have H1 : (impl_UnsurePairs.l0 k ([] : List (List Int)) 0 l0_0 l0_1 l0_2) = some (r1, r2) := by rw [if_pos rfl] at H; exact H
  clear H
  have H := H1
  clear H1
  have H' := Aside0.mk H
  clear H
  go_enter Try.func64, Try.ntmps64
  go_wp2_with (first | ((with_reducible refine gate_dst (N := 1) rfl ?_); refine boxZ 1 #[.slice A0_0 l0_0.length c0_0, .slice A0_1 l0_1.length c0_1, .slice A0_2 l0_2.length c0_2] 32 ?_; intro gb1813 hg w4 hbox hb; have n0_ := Aside0.mk (below_step Zc hb); have n1_ := Aside0.mk (hbox); have n2_ := Aside0.mk ((Zd : w.heap.size ≤ gb1813)); have n3_ := Aside0.mk ((Zd : w.heap.size ≤ gb1813)); clear HB; have HB := n0_; have BK1813 := n1_; have GW1813 := n2_; have GE1813 := n3_; clear n0_ n1_ n2_ n3_; clear hb hbox hg; obtain ⟨hcz5_0, hcz5_1, hcz5_2, hfz5_0, hfz5_1, hfz5_2⟩ := cz3 BK1813) | ((with_reducible refine gate_callee (f := 37) rfl ?_); refine goesL_ (some 8) rfl rfl Try.func37 Zj rfl #[.agg #[.slice A0_0 l0_0.length c0_0, .slice A0_1 l0_1.length c0_1, .slice A0_2 l0_2.length c0_2]] rfl Zo ?_; (with_reducible refine (impl_IsShow.calls k _ _ l0_0 _ _ l0_1 _ _ l0_2 true _ ?side1 ?side2 ?side3 ?side4 ?side5 ?side6 A2.out).mono ?_); (case side1 => exact (have z0_ := HR0_0; Zad)); (case side2 => exact HC0_0.out); (case side3 => exact (have z0_ := HR0_1; Zad)); (case side4 => exact HC0_1.out); (case side5 => exact (have z0_ := HR0_2; Zad)); (case side6 => exact HC0_2.out); rintro e w6 ⟨rfl, hb⟩; refine ⟨_, rfl, ?_⟩; have n0_ := Aside0.mk (blk_below (g := gb1813) (o := .cells #[.slice A0_0 l0_0.length c0_0, .slice A0_1 l0_1.length c0_1, .slice A0_2 l0_2.length c0_2] 32 (0, 0)) (have z0_ := BK1813; Ze) hb); have n1_ := Aside0.mk (below_step (have z0_ := GE1813; Zf) hb); clear BK1813; clear HB; have BK1813 := n0_; have HB := n1_; clear n0_ n1_; (try clear hb); (try clear hb2); (try clear hk); (try clear hi)))
  go_loopg [4, 5] k (fun kq v4 v5 w' => ∃ (x4_1 : List (List Int)) (x5_1 : Int), v5 = .int .i64 x5_1 ∧ Aside0 (impl_UnsurePairs.l0 kq x4_1 x5_1 l0_0 l0_1 l0_2 = some (r1, r2)) ∧ Aside0 (kq ≤ k) ∧ Aside0 (Kd.S (Kd.slice 2 (Kd.int .i64)) 61 w' w.heap.size (fun _ => True) v4 x4_1) ∧ Aside0 (w'.heap[gb1813]? = some (.cells #[(.slice A0_0 l0_0.length c0_0), (.slice A0_1 l0_1.length c0_1), (.slice A0_2 l0_2.length c0_2)] 32 (0, 0))) ∧ Aside0 (Below w.heap.size w w'))
  case atStart => exact ⟨(([] : List (List Int))), (0), Za, H', ⟨Nat.le_refl _⟩, ⟨Zbe⟩, ⟨(have z0_ := BK1813; Ze)⟩, ⟨(have z0_ := GE1813; Zf)⟩⟩
  case round =>
   clear H'
   try clear p2
   try clear c3
   try clear c6
   try clear hcz5_0
   try clear hcz5_1
   try clear hcz5_2
   try clear hfz5_0
   try clear hfz5_1
   try clear hfz5_2
   obtain ⟨x4_1, x5_1, rfl, HA, HK1, HO_4, BK1813, HB⟩ := hrel
   cases gk with
   | zero => exact absurd HA.out (by simp [impl_UnsurePairs.l0])
   | succ k1 =>
    have H := HA.out
    clear HA
    simp only [impl_UnsurePairs.l0] at H
    by_cases c7 : x5_1 < (l0_2.length : Int)
    ·rw [if_pos c7] at H
     have c7b0 := decide_eq_true c7
     clear c7
     have H' := Aside0.mk H
     clear H
     obtain ⟨hcz8_0, hcz8_1, hcz8_2, hfz8_0, hfz8_1, hfz8_2⟩ := cz3 BK1813
     go_wp2
     go_loopg [4, 6] k1 (fun kq v4 v6 w' => ∃ (x4_2 : List (List Int)) (x6_2 : Int), v6 = .int .i64 x6_2 ∧ Aside0 (impl_UnsurePairs.l1 kq x4_2 x5_1 x6_2 l0_0 l0_1 l0_2 = some (r1, r2)) ∧ Aside0 (kq ≤ k1) ∧ Aside0 (Kd.S (Kd.slice 2 (Kd.int .i64)) 61 w' w.heap.size (fun _ => True) v4 x4_2) ∧ Aside0 (w'.heap[gb1813]? = some (.cells #[(.slice A0_0 l0_0.length c0_0), (.slice A0_1 l0_1.length c0_1), (.slice A0_2 l0_2.length c0_2)] 32 (0, 0))) ∧ Aside0 (Below w.heap.size w w'))
     case atStart => exact ⟨(x4_1), (wrap64 (x5_1 + 1)), Za, H', ⟨Nat.le_refl _⟩, ⟨(have z0_ := HO_4; Zba)⟩, ⟨(have z0_ := BK1813; Ze)⟩, ⟨(have z0_ := GE1813; Zf)⟩⟩
     case round =>
      clear H'
      try clear p2
      try clear c3
      try clear c6
      try clear p6
      try clear c7
      try clear c7b0
      try clear hcz5_0
      try clear hcz5_1
      try clear hcz5_2
      try clear hcz8_0
      try clear hcz8_1
      try clear hcz8_2
      try clear hfz5_0
      try clear hfz5_1
      try clear hfz5_2
      try clear hfz8_0
      try clear hfz8_1
      try clear hfz8_2
      try clear p2
      obtain ⟨x4_2, x6_2, rfl, HA, HK2, HO_4, BK1813, HB⟩ := hrel
      cases gk with
      | zero => exact absurd HA.out (by simp [impl_UnsurePairs.l1])
      | succ k2 =>
       have H := HA.out
       clear HA
       simp only [impl_UnsurePairs.l1] at H
       by_cases c9 : x6_2 < (l0_2.length : Int)
       ·rw [if_pos c9] at H
        have c9b0 := decide_eq_true c9
        clear c9
        replace H := Option.bind_eq_some_iff.mp H
        obtain ⟨t1815, A100, H⟩ := H
        have A10 := Aside0.mk A100
        clear A100
        by_cases c11 : t1815 = true
        ·subst c11
         have H1 : (impl_UnsurePairs.l1 k2 x4_2 x5_1 (wrap64 (x6_2 + 1)) l0_0 l0_1 l0_2) = some (r1, r2) := by rw [if_pos rfl] at H; exact H
         clear H
         have H := H1
         clear H1
         have H' := Aside0.mk H
         clear H
         obtain ⟨hcz12_0, hcz12_1, hcz12_2, hfz12_0, hfz12_1, hfz12_2⟩ := cz3 BK1813
         go_wp2_with (first | ((with_reducible refine gate_callee (f := 105) rfl ?_); refine goesL_ (some 29) rfl rfl Try.func105 Zj rfl #[.agg #[.slice A0_0 l0_0.length c0_0, .slice A0_1 l0_1.length c0_1, .slice A0_2 l0_2.length c0_2], .int .i64 x5_1, .int .i64 x6_2] rfl Zo ?_; (with_reducible refine (impl_surelyBefore.calls k2 _ _ l0_0 _ _ l0_1 _ _ l0_2 x5_1 x6_2 true _ ?side1 ?side2 ?side3 ?side4 ?side5 ?side6 A10.out).mono ?_); (case side1 => exact (have z0_ := HR0_0; Zad)); (case side2 => exact HC0_0.out); (case side3 => exact (have z0_ := HR0_1; Zad)); (case side4 => exact HC0_1.out); (case side5 => exact (have z0_ := HR0_2; Zad)); (case side6 => exact HC0_2.out); rintro e w13 ⟨rfl, hb⟩; refine ⟨_, rfl, ?_⟩; have n0_ := Aside0.mk (Kd.S_below (have z0_ := HO_4; Zba) hb); have n1_ := Aside0.mk (blk_below (g := gb1813) (o := .cells #[.slice A0_0 l0_0.length c0_0, .slice A0_1 l0_1.length c0_1, .slice A0_2 l0_2.length c0_2] 32 (0, 0)) (have z0_ := BK1813; Ze) hb); have n2_ := Aside0.mk (below_step (have z0_ := GE1813; Zf) hb); clear HO_4; clear BK1813; clear HB; have HO_4 := n0_; have BK1813 := n1_; have HB := n2_; clear n0_ n1_ n2_; (try clear hb); (try clear hb2); (try clear hk); (try clear hi)))
         go_roundg k2
         case measure => have := HK1.out; have := HK2.out; omega
         case rel => exact ⟨(x4_2), (wrap64 (x6_2 + 1)), Za, H', ⟨Zbc⟩, ⟨(have z0_ := HO_4; Zba)⟩, ⟨(have z0_ := BK1813; Ze)⟩, ⟨(have z0_ := GE1813; Zf)⟩⟩
        ·replace c11 := Bool.eq_false_iff.mpr c11
         subst c11
         have H1 : ((impl_surelyBefore.f k2 l0_0 l0_1 l0_2 x6_2 x5_1).bind fun t1816 => (if t1816 = true then (impl_UnsurePairs.l1 k2 x4_2 x5_1 (wrap64 (x6_2 + 1)) l0_0 l0_1 l0_2) else (if x4_2.length < 5864062014805 then (impl_UnsurePairs.l1 k2 (x4_2 ++ [(([x5_1, x6_2] : List Int))]) x5_1 (wrap64 (x6_2 + 1)) l0_0 l0_1 l0_2) else (none)))) = some (r1, r2) := by rw [if_neg (show ¬ (false = true) by decide)] at H; exact H
         clear H
         have H := H1
         clear H1
         replace H := Option.bind_eq_some_iff.mp H
         obtain ⟨t1816, A140, H⟩ := H
         have A14 := Aside0.mk A140
         clear A140
         by_cases c15 : t1816 = true
         ·subst c15
          have H1 : (impl_UnsurePairs.l1 k2 x4_2 x5_1 (wrap64 (x6_2 + 1)) l0_0 l0_1 l0_2) = some (r1, r2) := by rw [if_pos rfl] at H; exact H
          clear H
          have H := H1
          clear H1
          have H' := Aside0.mk H
          clear H
          obtain ⟨hcz16_0, hcz16_1, hcz16_2, hfz16_0, hfz16_1, hfz16_2⟩ := cz3 BK1813
          go_wp2_with (first | ((with_reducible refine gate_callee (f := 105) rfl ?_); refine goesL_ (some 29) rfl rfl Try.func105 Zj rfl #[.agg #[.slice A0_0 l0_0.length c0_0, .slice A0_1 l0_1.length c0_1, .slice A0_2 l0_2.length c0_2], .int .i64 x5_1, .int .i64 x6_2] rfl Zo ?_; (with_reducible refine (impl_surelyBefore.calls k2 _ _ l0_0 _ _ l0_1 _ _ l0_2 x5_1 x6_2 false _ ?side1 ?side2 ?side3 ?side4 ?side5 ?side6 A10.out).mono ?_); (case side1 => exact (have z0_ := HR0_0; Zad)); (case side2 => exact HC0_0.out); (case side3 => exact (have z0_ := HR0_1; Zad)); (case side4 => exact HC0_1.out); (case side5 => exact (have z0_ := HR0_2; Zad)); (case side6 => exact HC0_2.out); rintro e w17 ⟨rfl, hb⟩; refine ⟨_, rfl, ?_⟩; have n0_ := Aside0.mk (Kd.S_below (have z0_ := HO_4; Zba) hb); have n1_ := Aside0.mk (blk_below (g := gb1813) (o := .cells #[.slice A0_0 l0_0.length c0_0, .slice A0_1 l0_1.length c0_1, .slice A0_2 l0_2.length c0_2] 32 (0, 0)) (have z0_ := BK1813; Ze) hb); have n2_ := Aside0.mk (below_step (have z0_ := GE1813; Zf) hb); clear HO_4; clear BK1813; clear HB; have HO_4 := n0_; have BK1813 := n1_; have HB := n2_; clear n0_ n1_ n2_; (try clear hb); (try clear hb2); (try clear hk); (try clear hi); obtain ⟨hcz18_0, hcz18_1, hcz18_2, hfz18_0, hfz18_1, hfz18_2⟩ := cz3 BK1813) | (go_at_call 105; (with_reducible refine (impl_surelyBefore.calls k2 _ _ l0_0 _ _ l0_1 _ _ l0_2 x6_2 x5_1 true _ ?side1 ?side2 ?side3 ?side4 ?side5 ?side6 A14.out).mono ?_); (case side1 => exact (have z0_ := HR0_0; Zad)); (case side2 => exact HC0_0.out); (case side3 => exact (have z0_ := HR0_1; Zad)); (case side4 => exact HC0_1.out); (case side5 => exact (have z0_ := HR0_2; Zad)); (case side6 => exact HC0_2.out); rintro e w19 ⟨rfl, hb⟩; have n0_ := Aside0.mk (Kd.S_below (have z0_ := HO_4; Zba) hb); have n1_ := Aside0.mk (blk_below (g := gb1813) (o := .cells #[.slice A0_0 l0_0.length c0_0, .slice A0_1 l0_1.length c0_1, .slice A0_2 l0_2.length c0_2] 32 (0, 0)) (have z0_ := BK1813; Ze) hb); have n2_ := Aside0.mk (below_step (have z0_ := GE1813; Zf) hb); clear HO_4; clear BK1813; clear HB; have HO_4 := n0_; have BK1813 := n1_; have HB := n2_; clear n0_ n1_ n2_; (try clear hb); (try clear hb2); (try clear hk); (try clear hi)))
          go_roundg k2
          case measure => have := HK1.out; have := HK2.out; omega
          case rel => exact ⟨(x4_2), (wrap64 (x6_2 + 1)), Za, H', ⟨Zbc⟩, ⟨(have z0_ := HO_4; Zba)⟩, ⟨(have z0_ := BK1813; Ze)⟩, ⟨(have z0_ := GE1813; Zf)⟩⟩
         ·replace c15 := Bool.eq_false_iff.mpr c15
          subst c15
          have H1 : (if x4_2.length < 5864062014805 then (impl_UnsurePairs.l1 k2 (x4_2 ++ [(([x5_1, x6_2] : List Int))]) x5_1 (wrap64 (x6_2 + 1)) l0_0 l0_1 l0_2) else (none)) = some (r1, r2) := by rw [if_neg (show ¬ (false = true) by decide)] at H; exact H
          clear H
          have H := H1
          clear H1
          obtain ⟨y1817, hy1817⟩ : ∃ y_ : List Int, y_ = (([x5_1, x6_2] : List Int)) := ⟨_, rfl⟩
          replace H : (if x4_2.length < 5864062014805 then (impl_UnsurePairs.l1 k2 (x4_2 ++ [y1817]) x5_1 (wrap64 (x6_2 + 1)) l0_0 l0_1 l0_2) else (none)) = some (r1, r2) := by (try rw [hy1817]); first | with_reducible exact H | with_reducible exact (Option.bind_some _ _).symm.trans H | exact H
          have Ny1817 := Aside0.mk hy1817
          clear hy1817
          by_cases c20 : x4_2.length < 5864062014805
          ·rw [if_pos c20] at H
           have LMc20 := Aside0.mk c20
           clear c20
           obtain ⟨y1820, hy1820⟩ : ∃ y_ : List (List Int), y_ = (x4_2 ++ [y1817]) := ⟨_, rfl⟩
           replace H : (impl_UnsurePairs.l1 k2 y1820 x5_1 (wrap64 (x6_2 + 1)) l0_0 l0_1 l0_2) = some (r1, r2) := by (try rw [hy1820]); first | with_reducible exact H | with_reducible exact (Option.bind_some _ _).symm.trans H | exact H
           have Ny1820 := Aside0.mk hy1820
           clear hy1820
           have H' := Aside0.mk H
           clear H
           obtain ⟨hcz21_0, hcz21_1, hcz21_2, hfz21_0, hfz21_1, hfz21_2⟩ := cz3 BK1813
           go_wp2_with (first | ((with_reducible refine gate_callee (f := 105) rfl ?_); refine goesL_ (some 29) rfl rfl Try.func105 Zj rfl #[.agg #[.slice A0_0 l0_0.length c0_0, .slice A0_1 l0_1.length c0_1, .slice A0_2 l0_2.length c0_2], .int .i64 x5_1, .int .i64 x6_2] rfl Zo ?_; (with_reducible refine (impl_surelyBefore.calls k2 _ _ l0_0 _ _ l0_1 _ _ l0_2 x5_1 x6_2 false _ ?side1 ?side2 ?side3 ?side4 ?side5 ?side6 A10.out).mono ?_); (case side1 => exact (have z0_ := HR0_0; Zad)); (case side2 => exact HC0_0.out); (case side3 => exact (have z0_ := HR0_1; Zad)); (case side4 => exact HC0_1.out); (case side5 => exact (have z0_ := HR0_2; Zad)); (case side6 => exact HC0_2.out); rintro e w22 ⟨rfl, hb⟩; refine ⟨_, rfl, ?_⟩; have n0_ := Aside0.mk (Kd.S_below (have z0_ := HO_4; Zba) hb); have n1_ := Aside0.mk (blk_below (g := gb1813) (o := .cells #[.slice A0_0 l0_0.length c0_0, .slice A0_1 l0_1.length c0_1, .slice A0_2 l0_2.length c0_2] 32 (0, 0)) (have z0_ := BK1813; Ze) hb); have n2_ := Aside0.mk (below_step (have z0_ := GE1813; Zf) hb); clear HO_4; clear BK1813; clear HB; have HO_4 := n0_; have BK1813 := n1_; have HB := n2_; clear n0_ n1_ n2_; (try clear hb); (try clear hb2); (try clear hk); (try clear hi); obtain ⟨hcz23_0, hcz23_1, hcz23_2, hfz23_0, hfz23_1, hfz23_2⟩ := cz3 BK1813) | (go_at_call 105; (with_reducible refine (impl_surelyBefore.calls k2 _ _ l0_0 _ _ l0_1 _ _ l0_2 x6_2 x5_1 false _ ?side1 ?side2 ?side3 ?side4 ?side5 ?side6 A14.out).mono ?_); (case side1 => exact (have z0_ := HR0_0; Zad)); (case side2 => exact HC0_0.out); (case side3 => exact (have z0_ := HR0_1; Zad)); (case side4 => exact HC0_1.out); (case side5 => exact (have z0_ := HR0_2; Zad)); (case side6 => exact HC0_2.out); rintro e w24 ⟨rfl, hb⟩; have n0_ := Aside0.mk (Kd.S_below (have z0_ := HO_4; Zba) hb); have n1_ := Aside0.mk (blk_below (g := gb1813) (o := .cells #[.slice A0_0 l0_0.length c0_0, .slice A0_1 l0_1.length c0_1, .slice A0_2 l0_2.length c0_2] 32 (0, 0)) (have z0_ := BK1813; Ze) hb); have n2_ := Aside0.mk (below_step (have z0_ := GE1813; Zf) hb); clear HO_4; clear BK1813; clear HB; have HO_4 := n0_; have BK1813 := n1_; have HB := n2_; clear n0_ n1_ n2_; (try clear hb); (try clear hb2); (try clear hk); (try clear hi)) | ((with_reducible refine gate_dst (N := 41) rfl ?_); refine Kd.R_lit (Kd.int .i64) _ 2 ?hg (N := 41) ?hd (xs := ([x5_1, x6_2] : List Int)) (inner := [.int .i64 x5_1, .int .i64 x6_2]) (ok := fun _ => True) (okp := fun _ => True) ?hr ?hp (fun _ hk => hk) trivial (Below.refl _ _) (Nat.le_refl _) (by simp) ?_; (case hd => rfl); (case hg => rfl); (case hr => first | (go_simp; done) | (go_simp; rfl)); (case hp => exact (Reps.one (show Kd.M (Kd.int .i64) _ _ _ x5_1 [.int .i64 x5_1] from rfl) (Reps.one (show Kd.M (Kd.int .i64) _ _ _ x6_2 [.int .i64 x6_2] from rfl) (Reps.none _ _)))); intro v1818 w25 ho26 hb hg_ hnew_; clear hg_ hnew_; (first | rw [← Ny1817.out] at ho26 | (simp only [Int.reduceToNat] at ho26; rw [← Ny1817.out] at ho26)); have n0_ := Aside0.mk (Kd.S_elder' (have z0_ := HO_4; Zba) (Kd.R_base ho26) hb); have n1_ := Aside0.mk (Kd.R_lower ho26 (below_size (have z0_ := GE1813; Zf))); have n2_ := Aside0.mk (blk_below (g := gb1813) (o := .cells #[.slice A0_0 l0_0.length c0_0, .slice A0_1 l0_1.length c0_1, .slice A0_2 l0_2.length c0_2] 32 (0, 0)) (have z0_ := BK1813; Ze) hb); have n3_ := Aside0.mk (below_step (have z0_ := GE1813; Zf) hb); clear HO_4; clear BK1813; clear HB; have HO_4 := n0_; have HO1819 := n1_; have BK1813 := n2_; have HB := n3_; clear n0_ n1_ n2_ n3_; clear hb ho26; obtain ⟨Ao28, co28, eo28⟩ := Kd.R_slice HO1819.out; subst eo28) | ((with_reducible refine gate_builtin (b := .append) (xs := #[.tmp 38, .tmp 42]) rfl ?_); at_builtin; refine Kd.S_append (Kd.slice 2 (Kd.int .i64)) (w0 := w) w.heap.size rfl (.tmp 38) (.tmp 42) 46 61 (.slice none 0 0) 24 rfl Try.underlying46 info61 rfl (by decide) (by omega) u4 x4_2 y1817 [.slice Ao28 y1817.length co28] (fun _ => True) (fun k_ => some k_ = (.slice Ao28 y1817.length co28 : Value).ownBlock) rfl rfl ?aP (fun k_ hk_ => ((Kd.R_mono (ok' := fun k_ => ((fun _ => True)) k_ ∧ some k_ ≠ (u4 : Value).ownBlock) (Kd.R_apart' (HO1819.out) (Kd.S_typed HO_4.out) (by decide)) (fun k_ hk => ⟨trivial, hk.2⟩))).1 k_ hk_.symm) ?aF ?aO ?aB ?aS ?aL ?_; (case aP => exact Kd.M_row (Kd.R_mono (Kd.R_tight rfl (Kd.R_mono (ok' := fun k_ => ((fun _ => True)) k_ ∧ some k_ ≠ (u4 : Value).ownBlock) (Kd.R_apart' (HO1819.out) (Kd.S_typed HO_4.out) (by decide)) (fun k_ hk => ⟨trivial, hk.2⟩))) (fun _ h_ => h_))); (case aB => exact (have z0_ := GE1813; Zf)); (case aF => exact (fun _ _ => trivial)); (case aO => exact (have z0_ := HO_4; Zbd)); (case aS => exact (below_size (have z0_ := GE1813; Zf))); (case aL => have := LMc20.out; omega); intro v1821 w27 ho hb hg hat; rw [← Ny1820.out] at ho; have n0_ := Aside0.mk (blk_grown (g := gb1813) (o := .cells #[.slice A0_0 l0_0.length c0_0, .slice A0_1 l0_1.length c0_1, .slice A0_2 l0_2.length c0_2] 32 (0, 0)) (have z0_ := BK1813; Ze) hg (Kd.S_ne HO_4.out BK1813.out (by decide))); have n1_ := Aside0.mk (hb); have n2_ := Aside0.mk (ho); clear BK1813; clear HB; clear HO_4; clear HO1819; have BK1813 := n0_; have HB := n1_; have HO1822 := n2_; clear n0_ n1_ n2_; clear ho hb hg hat))
           go_roundg k2
           case measure => have := HK1.out; have := HK2.out; omega
           case rel => exact ⟨(y1820), (wrap64 (x6_2 + 1)), Za, H', ⟨Zbc⟩, ⟨(have z0_ := HO1822; Zba)⟩, ⟨(have z0_ := BK1813; Ze)⟩, ⟨(have z0_ := GE1813; Zf)⟩⟩
          ·rw [if_neg c20] at H
           exact absurd H (by simp)
       ·rw [if_neg c9] at H
        have c9b0 := decide_eq_false c9
        clear c9
        have H' := Aside0.mk H
        clear H
        obtain ⟨hcz29_0, hcz29_1, hcz29_2, hfz29_0, hfz29_1, hfz29_2⟩ := cz3 BK1813
        go_wp2
        go_roundg k2
        case measure => have := HK1.out; have := HK2.out; omega
        case rel => exact ⟨(x4_2), (wrap64 (x5_1 + 1)), Za, H', ⟨Zbc⟩, ⟨(have z0_ := HO_4; Zba)⟩, ⟨(have z0_ := BK1813; Ze)⟩, ⟨(have z0_ := GE1813; Zf)⟩⟩
    ·rw [if_neg c7] at H
     have c7b0 := decide_eq_false c7
     clear c7
     simp only [Option.some.injEq, Prod.mk.injEq] at H
     obtain ⟨rfl, rfl⟩ := H
     obtain ⟨hcz30_0, hcz30_1, hcz30_2, hfz30_0, hfz30_1, hfz30_2⟩ := cz3 BK1813
     go_wp2
     go_ret2
     exact ⟨_, Zk, (have z0_ := HO_4; Zba), (have z0_ := GE1813; Zf)⟩
 ·replace c3 := Bool.eq_false_iff.mpr c3
  subst c3
  have H1 : (some (([] : List (List Int)), 1)) = some (r1, r2) := by rw [if_neg (show ¬ (false = true) by decide)] at H; exact H
  clear H
  have H := H1
  clear H1
  simp only [Option.some.injEq, Prod.mk.injEq] at H
  obtain ⟨rfl, rfl⟩ := H
  go_enter Try.func64, Try.ntmps64
  go_wp2_with (first | ((with_reducible refine gate_dst (N := 1) rfl ?_); refine boxZ 1 #[.slice A0_0 l0_0.length c0_0, .slice A0_1 l0_1.length c0_1, .slice A0_2 l0_2.length c0_2] 32 ?_; intro gb1813 hg w31 hbox hb; have n0_ := Aside0.mk (below_step Zc hb); have n1_ := Aside0.mk (hbox); have n2_ := Aside0.mk ((Zd : w.heap.size ≤ gb1813)); have n3_ := Aside0.mk ((Zd : w.heap.size ≤ gb1813)); clear HB; have HB := n0_; have BK1813 := n1_; have GW1813 := n2_; have GE1813 := n3_; clear n0_ n1_ n2_ n3_; clear hb hbox hg; obtain ⟨hcz32_0, hcz32_1, hcz32_2, hfz32_0, hfz32_1, hfz32_2⟩ := cz3 BK1813) | ((with_reducible refine gate_callee (f := 37) rfl ?_); refine goesL_ (some 8) rfl rfl Try.func37 Zj rfl #[.agg #[.slice A0_0 l0_0.length c0_0, .slice A0_1 l0_1.length c0_1, .slice A0_2 l0_2.length c0_2]] rfl Zo ?_; (with_reducible refine (impl_IsShow.calls k _ _ l0_0 _ _ l0_1 _ _ l0_2 false _ ?side1 ?side2 ?side3 ?side4 ?side5 ?side6 A2.out).mono ?_); (case side1 => exact (have z0_ := HR0_0; Zad)); (case side2 => exact HC0_0.out); (case side3 => exact (have z0_ := HR0_1; Zad)); (case side4 => exact HC0_1.out); (case side5 => exact (have z0_ := HR0_2; Zad)); (case side6 => exact HC0_2.out); rintro e w33 ⟨rfl, hb⟩; refine ⟨_, rfl, ?_⟩; have n0_ := Aside0.mk (blk_below (g := gb1813) (o := .cells #[.slice A0_0 l0_0.length c0_0, .slice A0_1 l0_1.length c0_1, .slice A0_2 l0_2.length c0_2] 32 (0, 0)) (have z0_ := BK1813; Ze) hb); have n1_ := Aside0.mk (below_step (have z0_ := GE1813; Zf) hb); clear BK1813; clear HB; have BK1813 := n0_; have HB := n1_; clear n0_ n1_; (try clear hb); (try clear hb2); (try clear hk); (try clear hi)))
  go_ret2
  exact ⟨_, Zk, Zbe, (have z0_ := GE1813; Zf)⟩
end Go.Proofs.Ytnlbaflbhicooaa.F
