import Derived.Test.YtnlbaflbhicooaaJFnExactShowEnd3
import Derived.Below
import Derived.Deep.Draws
import Derived.Deep.AppendLies
import Derived.Maps.AppendAt
import Derived.OwnWalk
import Derived.Laws.BytesArg
import Derived.Laws.MakeOwn
import Derived.Laws.OwnMore
import Derived.Tactics
import Derived.Lib.ConvBytes
import Derived.Laws.Slices
import Derived.WalkKit
import Derived.KernelRfl
import Derived.RowKit3
import Derived.Deep.LoopGhost
import Derived.Deep.QuietTactic
import Derived.BigQuiet
import Derived.WideLaws
import Derived.Deep.DeepCutAuto
import Derived.Deep.CutBlock
import Derived.Deep.RegionHeld3
import Derived.Lib.AppendStr
import Derived.ArgAppend
import Derived.Laws.IdiomCopy
import Derived.RowKit
import Derived.OrdersHeld
import Derived.Laws.BitsLemmas
import Derived.Laws.StructEq
import Derived.Test.YtnlbaflbhicooaaProg
import Derived.ChangeSlices
import Derived.OpenShut
import Derived.Laws.Cover1
namespace Go.Proofs.Ytnlbaflbhicooaa.F
open Go.RowKit Go.Proofs.YtnlbaflbhicooaaW.PrintWords Go.Proofs.YtnlbaflbhicooaaW.PrintLast Go.Proofs.YtnlbaflbhicooaaW.PrintMore
attribute [local go_sem] max2_int min2_int max_two min_two max_three min_three max_four min_four   -- for this text's walks alone
set_option linter.unusedVariables false
set_option linter.unusedSimpArgs false
def spec_IsArticle.f (k : Nat) (a0_0 : ByteArray) (a0_1 : Int) (a0_2 : Int) (a0_3 : Int) (a0_4 : Int) (a0_5 : Int) (a0_6 : Int) (a0_7 : Int) (a0_8 : Int) : Option (Bool) := (spec_IsWord.f k a0_0).bind fun t118 => (if t118 = true then ((spec_l01In.f a0_1 0 3).bind fun t119 => (if t119 = true then ((spec_l01In.f a0_2 20 300).bind fun t120 => (if t120 = true then ((spec_l01In.f a0_3 0 10000).bind fun t121 => (if t121 = true then ((spec_l01In.f a0_4 0 a0_3).bind fun t122 => (if t122 = true then ((spec_l01In.f a0_5 1 50).bind fun t123 => (if t123 = true then ((spec_l01In.f a0_6 0 10000).bind fun t124 => (if t124 = true then ((spec_l01In.f a0_7 1 100000).bind fun t125 => (if t125 = true then ((spec_l01In.f a0_8 0 3).bind fun t126 => (some t126)) else (some false))) else (some false))) else (some false))) else (some false))) else (some false))) else (some false))) else (some false))) else (some false))
set_option maxHeartbeats 8000000 in
set_option maxRecDepth 100000 in
theorem spec_IsArticle.calls (k : Nat) (a0_0 : ByteArray) (a0_1 : Int) (a0_2 : Int) (a0_3 : Int) (a0_4 : Int) (a0_5 : Int) (a0_6 : Int) (a0_7 : Int) (a0_8 : Int) (r : Bool) (w : World) (h : spec_IsArticle.f k a0_0 a0_1 a0_2 a0_3 a0_4 a0_5 a0_6 a0_7 a0_8 = some r) :
  Calls Try.prog 127 #[.agg #[.string a0_0, .int .i64 a0_1, .int .i64 a0_2, .int .i64 a0_3, .int .i64 a0_4, .int .i64 a0_5, .int .i64 a0_6, .int .i64 a0_7, .int .i64 a0_8]] w fun e w' => e = .returned (.bool r) ∧ Below w.heap.size w w' := by
 have hu92 := Try.underlying92
 have HB := Aside0.mk (Below.refl w.heap.size w)
 have H : ((spec_IsWord.f k a0_0).bind fun t118 => (if t118 = true then ((spec_l01In.f a0_1 0 3).bind fun t119 => (if t119 = true then ((spec_l01In.f a0_2 20 300).bind fun t120 => (if t120 = true then ((spec_l01In.f a0_3 0 10000).bind fun t121 => (if t121 = true then ((spec_l01In.f a0_4 0 a0_3).bind fun t122 => (if t122 = true then ((spec_l01In.f a0_5 1 50).bind fun t123 => (if t123 = true then ((spec_l01In.f a0_6 0 10000).bind fun t124 => (if t124 = true then ((spec_l01In.f a0_7 1 100000).bind fun t125 => (if t125 = true then ((spec_l01In.f a0_8 0 3).bind fun t126 => (some t126)) else (some false))) else (some false))) else (some false))) else (some false))) else (some false))) else (some false))) else (some false))) else (some false))) = some r := h
 clear h
 replace H := Option.bind_eq_some_iff.mp H
 obtain ⟨t118, A20, H⟩ := H
 replace H : (if t118 = true then ((spec_l01In.f a0_1 0 3).bind fun t119 => (if t119 = true then ((spec_l01In.f a0_2 20 300).bind fun t120 => (if t120 = true then ((spec_l01In.f a0_3 0 10000).bind fun t121 => (if t121 = true then ((spec_l01In.f a0_4 0 a0_3).bind fun t122 => (if t122 = true then ((spec_l01In.f a0_5 1 50).bind fun t123 => (if t123 = true then ((spec_l01In.f a0_6 0 10000).bind fun t124 => (if t124 = true then ((spec_l01In.f a0_7 1 100000).bind fun t125 => (if t125 = true then ((spec_l01In.f a0_8 0 3).bind fun t126 => (some t126)) else (some false))) else (some false))) else (some false))) else (some false))) else (some false))) else (some false))) else (some false))) else (some false)) = some r := H
 have A2 := Aside0.mk A20
 clear A20
 by_cases c3 : t118 = true
 ·subst c3
  have H1 : ((spec_l01In.f a0_1 0 3).bind fun t119 => (if t119 = true then ((spec_l01In.f a0_2 20 300).bind fun t120 => (if t120 = true then ((spec_l01In.f a0_3 0 10000).bind fun t121 => (if t121 = true then ((spec_l01In.f a0_4 0 a0_3).bind fun t122 => (if t122 = true then ((spec_l01In.f a0_5 1 50).bind fun t123 => (if t123 = true then ((spec_l01In.f a0_6 0 10000).bind fun t124 => (if t124 = true then ((spec_l01In.f a0_7 1 100000).bind fun t125 => (if t125 = true then ((spec_l01In.f a0_8 0 3).bind fun t126 => (some t126)) else (some false))) else (some false))) else (some false))) else (some false))) else (some false))) else (some false))) else (some false))) = some r := by rw [if_pos rfl] at H; exact H
  clear H
  have H := H1
  clear H1
  replace H := Option.bind_eq_some_iff.mp H
  obtain ⟨t119, A40, H⟩ := H
  replace H : (if t119 = true then ((spec_l01In.f a0_2 20 300).bind fun t120 => (if t120 = true then ((spec_l01In.f a0_3 0 10000).bind fun t121 => (if t121 = true then ((spec_l01In.f a0_4 0 a0_3).bind fun t122 => (if t122 = true then ((spec_l01In.f a0_5 1 50).bind fun t123 => (if t123 = true then ((spec_l01In.f a0_6 0 10000).bind fun t124 => (if t124 = true then ((spec_l01In.f a0_7 1 100000).bind fun t125 => (if t125 = true then ((spec_l01In.f a0_8 0 3).bind fun t126 => (some t126)) else (some false))) else (some false))) else (some false))) else (some false))) else (some false))) else (some false))) else (some false)) = some r := H
  have A4 := Aside0.mk A40
  clear A40
  by_cases c5 : t119 = true
  ·subst c5
   have H1 : ((spec_l01In.f a0_2 20 300).bind fun t120 => (if t120 = true then ((spec_l01In.f a0_3 0 10000).bind fun t121 => (if t121 = true then ((spec_l01In.f a0_4 0 a0_3).bind fun t122 => (if t122 = true then ((spec_l01In.f a0_5 1 50).bind fun t123 => (if t123 = true then ((spec_l01In.f a0_6 0 10000).bind fun t124 => (if t124 = true then ((spec_l01In.f a0_7 1 100000).bind fun t125 => (if t125 = true then ((spec_l01In.f a0_8 0 3).bind fun t126 => (some t126)) else (some false))) else (some false))) else (some false))) else (some false))) else (some false))) else (some false))) = some r := by rw [if_pos rfl] at H; exact H
   clear H
   have H := H1
   clear H1
   replace H := Option.bind_eq_some_iff.mp H
   obtain ⟨t120, A60, H⟩ := H
   replace H : (if t120 = true then ((spec_l01In.f a0_3 0 10000).bind fun t121 => (if t121 = true then ((spec_l01In.f a0_4 0 a0_3).bind fun t122 => (if t122 = true then ((spec_l01In.f a0_5 1 50).bind fun t123 => (if t123 = true then ((spec_l01In.f a0_6 0 10000).bind fun t124 => (if t124 = true then ((spec_l01In.f a0_7 1 100000).bind fun t125 => (if t125 = true then ((spec_l01In.f a0_8 0 3).bind fun t126 => (some t126)) else (some false))) else (some false))) else (some false))) else (some false))) else (some false))) else (some false)) = some r := H
   have A6 := Aside0.mk A60
   clear A60
   by_cases c7 : t120 = true
   ·subst c7
    have H1 : ((spec_l01In.f a0_3 0 10000).bind fun t121 => (if t121 = true then ((spec_l01In.f a0_4 0 a0_3).bind fun t122 => (if t122 = true then ((spec_l01In.f a0_5 1 50).bind fun t123 => (if t123 = true then ((spec_l01In.f a0_6 0 10000).bind fun t124 => (if t124 = true then ((spec_l01In.f a0_7 1 100000).bind fun t125 => (if t125 = true then ((spec_l01In.f a0_8 0 3).bind fun t126 => (some t126)) else (some false))) else (some false))) else (some false))) else (some false))) else (some false))) = some r := by rw [if_pos rfl] at H; exact H
    clear H
    have H := H1
    clear H1
    replace H := Option.bind_eq_some_iff.mp H
    obtain ⟨t121, A80, H⟩ := H
    replace H : (if t121 = true then ((spec_l01In.f a0_4 0 a0_3).bind fun t122 => (if t122 = true then ((spec_l01In.f a0_5 1 50).bind fun t123 => (if t123 = true then ((spec_l01In.f a0_6 0 10000).bind fun t124 => (if t124 = true then ((spec_l01In.f a0_7 1 100000).bind fun t125 => (if t125 = true then ((spec_l01In.f a0_8 0 3).bind fun t126 => (some t126)) else (some false))) else (some false))) else (some false))) else (some false))) else (some false)) = some r := H
    have A8 := Aside0.mk A80
    clear A80
    by_cases c9 : t121 = true
    ·subst c9
     have H1 : ((spec_l01In.f a0_4 0 a0_3).bind fun t122 => (if t122 = true then ((spec_l01In.f a0_5 1 50).bind fun t123 => (if t123 = true then ((spec_l01In.f a0_6 0 10000).bind fun t124 => (if t124 = true then ((spec_l01In.f a0_7 1 100000).bind fun t125 => (if t125 = true then ((spec_l01In.f a0_8 0 3).bind fun t126 => (some t126)) else (some false))) else (some false))) else (some false))) else (some false))) = some r := by rw [if_pos rfl] at H; exact H
     clear H
     have H := H1
     clear H1
     replace H := Option.bind_eq_some_iff.mp H
     obtain ⟨t122, A100, H⟩ := H
     replace H : (if t122 = true then ((spec_l01In.f a0_5 1 50).bind fun t123 => (if t123 = true then ((spec_l01In.f a0_6 0 10000).bind fun t124 => (if t124 = true then ((spec_l01In.f a0_7 1 100000).bind fun t125 => (if t125 = true then ((spec_l01In.f a0_8 0 3).bind fun t126 => (some t126)) else (some false))) else (some false))) else (some false))) else (some false)) = some r := H
     have A10 := Aside0.mk A100
     clear A100
     by_cases c11 : t122 = true
     ·subst c11
      have H1 : ((spec_l01In.f a0_5 1 50).bind fun t123 => (if t123 = true then ((spec_l01In.f a0_6 0 10000).bind fun t124 => (if t124 = true then ((spec_l01In.f a0_7 1 100000).bind fun t125 => (if t125 = true then ((spec_l01In.f a0_8 0 3).bind fun t126 => (some t126)) else (some false))) else (some false))) else (some false))) = some r := by rw [if_pos rfl] at H; exact H
      clear H
      have H := H1
      clear H1
      replace H := Option.bind_eq_some_iff.mp H
      obtain ⟨t123, A120, H⟩ := H
      replace H : (if t123 = true then ((spec_l01In.f a0_6 0 10000).bind fun t124 => (if t124 = true then ((spec_l01In.f a0_7 1 100000).bind fun t125 => (if t125 = true then ((spec_l01In.f a0_8 0 3).bind fun t126 => (some t126)) else (some false))) else (some false))) else (some false)) = some r := H
      have A12 := Aside0.mk A120
      clear A120
      by_cases c13 : t123 = true
      ·subst c13
       have H1 : ((spec_l01In.f a0_6 0 10000).bind fun t124 => (if t124 = true then ((spec_l01In.f a0_7 1 100000).bind fun t125 => (if t125 = true then ((spec_l01In.f a0_8 0 3).bind fun t126 => (some t126)) else (some false))) else (some false))) = some r := by rw [if_pos rfl] at H; exact H
       clear H
       have H := H1
       clear H1
       replace H := Option.bind_eq_some_iff.mp H
       obtain ⟨t124, A140, H⟩ := H
       replace H : (if t124 = true then ((spec_l01In.f a0_7 1 100000).bind fun t125 => (if t125 = true then ((spec_l01In.f a0_8 0 3).bind fun t126 => (some t126)) else (some false))) else (some false)) = some r := H
       have A14 := Aside0.mk A140
       clear A140
       by_cases c15 : t124 = true
       ·subst c15
        have H1 : ((spec_l01In.f a0_7 1 100000).bind fun t125 => (if t125 = true then ((spec_l01In.f a0_8 0 3).bind fun t126 => (some t126)) else (some false))) = some r := by rw [if_pos rfl] at H; exact H
        clear H
        have H := H1
        clear H1
        replace H := Option.bind_eq_some_iff.mp H
        obtain ⟨t125, A160, H⟩ := H
        replace H : (if t125 = true then ((spec_l01In.f a0_8 0 3).bind fun t126 => (some t126)) else (some false)) = some r := H
        have A16 := Aside0.mk A160
        clear A160
        by_cases c17 : t125 = true
        ·subst c17
         have H1 : ((spec_l01In.f a0_8 0 3).bind fun t126 => (some t126)) = some r := by rw [if_pos rfl] at H; exact H
         clear H
         have H := H1
         clear H1
         replace H := Option.bind_eq_some_iff.mp H
         obtain ⟨t126, A180, H⟩ := H
         replace H : (some t126) = some r := H
         have A18 := Aside0.mk A180
         clear A180
         obtain rfl := Option.some.inj H
         go_enter Try.func127, Try.ntmps127
         go_wp2_with (first | ((with_reducible refine gate_dst (N := 1) rfl ?_); refine box_event ?hg (N := 1) ?hd (cs := #[.string a0_0, .int .i64 a0_1, .int .i64 a0_2, .int .i64 a0_3, .int .i64 a0_4, .int .i64 a0_5, .int .i64 a0_6, .int .i64 a0_7, .int .i64 a0_8]) (t := 92) ?hr ?_; (case hd => rfl); (case hg => rfl); (case hr => first | (go_simp; done) | (go_simp; rfl)); intro gb117 hg w19 hbox hb; have n0_ := Aside0.mk (below_step Zc hb); have n1_ := Aside0.mk (hbox); have n2_ := Aside0.mk ((Zd : w.heap.size ≤ gb117)); have n3_ := Aside0.mk ((Zd : w.heap.size ≤ gb117)); clear HB; have HB := n0_; have BK117 := n1_; have GW117 := n2_; have GE117 := n3_; clear n0_ n1_ n2_ n3_; clear hb hbox hg; obtain ⟨hcz20_0, hcz20_1, hcz20_2, hcz20_3, hcz20_4, hcz20_5, hcz20_6, hcz20_7, hcz20_8, hfz20_0, hfz20_1, hfz20_2, hfz20_3, hfz20_4, hfz20_5, hfz20_6, hfz20_7, hfz20_8⟩ := cz9 BK117) | ((with_reducible refine gate_callee (f := 134) rfl ?_); refine goesL_ (some 5) rfl rfl Try.func134 Zj rfl #[.string a0_0] rfl Zo ?_; (with_reducible refine (spec_IsWord.calls k a0_0 true _ A2.out).mono ?_); rintro e w' ⟨rfl, ⟨nd, rfl⟩⟩; refine ⟨_, rfl, ?_⟩) | (go_at_call 68; (with_reducible refine (spec_l01In.calls a0_1 0 3 true _ A4.out).mono ?_); rintro e w' ⟨rfl, ⟨nd, rfl⟩⟩) | (go_at_call 68; (with_reducible refine (spec_l01In.calls a0_2 20 300 true _ A6.out).mono ?_); rintro e w' ⟨rfl, ⟨nd, rfl⟩⟩) | (go_at_call 68; (with_reducible refine (spec_l01In.calls a0_3 0 10000 true _ A8.out).mono ?_); rintro e w' ⟨rfl, ⟨nd, rfl⟩⟩) | (go_at_call 68; (with_reducible refine (spec_l01In.calls a0_4 0 a0_3 true _ A10.out).mono ?_); rintro e w' ⟨rfl, ⟨nd, rfl⟩⟩) | (go_at_call 68; (with_reducible refine (spec_l01In.calls a0_5 1 50 true _ A12.out).mono ?_); rintro e w' ⟨rfl, ⟨nd, rfl⟩⟩) | (go_at_call 68; (with_reducible refine (spec_l01In.calls a0_6 0 10000 true _ A14.out).mono ?_); rintro e w' ⟨rfl, ⟨nd, rfl⟩⟩) | (go_at_call 68; (with_reducible refine (spec_l01In.calls a0_7 1 100000 true _ A16.out).mono ?_); rintro e w' ⟨rfl, ⟨nd, rfl⟩⟩) | (go_at_call 68; (with_reducible refine (spec_l01In.calls a0_8 0 3 t126 _ A18.out).mono ?_); rintro e w' ⟨rfl, ⟨nd, rfl⟩⟩))
         go_ret
         exact ⟨Zk, (have z0_ := GE117; Zf)⟩
        ·replace c17 := Bool.eq_false_iff.mpr c17
         subst c17
         have H1 : (some false) = some r := by rw [if_neg (show ¬ (false = true) by decide)] at H; exact H
         clear H
         have H := H1
         clear H1
         obtain rfl := Option.some.inj H
         go_enter Try.func127, Try.ntmps127
         go_wp2_with (first | ((with_reducible refine gate_dst (N := 1) rfl ?_); refine box_event ?hg (N := 1) ?hd (cs := #[.string a0_0, .int .i64 a0_1, .int .i64 a0_2, .int .i64 a0_3, .int .i64 a0_4, .int .i64 a0_5, .int .i64 a0_6, .int .i64 a0_7, .int .i64 a0_8]) (t := 92) ?hr ?_; (case hd => rfl); (case hg => rfl); (case hr => first | (go_simp; done) | (go_simp; rfl)); intro gb117 hg w21 hbox hb; have n0_ := Aside0.mk (below_step Zc hb); have n1_ := Aside0.mk (hbox); have n2_ := Aside0.mk ((Zd : w.heap.size ≤ gb117)); have n3_ := Aside0.mk ((Zd : w.heap.size ≤ gb117)); clear HB; have HB := n0_; have BK117 := n1_; have GW117 := n2_; have GE117 := n3_; clear n0_ n1_ n2_ n3_; clear hb hbox hg; obtain ⟨hcz22_0, hcz22_1, hcz22_2, hcz22_3, hcz22_4, hcz22_5, hcz22_6, hcz22_7, hcz22_8, hfz22_0, hfz22_1, hfz22_2, hfz22_3, hfz22_4, hfz22_5, hfz22_6, hfz22_7, hfz22_8⟩ := cz9 BK117) | ((with_reducible refine gate_callee (f := 134) rfl ?_); refine goesL_ (some 5) rfl rfl Try.func134 Zj rfl #[.string a0_0] rfl Zo ?_; (with_reducible refine (spec_IsWord.calls k a0_0 true _ A2.out).mono ?_); rintro e w' ⟨rfl, ⟨nd, rfl⟩⟩; refine ⟨_, rfl, ?_⟩) | (go_at_call 68; (with_reducible refine (spec_l01In.calls a0_1 0 3 true _ A4.out).mono ?_); rintro e w' ⟨rfl, ⟨nd, rfl⟩⟩) | (go_at_call 68; (with_reducible refine (spec_l01In.calls a0_2 20 300 true _ A6.out).mono ?_); rintro e w' ⟨rfl, ⟨nd, rfl⟩⟩) | (go_at_call 68; (with_reducible refine (spec_l01In.calls a0_3 0 10000 true _ A8.out).mono ?_); rintro e w' ⟨rfl, ⟨nd, rfl⟩⟩) | (go_at_call 68; (with_reducible refine (spec_l01In.calls a0_4 0 a0_3 true _ A10.out).mono ?_); rintro e w' ⟨rfl, ⟨nd, rfl⟩⟩) | (go_at_call 68; (with_reducible refine (spec_l01In.calls a0_5 1 50 true _ A12.out).mono ?_); rintro e w' ⟨rfl, ⟨nd, rfl⟩⟩) | (go_at_call 68; (with_reducible refine (spec_l01In.calls a0_6 0 10000 true _ A14.out).mono ?_); rintro e w' ⟨rfl, ⟨nd, rfl⟩⟩) | (go_at_call 68; (with_reducible refine (spec_l01In.calls a0_7 1 100000 false _ A16.out).mono ?_); rintro e w' ⟨rfl, ⟨nd, rfl⟩⟩))
         go_ret
         exact ⟨Zk, (have z0_ := GE117; Zf)⟩
       ·replace c15 := Bool.eq_false_iff.mpr c15
        subst c15
        have H1 : (some false) = some r := by rw [if_neg (show ¬ (false = true) by decide)] at H; exact H
        clear H
        have H := H1
        clear H1
        obtain rfl := Option.some.inj H
        go_enter Try.func127, Try.ntmps127
        go_wp2_with (first | ((with_reducible refine gate_dst (N := 1) rfl ?_); refine box_event ?hg (N := 1) ?hd (cs := #[.string a0_0, .int .i64 a0_1, .int .i64 a0_2, .int .i64 a0_3, .int .i64 a0_4, .int .i64 a0_5, .int .i64 a0_6, .int .i64 a0_7, .int .i64 a0_8]) (t := 92) ?hr ?_; (case hd => rfl); (case hg => rfl); (case hr => first | (go_simp; done) | (go_simp; rfl)); intro gb117 hg w23 hbox hb; have n0_ := Aside0.mk (below_step Zc hb); have n1_ := Aside0.mk (hbox); have n2_ := Aside0.mk ((Zd : w.heap.size ≤ gb117)); have n3_ := Aside0.mk ((Zd : w.heap.size ≤ gb117)); clear HB; have HB := n0_; have BK117 := n1_; have GW117 := n2_; have GE117 := n3_; clear n0_ n1_ n2_ n3_; clear hb hbox hg; obtain ⟨hcz24_0, hcz24_1, hcz24_2, hcz24_3, hcz24_4, hcz24_5, hcz24_6, hcz24_7, hcz24_8, hfz24_0, hfz24_1, hfz24_2, hfz24_3, hfz24_4, hfz24_5, hfz24_6, hfz24_7, hfz24_8⟩ := cz9 BK117) | ((with_reducible refine gate_callee (f := 134) rfl ?_); refine goesL_ (some 5) rfl rfl Try.func134 Zj rfl #[.string a0_0] rfl Zo ?_; (with_reducible refine (spec_IsWord.calls k a0_0 true _ A2.out).mono ?_); rintro e w' ⟨rfl, ⟨nd, rfl⟩⟩; refine ⟨_, rfl, ?_⟩) | (go_at_call 68; (with_reducible refine (spec_l01In.calls a0_1 0 3 true _ A4.out).mono ?_); rintro e w' ⟨rfl, ⟨nd, rfl⟩⟩) | (go_at_call 68; (with_reducible refine (spec_l01In.calls a0_2 20 300 true _ A6.out).mono ?_); rintro e w' ⟨rfl, ⟨nd, rfl⟩⟩) | (go_at_call 68; (with_reducible refine (spec_l01In.calls a0_3 0 10000 true _ A8.out).mono ?_); rintro e w' ⟨rfl, ⟨nd, rfl⟩⟩) | (go_at_call 68; (with_reducible refine (spec_l01In.calls a0_4 0 a0_3 true _ A10.out).mono ?_); rintro e w' ⟨rfl, ⟨nd, rfl⟩⟩) | (go_at_call 68; (with_reducible refine (spec_l01In.calls a0_5 1 50 true _ A12.out).mono ?_); rintro e w' ⟨rfl, ⟨nd, rfl⟩⟩) | (go_at_call 68; (with_reducible refine (spec_l01In.calls a0_6 0 10000 false _ A14.out).mono ?_); rintro e w' ⟨rfl, ⟨nd, rfl⟩⟩))
        go_ret
        exact ⟨Zk, (have z0_ := GE117; Zf)⟩
      ·replace c13 := Bool.eq_false_iff.mpr c13
       subst c13
       have H1 : (some false) = some r := by rw [if_neg (show ¬ (false = true) by decide)] at H; exact H
       clear H
       have H := H1
       clear H1
       obtain rfl := Option.some.inj H
       go_enter Try.func127, Try.ntmps127
       go_wp2_with (first | ((with_reducible refine gate_dst (N := 1) rfl ?_); refine box_event ?hg (N := 1) ?hd (cs := #[.string a0_0, .int .i64 a0_1, .int .i64 a0_2, .int .i64 a0_3, .int .i64 a0_4, .int .i64 a0_5, .int .i64 a0_6, .int .i64 a0_7, .int .i64 a0_8]) (t := 92) ?hr ?_; (case hd => rfl); (case hg => rfl); (case hr => first | (go_simp; done) | (go_simp; rfl)); intro gb117 hg w25 hbox hb; have n0_ := Aside0.mk (below_step Zc hb); have n1_ := Aside0.mk (hbox); have n2_ := Aside0.mk ((Zd : w.heap.size ≤ gb117)); have n3_ := Aside0.mk ((Zd : w.heap.size ≤ gb117)); clear HB; have HB := n0_; have BK117 := n1_; have GW117 := n2_; have GE117 := n3_; clear n0_ n1_ n2_ n3_; clear hb hbox hg; obtain ⟨hcz26_0, hcz26_1, hcz26_2, hcz26_3, hcz26_4, hcz26_5, hcz26_6, hcz26_7, hcz26_8, hfz26_0, hfz26_1, hfz26_2, hfz26_3, hfz26_4, hfz26_5, hfz26_6, hfz26_7, hfz26_8⟩ := cz9 BK117) | ((with_reducible refine gate_callee (f := 134) rfl ?_); refine goesL_ (some 5) rfl rfl Try.func134 Zj rfl #[.string a0_0] rfl Zo ?_; (with_reducible refine (spec_IsWord.calls k a0_0 true _ A2.out).mono ?_); rintro e w' ⟨rfl, ⟨nd, rfl⟩⟩; refine ⟨_, rfl, ?_⟩) | (go_at_call 68; (with_reducible refine (spec_l01In.calls a0_1 0 3 true _ A4.out).mono ?_); rintro e w' ⟨rfl, ⟨nd, rfl⟩⟩) | (go_at_call 68; (with_reducible refine (spec_l01In.calls a0_2 20 300 true _ A6.out).mono ?_); rintro e w' ⟨rfl, ⟨nd, rfl⟩⟩) | (go_at_call 68; (with_reducible refine (spec_l01In.calls a0_3 0 10000 true _ A8.out).mono ?_); rintro e w' ⟨rfl, ⟨nd, rfl⟩⟩) | (go_at_call 68; (with_reducible refine (spec_l01In.calls a0_4 0 a0_3 true _ A10.out).mono ?_); rintro e w' ⟨rfl, ⟨nd, rfl⟩⟩) | (go_at_call 68; (with_reducible refine (spec_l01In.calls a0_5 1 50 false _ A12.out).mono ?_); rintro e w' ⟨rfl, ⟨nd, rfl⟩⟩))
       go_ret
       exact ⟨Zk, (have z0_ := GE117; Zf)⟩
     ·replace c11 := Bool.eq_false_iff.mpr c11
      subst c11
      have H1 : (some false) = some r := by rw [if_neg (show ¬ (false = true) by decide)] at H; exact H
      clear H
      have H := H1
      clear H1
      obtain rfl := Option.some.inj H
      go_enter Try.func127, Try.ntmps127
      go_wp2_with (first | ((with_reducible refine gate_dst (N := 1) rfl ?_); refine box_event ?hg (N := 1) ?hd (cs := #[.string a0_0, .int .i64 a0_1, .int .i64 a0_2, .int .i64 a0_3, .int .i64 a0_4, .int .i64 a0_5, .int .i64 a0_6, .int .i64 a0_7, .int .i64 a0_8]) (t := 92) ?hr ?_; (case hd => rfl); (case hg => rfl); (case hr => first | (go_simp; done) | (go_simp; rfl)); intro gb117 hg w27 hbox hb; have n0_ := Aside0.mk (below_step Zc hb); have n1_ := Aside0.mk (hbox); have n2_ := Aside0.mk ((Zd : w.heap.size ≤ gb117)); have n3_ := Aside0.mk ((Zd : w.heap.size ≤ gb117)); clear HB; have HB := n0_; have BK117 := n1_; have GW117 := n2_; have GE117 := n3_; clear n0_ n1_ n2_ n3_; clear hb hbox hg; obtain ⟨hcz28_0, hcz28_1, hcz28_2, hcz28_3, hcz28_4, hcz28_5, hcz28_6, hcz28_7, hcz28_8, hfz28_0, hfz28_1, hfz28_2, hfz28_3, hfz28_4, hfz28_5, hfz28_6, hfz28_7, hfz28_8⟩ := cz9 BK117) | ((with_reducible refine gate_callee (f := 134) rfl ?_); refine goesL_ (some 5) rfl rfl Try.func134 Zj rfl #[.string a0_0] rfl Zo ?_; (with_reducible refine (spec_IsWord.calls k a0_0 true _ A2.out).mono ?_); rintro e w' ⟨rfl, ⟨nd, rfl⟩⟩; refine ⟨_, rfl, ?_⟩) | (go_at_call 68; (with_reducible refine (spec_l01In.calls a0_1 0 3 true _ A4.out).mono ?_); rintro e w' ⟨rfl, ⟨nd, rfl⟩⟩) | (go_at_call 68; (with_reducible refine (spec_l01In.calls a0_2 20 300 true _ A6.out).mono ?_); rintro e w' ⟨rfl, ⟨nd, rfl⟩⟩) | (go_at_call 68; (with_reducible refine (spec_l01In.calls a0_3 0 10000 true _ A8.out).mono ?_); rintro e w' ⟨rfl, ⟨nd, rfl⟩⟩) | (go_at_call 68; (with_reducible refine (spec_l01In.calls a0_4 0 a0_3 false _ A10.out).mono ?_); rintro e w' ⟨rfl, ⟨nd, rfl⟩⟩))
      go_ret
      exact ⟨Zk, (have z0_ := GE117; Zf)⟩
    ·replace c9 := Bool.eq_false_iff.mpr c9
     subst c9
     have H1 : (some false) = some r := by rw [if_neg (show ¬ (false = true) by decide)] at H; exact H
     clear H
     have H := H1
     clear H1
     obtain rfl := Option.some.inj H
     go_enter Try.func127, Try.ntmps127
     go_wp2_with (first | ((with_reducible refine gate_dst (N := 1) rfl ?_); refine box_event ?hg (N := 1) ?hd (cs := #[.string a0_0, .int .i64 a0_1, .int .i64 a0_2, .int .i64 a0_3, .int .i64 a0_4, .int .i64 a0_5, .int .i64 a0_6, .int .i64 a0_7, .int .i64 a0_8]) (t := 92) ?hr ?_; (case hd => rfl); (case hg => rfl); (case hr => first | (go_simp; done) | (go_simp; rfl)); intro gb117 hg w29 hbox hb; have n0_ := Aside0.mk (below_step Zc hb); have n1_ := Aside0.mk (hbox); have n2_ := Aside0.mk ((Zd : w.heap.size ≤ gb117)); have n3_ := Aside0.mk ((Zd : w.heap.size ≤ gb117)); clear HB; have HB := n0_; have BK117 := n1_; have GW117 := n2_; have GE117 := n3_; clear n0_ n1_ n2_ n3_; clear hb hbox hg; obtain ⟨hcz30_0, hcz30_1, hcz30_2, hcz30_3, hcz30_4, hcz30_5, hcz30_6, hcz30_7, hcz30_8, hfz30_0, hfz30_1, hfz30_2, hfz30_3, hfz30_4, hfz30_5, hfz30_6, hfz30_7, hfz30_8⟩ := cz9 BK117) | ((with_reducible refine gate_callee (f := 134) rfl ?_); refine goesL_ (some 5) rfl rfl Try.func134 Zj rfl #[.string a0_0] rfl Zo ?_; (with_reducible refine (spec_IsWord.calls k a0_0 true _ A2.out).mono ?_); rintro e w' ⟨rfl, ⟨nd, rfl⟩⟩; refine ⟨_, rfl, ?_⟩) | (go_at_call 68; (with_reducible refine (spec_l01In.calls a0_1 0 3 true _ A4.out).mono ?_); rintro e w' ⟨rfl, ⟨nd, rfl⟩⟩) | (go_at_call 68; (with_reducible refine (spec_l01In.calls a0_2 20 300 true _ A6.out).mono ?_); rintro e w' ⟨rfl, ⟨nd, rfl⟩⟩) | (go_at_call 68; (with_reducible refine (spec_l01In.calls a0_3 0 10000 false _ A8.out).mono ?_); rintro e w' ⟨rfl, ⟨nd, rfl⟩⟩))
     go_ret
     exact ⟨Zk, (have z0_ := GE117; Zf)⟩
   ·replace c7 := Bool.eq_false_iff.mpr c7
    subst c7
    have H1 : (some false) = some r := by rw [if_neg (show ¬ (false = true) by decide)] at H; exact H
    clear H
    have H := H1
    clear H1
    obtain rfl := Option.some.inj H
    go_enter Try.func127, Try.ntmps127
    go_wp2_with (first | ((with_reducible refine gate_dst (N := 1) rfl ?_); refine box_event ?hg (N := 1) ?hd (cs := #[.string a0_0, .int .i64 a0_1, .int .i64 a0_2, .int .i64 a0_3, .int .i64 a0_4, .int .i64 a0_5, .int .i64 a0_6, .int .i64 a0_7, .int .i64 a0_8]) (t := 92) ?hr ?_; (case hd => rfl); (case hg => rfl); (case hr => first | (go_simp; done) | (go_simp; rfl)); intro gb117 hg w31 hbox hb; have n0_ := Aside0.mk (below_step Zc hb); have n1_ := Aside0.mk (hbox); have n2_ := Aside0.mk ((Zd : w.heap.size ≤ gb117)); have n3_ := Aside0.mk ((Zd : w.heap.size ≤ gb117)); clear HB; have HB := n0_; have BK117 := n1_; have GW117 := n2_; have GE117 := n3_; clear n0_ n1_ n2_ n3_; clear hb hbox hg; obtain ⟨hcz32_0, hcz32_1, hcz32_2, hcz32_3, hcz32_4, hcz32_5, hcz32_6, hcz32_7, hcz32_8, hfz32_0, hfz32_1, hfz32_2, hfz32_3, hfz32_4, hfz32_5, hfz32_6, hfz32_7, hfz32_8⟩ := cz9 BK117) | ((with_reducible refine gate_callee (f := 134) rfl ?_); refine goesL_ (some 5) rfl rfl Try.func134 Zj rfl #[.string a0_0] rfl Zo ?_; (with_reducible refine (spec_IsWord.calls k a0_0 true _ A2.out).mono ?_); rintro e w' ⟨rfl, ⟨nd, rfl⟩⟩; refine ⟨_, rfl, ?_⟩) | (go_at_call 68; (with_reducible refine (spec_l01In.calls a0_1 0 3 true _ A4.out).mono ?_); rintro e w' ⟨rfl, ⟨nd, rfl⟩⟩) | (go_at_call 68; (with_reducible refine (spec_l01In.calls a0_2 20 300 false _ A6.out).mono ?_); rintro e w' ⟨rfl, ⟨nd, rfl⟩⟩))
    go_ret
    exact ⟨Zk, (have z0_ := GE117; Zf)⟩
  ·replace c5 := Bool.eq_false_iff.mpr c5
   subst c5
   have H1 : (some false) = some r := by rw [if_neg (show ¬ (false = true) by decide)] at H; exact H
   clear H
   have H := H1
   clear H1
   obtain rfl := Option.some.inj H
   go_enter Try.func127, Try.ntmps127
   go_wp2_with (first | ((with_reducible refine gate_dst (N := 1) rfl ?_); refine box_event ?hg (N := 1) ?hd (cs := #[.string a0_0, .int .i64 a0_1, .int .i64 a0_2, .int .i64 a0_3, .int .i64 a0_4, .int .i64 a0_5, .int .i64 a0_6, .int .i64 a0_7, .int .i64 a0_8]) (t := 92) ?hr ?_; (case hd => rfl); (case hg => rfl); (case hr => first | (go_simp; done) | (go_simp; rfl)); intro gb117 hg w33 hbox hb; have n0_ := Aside0.mk (below_step Zc hb); have n1_ := Aside0.mk (hbox); have n2_ := Aside0.mk ((Zd : w.heap.size ≤ gb117)); have n3_ := Aside0.mk ((Zd : w.heap.size ≤ gb117)); clear HB; have HB := n0_; have BK117 := n1_; have GW117 := n2_; have GE117 := n3_; clear n0_ n1_ n2_ n3_; clear hb hbox hg; obtain ⟨hcz34_0, hcz34_1, hcz34_2, hcz34_3, hcz34_4, hcz34_5, hcz34_6, hcz34_7, hcz34_8, hfz34_0, hfz34_1, hfz34_2, hfz34_3, hfz34_4, hfz34_5, hfz34_6, hfz34_7, hfz34_8⟩ := cz9 BK117) | ((with_reducible refine gate_callee (f := 134) rfl ?_); refine goesL_ (some 5) rfl rfl Try.func134 Zj rfl #[.string a0_0] rfl Zo ?_; (with_reducible refine (spec_IsWord.calls k a0_0 true _ A2.out).mono ?_); rintro e w' ⟨rfl, ⟨nd, rfl⟩⟩; refine ⟨_, rfl, ?_⟩) | (go_at_call 68; (with_reducible refine (spec_l01In.calls a0_1 0 3 false _ A4.out).mono ?_); rintro e w' ⟨rfl, ⟨nd, rfl⟩⟩))
   go_ret
   exact ⟨Zk, (have z0_ := GE117; Zf)⟩
 ·replace c3 := Bool.eq_false_iff.mpr c3
  subst c3
  have H1 : (some false) = some r := by rw [if_neg (show ¬ (false = true) by decide)] at H; exact H
  clear H
  have H := H1
  clear H1
  obtain rfl := Option.some.inj H
  go_enter Try.func127, Try.ntmps127
  go_wp2_with (first | ((with_reducible refine gate_dst (N := 1) rfl ?_); refine box_event ?hg (N := 1) ?hd (cs := #[.string a0_0, .int .i64 a0_1, .int .i64 a0_2, .int .i64 a0_3, .int .i64 a0_4, .int .i64 a0_5, .int .i64 a0_6, .int .i64 a0_7, .int .i64 a0_8]) (t := 92) ?hr ?_; (case hd => rfl); (case hg => rfl); (case hr => first | (go_simp; done) | (go_simp; rfl)); intro gb117 hg w35 hbox hb; have n0_ := Aside0.mk (below_step Zc hb); have n1_ := Aside0.mk (hbox); have n2_ := Aside0.mk ((Zd : w.heap.size ≤ gb117)); have n3_ := Aside0.mk ((Zd : w.heap.size ≤ gb117)); clear HB; have HB := n0_; have BK117 := n1_; have GW117 := n2_; have GE117 := n3_; clear n0_ n1_ n2_ n3_; clear hb hbox hg; obtain ⟨hcz36_0, hcz36_1, hcz36_2, hcz36_3, hcz36_4, hcz36_5, hcz36_6, hcz36_7, hcz36_8, hfz36_0, hfz36_1, hfz36_2, hfz36_3, hfz36_4, hfz36_5, hfz36_6, hfz36_7, hfz36_8⟩ := cz9 BK117) | ((with_reducible refine gate_callee (f := 134) rfl ?_); refine goesL_ (some 5) rfl rfl Try.func134 Zj rfl #[.string a0_0] rfl Zo ?_; (with_reducible refine (spec_IsWord.calls k a0_0 false _ A2.out).mono ?_); rintro e w' ⟨rfl, ⟨nd, rfl⟩⟩; refine ⟨_, rfl, ?_⟩))
  go_ret
  exact ⟨Zk, (have z0_ := GE117; Zf)⟩
end Go.Proofs.Ytnlbaflbhicooaa.F
namespace Go.Proofs.Ytnlbaflbhicooaa.F
open Go.RowKit Go.Proofs.YtnlbaflbhicooaaW.PrintWords Go.Proofs.YtnlbaflbhicooaaW.PrintLast Go.Proofs.YtnlbaflbhicooaaW.PrintMore
attribute [local go_sem] max2_int min2_int max_two min_two max_three min_three max_four min_four   -- for this text's walks alone
set_option linter.unusedVariables false
set_option linter.unusedSimpArgs false
def spec_AreArticles.l0 : Nat → List (S92) → Int → Option (Bool)
 | 0, _, _ => none
 | k + 1, x0, x3 => if x3 < (x0.length : Int) then (if 0 ≤ x3 then ((spec_IsArticle.f k ((rd_T92 x0 x3).f0) ((rd_T92 x0 x3).f1) ((rd_T92 x0 x3).f2) ((rd_T92 x0 x3).f3) ((rd_T92 x0 x3).f4) ((rd_T92 x0 x3).f5) ((rd_T92 x0 x3).f6) ((rd_T92 x0 x3).f7) ((rd_T92 x0 x3).f8)).bind fun t128 => (if t128 = true then (if x3 > 0 then (if 0 ≤ (wrap64 (x3 - 1)) then (if (wrap64 (x3 - 1)) < (x0.length : Int) then (if ((Op.bytesLess (((rd_T92 x0 (wrap64 (x3 - 1))).f0).toList) (((rd_T92 x0 x3).f0).toList)) = true) then (spec_AreArticles.l0 k x0 (wrap64 (x3 + 1))) else (some false)) else (none)) else (none)) else (spec_AreArticles.l0 k x0 (wrap64 (x3 + 1)))) else (some false))) else (none)) else (some (decide ((x0.length : Int) ≤ 12)))
def spec_AreArticles.f (k : Nat) (l0 : List (S92)) : Option (Bool) := spec_AreArticles.l0 k l0 0
def spec_AreArticles.T4 : Bool × List (List Nat × List Nat) := (true, [([], []), ([], []), ([0, 1], [0, 1]), ([2], [2]), ([3], [3]), ([4], [4]), ([5, 4], [5]), ([6], [6]), ([7, 6], [6, 7]), ([8, 6, 6], [6, 8]), ([9], [9]), ([9], [9]), ([11, 9], [9, 11]), ([10, 12, 9], [9, 10, 12]), ([13, 9], [9, 13]), ([14, 9], [9, 14]), ([9], [9]), ([9], [9]), ([16, 17, 9], [9, 16, 17]), ([18, 9], [9, 18]), ([19, 9], [9, 19]), ([15, 20, 9], [9, 15, 20]), ([9, 21, 6], [6, 9, 21]), ([6, 22], [6, 22])])
def spec_AreArticles.B4 : List Nat := [0, 0, 3, 7, 15, 31, 63, 127, 255, 511, 1023, 1023, 3071, 8191, 16383, 32767, 1023, 1023, 197631, 459775, 984063, 2097151, 4194303, 8388607]
theorem spec_AreArticles.tab4 : rtab .any (opsOf Try.f92 4) = spec_AreArticles.T4 := by kernel_rfl
theorem spec_AreArticles.bits4 : waitsOk spec_AreArticles.T4.2 spec_AreArticles.B4 = true := by kernel_rfl
set_option maxHeartbeats 8000000 in
set_option maxRecDepth 100000 in
theorem spec_AreArticles.calls (k : Nat) (A0 : Option Addr) (c0 : Nat) (l0 : List (S92)) (r : Bool) (w : World) (hr0 : Kd.C k92 w A0 l0.length l0) (hc0 : l0.length ≤ c0) (h : spec_AreArticles.f k l0 = some r) :
  Calls Try.prog 92 #[.slice A0 l0.length c0] w fun e w' => e = .returned (.bool r) ∧ Below w.heap.size w w' := by
 have hu92 := Try.underlying92
 have HR0 := Aside0.mk hr0
 have HC0 := Aside0.mk hc0
 clear hr0 hc0
 have HB := Aside0.mk (Below.refl w.heap.size w)
 have H : (spec_AreArticles.l0 k l0 0) = some r := h
 clear h
 have H' := Aside0.mk H
 clear H
 go_enter Try.func92, Try.ntmps92
 go_wp2
 go_loopg [3] k (fun kq v3 w' => ∃ (x3_1 : Int), v3 = .int .i64 x3_1 ∧ Aside0 (spec_AreArticles.l0 kq l0 x3_1 = some r) ∧ Aside0 (kq ≤ k) ∧ Aside0 (Below w.heap.size w w'))
 case atStart => exact ⟨(0), Za, H', ⟨Nat.le_refl _⟩, ⟨Zc⟩⟩
 case round =>
  clear H'
  obtain ⟨x3_1, rfl, HA, HK1, HB⟩ := hrel
  cases gk with
  | zero => exact absurd HA.out (by simp [spec_AreArticles.l0])
  | succ k1 =>
   have H := HA.out
   clear HA
   simp only [spec_AreArticles.l0] at H
   by_cases c2 : x3_1 < (l0.length : Int)
   ·rw [if_pos c2] at H
    have c2b0 : decide (x3_1 < (l0.length : Int)) = true := decide_eq_true c2
    clear c2
    by_cases c3 : 0 ≤ x3_1
    ·rw [if_pos c3] at H
     have c3b0 : decide (0 ≤ x3_1) = true := decide_eq_true c3
     clear c3
     replace H := Option.bind_eq_some_iff.mp H
     obtain ⟨t128, A40, H⟩ := H
     replace H : (if t128 = true then (if x3_1 > 0 then (if 0 ≤ (wrap64 (x3_1 - 1)) then (if (wrap64 (x3_1 - 1)) < (l0.length : Int) then (if ((Op.bytesLess (((rd_T92 l0 (wrap64 (x3_1 - 1))).f0).toList) (((rd_T92 l0 x3_1).f0).toList)) = true) then (spec_AreArticles.l0 k1 l0 (wrap64 (x3_1 + 1))) else (some false)) else (none)) else (none)) else (spec_AreArticles.l0 k1 l0 (wrap64 (x3_1 + 1)))) else (some false)) = some r := H
     have A4 := Aside0.mk A40
     clear A40
     by_cases c5 : t128 = true
     ·subst c5
      have H1 : (if x3_1 > 0 then (if 0 ≤ (wrap64 (x3_1 - 1)) then (if (wrap64 (x3_1 - 1)) < (l0.length : Int) then (if ((Op.bytesLess (((rd_T92 l0 (wrap64 (x3_1 - 1))).f0).toList) (((rd_T92 l0 x3_1).f0).toList)) = true) then (spec_AreArticles.l0 k1 l0 (wrap64 (x3_1 + 1))) else (some false)) else (none)) else (none)) else (spec_AreArticles.l0 k1 l0 (wrap64 (x3_1 + 1)))) = some r := by rw [if_pos rfl] at H; exact H
      clear H
      have H := H1
      clear H1
      by_cases c6 : x3_1 > 0
      ·rw [if_pos c6] at H
       have c6b0 : decide (0 < x3_1) = true := decide_eq_true c6
       clear c6
       obtain ⟨ji7, hji7⟩ : ∃ j_ : Int, (wrap64 (x3_1 - 1)) = j_ := ⟨_, rfl⟩
       replace H : (if 0 ≤ (ji7) then (if (ji7) < (l0.length : Int) then (if ((Op.bytesLess (((rd_T92 l0 (ji7)).f0).toList) (((rd_T92 l0 x3_1).f0).toList)) = true) then (spec_AreArticles.l0 k1 l0 (wrap64 (x3_1 + 1))) else (some false)) else (none)) else (none)) = some r := by first | (rw [hji7] at H; exact H) | (simp only [hji7] at H ⊢; exact H)
       (try rw [hji7] at A4)
       have hji7w : (IntKind.i64.wrap (x3_1 - 1)) = ji7 := (i64_w _).trans hji7
       by_cases c8 : 0 ≤ (ji7)
       ·rw [if_pos c8] at H
        have c8b0 : decide (0 ≤ (ji7)) = true := decide_eq_true c8
        clear c8
        by_cases c9 : (ji7) < (l0.length : Int)
        ·rw [if_pos c9] at H
         have c9b0 : decide ((ji7) < (l0.length : Int)) = true := decide_eq_true c9
         clear c9
         by_cases c10 : ((Op.bytesLess (((rd_T92 l0 (ji7)).f0).toList) (((rd_T92 l0 x3_1).f0).toList)) = true)
         ·rw [if_pos c10] at H
          have c10b0 : (Op.bytesLess (((rd_T92 l0 (ji7)).f0).toList) (((rd_T92 l0 x3_1).f0).toList)) = true := c10
          clear c10
          have H' := Aside0.mk H
          clear H
          try go_wp2
          have n0_ := Aside0.mk (below_drew1 HB.out)
          clear HB
          have HB := n0_
          clear n0_
          have p127 : 0 ≤ (x3_1 : Int) := of_decide_eq_true Zp
          have q127 : x3_1 < (l0.length : Int) := of_decide_eq_true Zp
          obtain ⟨ad127, e127, hx127_0, hx127_1, hx127_2, hx127_3, hx127_4, hx127_5, hx127_6, hx127_7, hx127_8⟩ := at_T92 HR0.out x3_1 p127 q127
          have hw127_8 := hx127_8
          have hw127_7 := hx127_7
          have hw127_6 := hx127_6
          have hw127_5 := hx127_5
          have hw127_4 := hx127_4
          have hw127_3 := hx127_3
          have hw127_2 := hx127_2
          have hw127_1 := hx127_1
          have hw127_0 := hx127_0
          cases e127
          replace hx127_0 := cbH HB hx127_0
          replace hx127_1 := cbH HB hx127_1
          replace hx127_2 := cbH HB hx127_2
          replace hx127_3 := cbH HB hx127_3
          replace hx127_4 := cbH HB hx127_4
          replace hx127_5 := cbH HB hx127_5
          replace hx127_6 := cbH HB hx127_6
          replace hx127_7 := cbH HB hx127_7
          replace hx127_8 := cbH HB hx127_8
          replace p127 := eq_true p127
          replace q127 := eq_true q127
          have p129 : 0 ≤ ((ji7) : Int) := of_decide_eq_true Zp
          have q129 : (ji7) < (l0.length : Int) := of_decide_eq_true Zp
          obtain ⟨ad129, e129, hx129_0, hx129_1, hx129_2, hx129_3, hx129_4, hx129_5, hx129_6, hx129_7, hx129_8⟩ := at_T92 HR0.out (ji7) p129 q129
          have hw129_8 := hx129_8
          have hw129_7 := hx129_7
          have hw129_6 := hx129_6
          have hw129_5 := hx129_5
          have hw129_4 := hx129_4
          have hw129_3 := hx129_3
          have hw129_2 := hx129_2
          have hw129_1 := hx129_1
          have hw129_0 := hx129_0
          obtain rfl : ad127 = ad129 := (by injection e129)
          replace hx129_0 := cbH HB hx129_0
          replace hx129_1 := cbH HB hx129_1
          replace hx129_2 := cbH HB hx129_2
          replace hx129_3 := cbH HB hx129_3
          replace hx129_4 := cbH HB hx129_4
          replace hx129_5 := cbH HB hx129_5
          replace hx129_6 := cbH HB hx129_6
          replace hx129_7 := cbH HB hx129_7
          replace hx129_8 := cbH HB hx129_8
          replace p129 := eq_true p129
          replace q129 := eq_true q129
          have p130 : 0 ≤ (x3_1 : Int) := of_decide_eq_true Zp
          have q130 : x3_1 < (l0.length : Int) := of_decide_eq_true Zp
          obtain ⟨ad130, e130, hx130_0, hx130_1, hx130_2, hx130_3, hx130_4, hx130_5, hx130_6, hx130_7, hx130_8⟩ := at_T92 HR0.out x3_1 p130 q130
          have hw130_8 := hx130_8
          have hw130_7 := hx130_7
          have hw130_6 := hx130_6
          have hw130_5 := hx130_5
          have hw130_4 := hx130_4
          have hw130_3 := hx130_3
          have hw130_2 := hx130_2
          have hw130_1 := hx130_1
          have hw130_0 := hx130_0
          obtain rfl : ad127 = ad130 := (by injection e130)
          replace hx130_0 := cbH HB hx130_0
          replace hx130_1 := cbH HB hx130_1
          replace hx130_2 := cbH HB hx130_2
          replace hx130_3 := cbH HB hx130_3
          replace hx130_4 := cbH HB hx130_4
          replace hx130_5 := cbH HB hx130_5
          replace hx130_6 := cbH HB hx130_6
          replace hx130_7 := cbH HB hx130_7
          replace hx130_8 := cbH HB hx130_8
          replace p130 := eq_true p130
          replace q130 := eq_true q130
          refine start_ (n := 24) (S := fun w' => w'.cell? (ad127.add ((x3_1).toNat * 9)) = some (.string ((rd_T92 l0 x3_1).f0)) ∧ w'.cell? ⟨(ad127.add ((x3_1).toNat * 9)).block, (ad127.add ((x3_1).toNat * 9)).off + 1, none⟩ = some (.int .i64 ((rd_T92 l0 x3_1).f1)) ∧ w'.cell? ⟨(ad127.add ((x3_1).toNat * 9)).block, (ad127.add ((x3_1).toNat * 9)).off + 2, none⟩ = some (.int .i64 ((rd_T92 l0 x3_1).f2)) ∧ w'.cell? ⟨(ad127.add ((x3_1).toNat * 9)).block, (ad127.add ((x3_1).toNat * 9)).off + 3, none⟩ = some (.int .i64 ((rd_T92 l0 x3_1).f3)) ∧ w'.cell? ⟨(ad127.add ((x3_1).toNat * 9)).block, (ad127.add ((x3_1).toNat * 9)).off + 4, none⟩ = some (.int .i64 ((rd_T92 l0 x3_1).f4)) ∧ w'.cell? ⟨(ad127.add ((x3_1).toNat * 9)).block, (ad127.add ((x3_1).toNat * 9)).off + 5, none⟩ = some (.int .i64 ((rd_T92 l0 x3_1).f5)) ∧ w'.cell? ⟨(ad127.add ((x3_1).toNat * 9)).block, (ad127.add ((x3_1).toNat * 9)).off + 6, none⟩ = some (.int .i64 ((rd_T92 l0 x3_1).f6)) ∧ w'.cell? ⟨(ad127.add ((x3_1).toNat * 9)).block, (ad127.add ((x3_1).toNat * 9)).off + 7, none⟩ = some (.int .i64 ((rd_T92 l0 x3_1).f7)) ∧ w'.cell? ⟨(ad127.add ((x3_1).toNat * 9)).block, (ad127.add ((x3_1).toNat * 9)).off + 8, none⟩ = some (.int .i64 ((rd_T92 l0 x3_1).f8)) ∧ w'.cell? (ad127.add (((ji7)).toNat * 9)) = some (.string ((rd_T92 l0 (ji7)).f0)) ∧ w'.cell? ⟨(ad127.add (((ji7)).toNat * 9)).block, (ad127.add (((ji7)).toNat * 9)).off + 1, none⟩ = some (.int .i64 ((rd_T92 l0 (ji7)).f1)) ∧ w'.cell? ⟨(ad127.add (((ji7)).toNat * 9)).block, (ad127.add (((ji7)).toNat * 9)).off + 2, none⟩ = some (.int .i64 ((rd_T92 l0 (ji7)).f2)) ∧ w'.cell? ⟨(ad127.add (((ji7)).toNat * 9)).block, (ad127.add (((ji7)).toNat * 9)).off + 3, none⟩ = some (.int .i64 ((rd_T92 l0 (ji7)).f3)) ∧ w'.cell? ⟨(ad127.add (((ji7)).toNat * 9)).block, (ad127.add (((ji7)).toNat * 9)).off + 4, none⟩ = some (.int .i64 ((rd_T92 l0 (ji7)).f4)) ∧ w'.cell? ⟨(ad127.add (((ji7)).toNat * 9)).block, (ad127.add (((ji7)).toNat * 9)).off + 5, none⟩ = some (.int .i64 ((rd_T92 l0 (ji7)).f5)) ∧ w'.cell? ⟨(ad127.add (((ji7)).toNat * 9)).block, (ad127.add (((ji7)).toNat * 9)).off + 6, none⟩ = some (.int .i64 ((rd_T92 l0 (ji7)).f6)) ∧ w'.cell? ⟨(ad127.add (((ji7)).toNat * 9)).block, (ad127.add (((ji7)).toNat * 9)).off + 7, none⟩ = some (.int .i64 ((rd_T92 l0 (ji7)).f7)) ∧ w'.cell? ⟨(ad127.add (((ji7)).toNat * 9)).block, (ad127.add (((ji7)).toNat * 9)).off + 8, none⟩ = some (.int .i64 ((rd_T92 l0 (ji7)).f8)) ∧ w'.cell? (ad127.add ((x3_1).toNat * 9)) = some (.string ((rd_T92 l0 x3_1).f0)) ∧ w'.cell? ⟨(ad127.add ((x3_1).toNat * 9)).block, (ad127.add ((x3_1).toNat * 9)).off + 1, none⟩ = some (.int .i64 ((rd_T92 l0 x3_1).f1)) ∧ w'.cell? ⟨(ad127.add ((x3_1).toNat * 9)).block, (ad127.add ((x3_1).toNat * 9)).off + 2, none⟩ = some (.int .i64 ((rd_T92 l0 x3_1).f2)) ∧ w'.cell? ⟨(ad127.add ((x3_1).toNat * 9)).block, (ad127.add ((x3_1).toNat * 9)).off + 3, none⟩ = some (.int .i64 ((rd_T92 l0 x3_1).f3)) ∧ w'.cell? ⟨(ad127.add ((x3_1).toNat * 9)).block, (ad127.add ((x3_1).toNat * 9)).off + 4, none⟩ = some (.int .i64 ((rd_T92 l0 x3_1).f4)) ∧ w'.cell? ⟨(ad127.add ((x3_1).toNat * 9)).block, (ad127.add ((x3_1).toNat * 9)).off + 5, none⟩ = some (.int .i64 ((rd_T92 l0 x3_1).f5)) ∧ w'.cell? ⟨(ad127.add ((x3_1).toNat * 9)).block, (ad127.add ((x3_1).toNat * 9)).off + 6, none⟩ = some (.int .i64 ((rd_T92 l0 x3_1).f6)) ∧ w'.cell? ⟨(ad127.add ((x3_1).toNat * 9)).block, (ad127.add ((x3_1).toNat * 9)).off + 7, none⟩ = some (.int .i64 ((rd_T92 l0 x3_1).f7)) ∧ w'.cell? ⟨(ad127.add ((x3_1).toNat * 9)).block, (ad127.add ((x3_1).toNat * 9)).off + 8, none⟩ = some (.int .i64 ((rd_T92 l0 x3_1).f8))) (ds := []) (bT 24 0) Zj rfl rfl ⟨(cbH HB hw127_0 :), (cbH HB hw127_1 :), (cbH HB hw127_2 :), (cbH HB hw127_3 :), (cbH HB hw127_4 :), (cbH HB hw127_5 :), (cbH HB hw127_6 :), (cbH HB hw127_7 :), (cbH HB hw127_8 :), (cbH HB hw129_0 :), (cbH HB hw129_1 :), (cbH HB hw129_2 :), (cbH HB hw129_3 :), (cbH HB hw129_4 :), (cbH HB hw129_5 :), (cbH HB hw129_6 :), (cbH HB hw129_7 :), (cbH HB hw129_8 :), (cbH HB hw130_0 :), (cbH HB hw130_1 :), (cbH HB hw130_2 :), (cbH HB hw130_3 :), (cbH HB hw130_4 :), (cbH HB hw130_5 :), (cbH HB hw130_6 :), (cbH HB hw130_7 :), (cbH HB hw130_8 :)⟩ (fun hHeld => ?_); refine with_tabW spec_AreArticles.tab4 spec_AreArticles.bits4 (fun HT_ HW_ => ?_)
          generalize wr.drew = w11 at HB hx127_0 hx127_1 hx127_2 hx127_3 hx127_4 hx127_5 hx127_6 hx127_7 hx127_8 hx129_0 hx129_1 hx129_2 hx129_3 hx129_4 hx129_5 hx129_6 hx129_7 hx129_8 hx130_0 hx130_1 hx130_2 hx130_3 hx130_4 hx130_5 hx130_6 hx130_7 hx130_8 hHeld ⊢
          refine pureZ HT_ 0 (some 10) (bT 24 1) ?_
          refine pureZ HT_ 1 (some 11) (bT 24 2) ?_
          refine pureZ HT_ 2 (some 12) (bT 24 3) ?_
          refine take_ (i := 3) (N := some 13) (v := ?_) (a' := ?_) (bT 24 4) rfl rfl (take_ofW HT_.out HW_.out Zj) (fun _ _ _ h => h) (Or.inl ⟨by rfl, ?_⟩) hHeld ?_ ?_
          rotate_left
          ·rintro w' ⟨s0, s1, s2, s3, s4, s5, s6, s7, s8, s9, s10, s11, s12, s13, s14, s15, s16, s17, s18, s19, s20, s21, s22, s23, s24, s25, s26⟩
           go_simp
           with_reducible rfl
          rotate_left
          ·exact Zput
          refine one_ (i := 4) (N := some 14) (bT 24 5) rfl rfl (one_of HT_.out Zj) (by decide) (fun K hK => ?_)
          refine goes_ Try.func127 Zj rfl #[.agg #[.string ((rd_T92 l0 x3_1).f0), .int .i64 ((rd_T92 l0 x3_1).f1), .int .i64 ((rd_T92 l0 x3_1).f2), .int .i64 ((rd_T92 l0 x3_1).f3), .int .i64 ((rd_T92 l0 x3_1).f4), .int .i64 ((rd_T92 l0 x3_1).f5), .int .i64 ((rd_T92 l0 x3_1).f6), .int .i64 ((rd_T92 l0 x3_1).f7), .int .i64 ((rd_T92 l0 x3_1).f8)]] (by rfl) rfl rfl Zo ?_
          with_reducible refine (spec_IsArticle.calls k1 ((rd_T92 l0 x3_1).f0) ((rd_T92 l0 x3_1).f1) ((rd_T92 l0 x3_1).f2) ((rd_T92 l0 x3_1).f3) ((rd_T92 l0 x3_1).f4) ((rd_T92 l0 x3_1).f5) ((rd_T92 l0 x3_1).f6) ((rd_T92 l0 x3_1).f7) ((rd_T92 l0 x3_1).f8) true _ A4.out).mono ?_
          rintro e w12 ⟨rfl, hb⟩
          refine ⟨_, rfl, ?_⟩
          have n0_ := Aside0.mk (below_step Zc hb)
          clear HB
          have HB := n0_
          clear n0_
          (try clear hb)
          (try clear hb2)
          (try clear hk)
          (try clear hi)
          refine hK.out _ _ ⟨(cbH HB hw127_0 :), (cbH HB hw127_1 :), (cbH HB hw127_2 :), (cbH HB hw127_3 :), (cbH HB hw127_4 :), (cbH HB hw127_5 :), (cbH HB hw127_6 :), (cbH HB hw127_7 :), (cbH HB hw127_8 :), (cbH HB hw129_0 :), (cbH HB hw129_1 :), (cbH HB hw129_2 :), (cbH HB hw129_3 :), (cbH HB hw129_4 :), (cbH HB hw129_5 :), (cbH HB hw129_6 :), (cbH HB hw129_7 :), (cbH HB hw129_8 :), (cbH HB hw130_0 :), (cbH HB hw130_1 :), (cbH HB hw130_2 :), (cbH HB hw130_3 :), (cbH HB hw130_4 :), (cbH HB hw130_5 :), (cbH HB hw130_6 :), (cbH HB hw130_7 :), (cbH HB hw130_8 :)⟩ (fun hHeld => ?_)
          clear hK K
          refine norm_ (a' := ?_) ?_ ?_
          rotate_left
          ·show Act.put _ (some 14) _ = _
           simp only [Act.put, List.setIfInBounds_toArray, List.set_cons_zero, List.set_cons_succ, i64_w, i32_w]
           rfl
          refine pureZ HT_ 5 (some 15) (bT 24 6) ?_
          refine pureZ HT_ 6 (some 16) (bT 24 7) ?_
          refine pureZ HT_ 7 (some 17) (bT 24 8) ?_
          refine pureZ HT_ 8 (some 18) (bT 24 9) ?_
          refine pureZ HT_ 9 (some 19) (bT 24 10) ?_
          refine pureZ HT_ 10 (some 20) (bT 24 11) ?_
          refine pureZ HT_ 11 (some 21) (bT 24 12) ?_
          refine pureZ HT_ 12 (some 22) (bT 24 13) ?_
          refine pureZ HT_ 13 (some 23) (bT 24 14) ?_
          refine pureZ HT_ 14 (some 24) (bT 24 15) ?_
          refine pureZ HT_ 16 (some 26) #[true, true, true, true, true, true, true, true, true, true, true, true, true, true, true, false, true, false, false, false, false, false, false, false] ?_
          refine pureZ HT_ 17 (some 27) #[true, true, true, true, true, true, true, true, true, true, true, true, true, true, true, false, true, true, false, false, false, false, false, false] ?_
          refine pureZ HT_ 18 (some 28) #[true, true, true, true, true, true, true, true, true, true, true, true, true, true, true, false, true, true, true, false, false, false, false, false] ?_
          refine pureZ HT_ 19 (some 29) #[true, true, true, true, true, true, true, true, true, true, true, true, true, true, true, false, true, true, true, true, false, false, false, false] ?_
          refine take_ (i := 15) (N := some 25) (v := ?_) (a' := ?_) (bT 24 20) rfl rfl (take_ofW HT_.out HW_.out Zj) (fun _ _ _ h => h) (Or.inl ⟨by rfl, ?_⟩) hHeld ?_ ?_
          rotate_left
          ·rintro w' ⟨s0, s1, s2, s3, s4, s5, s6, s7, s8, s9, s10, s11, s12, s13, s14, s15, s16, s17, s18, s19, s20, s21, s22, s23, s24, s25, s26⟩
           go_simp
           with_reducible rfl
          rotate_left
          ·exact Zput
          refine take_ (i := 20) (N := some 30) (v := ?_) (a' := ?_) (bT 24 21) rfl rfl (take_ofW HT_.out HW_.out Zj) (fun _ _ _ h => h) (Or.inl ⟨by rfl, ?_⟩) hHeld ?_ ?_
          rotate_left
          ·rintro w' ⟨s0, s1, s2, s3, s4, s5, s6, s7, s8, s9, s10, s11, s12, s13, s14, s15, s16, s17, s18, s19, s20, s21, s22, s23, s24, s25, s26⟩
           go_simp
           with_reducible rfl
          rotate_left
          ·exact Zput
          refine pureZ HT_ 21 (some 31) (bT 24 22) ?_
          refine pureZ HT_ 22 (some 32) (bT 24 23) ?_
          refine pureZ HT_ 23 (some 33) (bT 24 24) ?_
          refine done_ (done_of HT_.out Zj) ?_
          try go_wp2
          go_roundg k1
          case measure => have := HK1.out; omega
          case rel => exact ⟨(wrap64 (x3_1 + 1)), Za, H', ⟨Zt⟩, ⟨Zc⟩⟩
         ·rw [if_neg c10] at H
          have c10b0 : (Op.bytesLess (((rd_T92 l0 (ji7)).f0).toList) (((rd_T92 l0 x3_1).f0).toList)) = false := by simpa using c10
          clear c10
          obtain rfl := Option.some.inj H
          try go_wp2
          have n0_ := Aside0.mk (below_drew1 HB.out)
          clear HB
          have HB := n0_
          clear n0_
          have p127 : 0 ≤ (x3_1 : Int) := of_decide_eq_true Zp
          have q127 : x3_1 < (l0.length : Int) := of_decide_eq_true Zp
          obtain ⟨ad127, e127, hx127_0, hx127_1, hx127_2, hx127_3, hx127_4, hx127_5, hx127_6, hx127_7, hx127_8⟩ := at_T92 HR0.out x3_1 p127 q127
          have hw127_8 := hx127_8
          have hw127_7 := hx127_7
          have hw127_6 := hx127_6
          have hw127_5 := hx127_5
          have hw127_4 := hx127_4
          have hw127_3 := hx127_3
          have hw127_2 := hx127_2
          have hw127_1 := hx127_1
          have hw127_0 := hx127_0
          cases e127
          replace hx127_0 := cbH HB hx127_0
          replace hx127_1 := cbH HB hx127_1
          replace hx127_2 := cbH HB hx127_2
          replace hx127_3 := cbH HB hx127_3
          replace hx127_4 := cbH HB hx127_4
          replace hx127_5 := cbH HB hx127_5
          replace hx127_6 := cbH HB hx127_6
          replace hx127_7 := cbH HB hx127_7
          replace hx127_8 := cbH HB hx127_8
          replace p127 := eq_true p127
          replace q127 := eq_true q127
          have p129 : 0 ≤ ((ji7) : Int) := of_decide_eq_true Zp
          have q129 : (ji7) < (l0.length : Int) := of_decide_eq_true Zp
          obtain ⟨ad129, e129, hx129_0, hx129_1, hx129_2, hx129_3, hx129_4, hx129_5, hx129_6, hx129_7, hx129_8⟩ := at_T92 HR0.out (ji7) p129 q129
          have hw129_8 := hx129_8
          have hw129_7 := hx129_7
          have hw129_6 := hx129_6
          have hw129_5 := hx129_5
          have hw129_4 := hx129_4
          have hw129_3 := hx129_3
          have hw129_2 := hx129_2
          have hw129_1 := hx129_1
          have hw129_0 := hx129_0
          obtain rfl : ad127 = ad129 := (by injection e129)
          replace hx129_0 := cbH HB hx129_0
          replace hx129_1 := cbH HB hx129_1
          replace hx129_2 := cbH HB hx129_2
          replace hx129_3 := cbH HB hx129_3
          replace hx129_4 := cbH HB hx129_4
          replace hx129_5 := cbH HB hx129_5
          replace hx129_6 := cbH HB hx129_6
          replace hx129_7 := cbH HB hx129_7
          replace hx129_8 := cbH HB hx129_8
          replace p129 := eq_true p129
          replace q129 := eq_true q129
          have p130 : 0 ≤ (x3_1 : Int) := of_decide_eq_true Zp
          have q130 : x3_1 < (l0.length : Int) := of_decide_eq_true Zp
          obtain ⟨ad130, e130, hx130_0, hx130_1, hx130_2, hx130_3, hx130_4, hx130_5, hx130_6, hx130_7, hx130_8⟩ := at_T92 HR0.out x3_1 p130 q130
          have hw130_8 := hx130_8
          have hw130_7 := hx130_7
          have hw130_6 := hx130_6
          have hw130_5 := hx130_5
          have hw130_4 := hx130_4
          have hw130_3 := hx130_3
          have hw130_2 := hx130_2
          have hw130_1 := hx130_1
          have hw130_0 := hx130_0
          obtain rfl : ad127 = ad130 := (by injection e130)
          replace hx130_0 := cbH HB hx130_0
          replace hx130_1 := cbH HB hx130_1
          replace hx130_2 := cbH HB hx130_2
          replace hx130_3 := cbH HB hx130_3
          replace hx130_4 := cbH HB hx130_4
          replace hx130_5 := cbH HB hx130_5
          replace hx130_6 := cbH HB hx130_6
          replace hx130_7 := cbH HB hx130_7
          replace hx130_8 := cbH HB hx130_8
          replace p130 := eq_true p130
          replace q130 := eq_true q130
          refine start_ (n := 24) (S := fun w' => w'.cell? (ad127.add ((x3_1).toNat * 9)) = some (.string ((rd_T92 l0 x3_1).f0)) ∧ w'.cell? ⟨(ad127.add ((x3_1).toNat * 9)).block, (ad127.add ((x3_1).toNat * 9)).off + 1, none⟩ = some (.int .i64 ((rd_T92 l0 x3_1).f1)) ∧ w'.cell? ⟨(ad127.add ((x3_1).toNat * 9)).block, (ad127.add ((x3_1).toNat * 9)).off + 2, none⟩ = some (.int .i64 ((rd_T92 l0 x3_1).f2)) ∧ w'.cell? ⟨(ad127.add ((x3_1).toNat * 9)).block, (ad127.add ((x3_1).toNat * 9)).off + 3, none⟩ = some (.int .i64 ((rd_T92 l0 x3_1).f3)) ∧ w'.cell? ⟨(ad127.add ((x3_1).toNat * 9)).block, (ad127.add ((x3_1).toNat * 9)).off + 4, none⟩ = some (.int .i64 ((rd_T92 l0 x3_1).f4)) ∧ w'.cell? ⟨(ad127.add ((x3_1).toNat * 9)).block, (ad127.add ((x3_1).toNat * 9)).off + 5, none⟩ = some (.int .i64 ((rd_T92 l0 x3_1).f5)) ∧ w'.cell? ⟨(ad127.add ((x3_1).toNat * 9)).block, (ad127.add ((x3_1).toNat * 9)).off + 6, none⟩ = some (.int .i64 ((rd_T92 l0 x3_1).f6)) ∧ w'.cell? ⟨(ad127.add ((x3_1).toNat * 9)).block, (ad127.add ((x3_1).toNat * 9)).off + 7, none⟩ = some (.int .i64 ((rd_T92 l0 x3_1).f7)) ∧ w'.cell? ⟨(ad127.add ((x3_1).toNat * 9)).block, (ad127.add ((x3_1).toNat * 9)).off + 8, none⟩ = some (.int .i64 ((rd_T92 l0 x3_1).f8)) ∧ w'.cell? (ad127.add (((ji7)).toNat * 9)) = some (.string ((rd_T92 l0 (ji7)).f0)) ∧ w'.cell? ⟨(ad127.add (((ji7)).toNat * 9)).block, (ad127.add (((ji7)).toNat * 9)).off + 1, none⟩ = some (.int .i64 ((rd_T92 l0 (ji7)).f1)) ∧ w'.cell? ⟨(ad127.add (((ji7)).toNat * 9)).block, (ad127.add (((ji7)).toNat * 9)).off + 2, none⟩ = some (.int .i64 ((rd_T92 l0 (ji7)).f2)) ∧ w'.cell? ⟨(ad127.add (((ji7)).toNat * 9)).block, (ad127.add (((ji7)).toNat * 9)).off + 3, none⟩ = some (.int .i64 ((rd_T92 l0 (ji7)).f3)) ∧ w'.cell? ⟨(ad127.add (((ji7)).toNat * 9)).block, (ad127.add (((ji7)).toNat * 9)).off + 4, none⟩ = some (.int .i64 ((rd_T92 l0 (ji7)).f4)) ∧ w'.cell? ⟨(ad127.add (((ji7)).toNat * 9)).block, (ad127.add (((ji7)).toNat * 9)).off + 5, none⟩ = some (.int .i64 ((rd_T92 l0 (ji7)).f5)) ∧ w'.cell? ⟨(ad127.add (((ji7)).toNat * 9)).block, (ad127.add (((ji7)).toNat * 9)).off + 6, none⟩ = some (.int .i64 ((rd_T92 l0 (ji7)).f6)) ∧ w'.cell? ⟨(ad127.add (((ji7)).toNat * 9)).block, (ad127.add (((ji7)).toNat * 9)).off + 7, none⟩ = some (.int .i64 ((rd_T92 l0 (ji7)).f7)) ∧ w'.cell? ⟨(ad127.add (((ji7)).toNat * 9)).block, (ad127.add (((ji7)).toNat * 9)).off + 8, none⟩ = some (.int .i64 ((rd_T92 l0 (ji7)).f8)) ∧ w'.cell? (ad127.add ((x3_1).toNat * 9)) = some (.string ((rd_T92 l0 x3_1).f0)) ∧ w'.cell? ⟨(ad127.add ((x3_1).toNat * 9)).block, (ad127.add ((x3_1).toNat * 9)).off + 1, none⟩ = some (.int .i64 ((rd_T92 l0 x3_1).f1)) ∧ w'.cell? ⟨(ad127.add ((x3_1).toNat * 9)).block, (ad127.add ((x3_1).toNat * 9)).off + 2, none⟩ = some (.int .i64 ((rd_T92 l0 x3_1).f2)) ∧ w'.cell? ⟨(ad127.add ((x3_1).toNat * 9)).block, (ad127.add ((x3_1).toNat * 9)).off + 3, none⟩ = some (.int .i64 ((rd_T92 l0 x3_1).f3)) ∧ w'.cell? ⟨(ad127.add ((x3_1).toNat * 9)).block, (ad127.add ((x3_1).toNat * 9)).off + 4, none⟩ = some (.int .i64 ((rd_T92 l0 x3_1).f4)) ∧ w'.cell? ⟨(ad127.add ((x3_1).toNat * 9)).block, (ad127.add ((x3_1).toNat * 9)).off + 5, none⟩ = some (.int .i64 ((rd_T92 l0 x3_1).f5)) ∧ w'.cell? ⟨(ad127.add ((x3_1).toNat * 9)).block, (ad127.add ((x3_1).toNat * 9)).off + 6, none⟩ = some (.int .i64 ((rd_T92 l0 x3_1).f6)) ∧ w'.cell? ⟨(ad127.add ((x3_1).toNat * 9)).block, (ad127.add ((x3_1).toNat * 9)).off + 7, none⟩ = some (.int .i64 ((rd_T92 l0 x3_1).f7)) ∧ w'.cell? ⟨(ad127.add ((x3_1).toNat * 9)).block, (ad127.add ((x3_1).toNat * 9)).off + 8, none⟩ = some (.int .i64 ((rd_T92 l0 x3_1).f8))) (ds := []) (bT 24 0) Zj rfl rfl ⟨(cbH HB hw127_0 :), (cbH HB hw127_1 :), (cbH HB hw127_2 :), (cbH HB hw127_3 :), (cbH HB hw127_4 :), (cbH HB hw127_5 :), (cbH HB hw127_6 :), (cbH HB hw127_7 :), (cbH HB hw127_8 :), (cbH HB hw129_0 :), (cbH HB hw129_1 :), (cbH HB hw129_2 :), (cbH HB hw129_3 :), (cbH HB hw129_4 :), (cbH HB hw129_5 :), (cbH HB hw129_6 :), (cbH HB hw129_7 :), (cbH HB hw129_8 :), (cbH HB hw130_0 :), (cbH HB hw130_1 :), (cbH HB hw130_2 :), (cbH HB hw130_3 :), (cbH HB hw130_4 :), (cbH HB hw130_5 :), (cbH HB hw130_6 :), (cbH HB hw130_7 :), (cbH HB hw130_8 :)⟩ (fun hHeld => ?_); refine with_tabW spec_AreArticles.tab4 spec_AreArticles.bits4 (fun HT_ HW_ => ?_)
          generalize wr.drew = w13 at HB hx127_0 hx127_1 hx127_2 hx127_3 hx127_4 hx127_5 hx127_6 hx127_7 hx127_8 hx129_0 hx129_1 hx129_2 hx129_3 hx129_4 hx129_5 hx129_6 hx129_7 hx129_8 hx130_0 hx130_1 hx130_2 hx130_3 hx130_4 hx130_5 hx130_6 hx130_7 hx130_8 hHeld ⊢
          refine pureZ HT_ 0 (some 10) (bT 24 1) ?_
          refine pureZ HT_ 1 (some 11) (bT 24 2) ?_
          refine pureZ HT_ 2 (some 12) (bT 24 3) ?_
          refine take_ (i := 3) (N := some 13) (v := ?_) (a' := ?_) (bT 24 4) rfl rfl (take_ofW HT_.out HW_.out Zj) (fun _ _ _ h => h) (Or.inl ⟨by rfl, ?_⟩) hHeld ?_ ?_
          rotate_left
          ·rintro w' ⟨s0, s1, s2, s3, s4, s5, s6, s7, s8, s9, s10, s11, s12, s13, s14, s15, s16, s17, s18, s19, s20, s21, s22, s23, s24, s25, s26⟩
           go_simp
           with_reducible rfl
          rotate_left
          ·exact Zput
          refine one_ (i := 4) (N := some 14) (bT 24 5) rfl rfl (one_of HT_.out Zj) (by decide) (fun K hK => ?_)
          refine goes_ Try.func127 Zj rfl #[.agg #[.string ((rd_T92 l0 x3_1).f0), .int .i64 ((rd_T92 l0 x3_1).f1), .int .i64 ((rd_T92 l0 x3_1).f2), .int .i64 ((rd_T92 l0 x3_1).f3), .int .i64 ((rd_T92 l0 x3_1).f4), .int .i64 ((rd_T92 l0 x3_1).f5), .int .i64 ((rd_T92 l0 x3_1).f6), .int .i64 ((rd_T92 l0 x3_1).f7), .int .i64 ((rd_T92 l0 x3_1).f8)]] (by rfl) rfl rfl Zo ?_
          with_reducible refine (spec_IsArticle.calls k1 ((rd_T92 l0 x3_1).f0) ((rd_T92 l0 x3_1).f1) ((rd_T92 l0 x3_1).f2) ((rd_T92 l0 x3_1).f3) ((rd_T92 l0 x3_1).f4) ((rd_T92 l0 x3_1).f5) ((rd_T92 l0 x3_1).f6) ((rd_T92 l0 x3_1).f7) ((rd_T92 l0 x3_1).f8) true _ A4.out).mono ?_
          rintro e w14 ⟨rfl, hb⟩
          refine ⟨_, rfl, ?_⟩
          have n0_ := Aside0.mk (below_step Zc hb)
          clear HB
          have HB := n0_
          clear n0_
          (try clear hb)
          (try clear hb2)
          (try clear hk)
          (try clear hi)
          refine hK.out _ _ ⟨(cbH HB hw127_0 :), (cbH HB hw127_1 :), (cbH HB hw127_2 :), (cbH HB hw127_3 :), (cbH HB hw127_4 :), (cbH HB hw127_5 :), (cbH HB hw127_6 :), (cbH HB hw127_7 :), (cbH HB hw127_8 :), (cbH HB hw129_0 :), (cbH HB hw129_1 :), (cbH HB hw129_2 :), (cbH HB hw129_3 :), (cbH HB hw129_4 :), (cbH HB hw129_5 :), (cbH HB hw129_6 :), (cbH HB hw129_7 :), (cbH HB hw129_8 :), (cbH HB hw130_0 :), (cbH HB hw130_1 :), (cbH HB hw130_2 :), (cbH HB hw130_3 :), (cbH HB hw130_4 :), (cbH HB hw130_5 :), (cbH HB hw130_6 :), (cbH HB hw130_7 :), (cbH HB hw130_8 :)⟩ (fun hHeld => ?_)
          clear hK K
          refine norm_ (a' := ?_) ?_ ?_
          rotate_left
          ·show Act.put _ (some 14) _ = _
           simp only [Act.put, List.setIfInBounds_toArray, List.set_cons_zero, List.set_cons_succ, i64_w, i32_w]
           rfl
          refine pureZ HT_ 5 (some 15) (bT 24 6) ?_
          refine pureZ HT_ 6 (some 16) (bT 24 7) ?_
          refine pureZ HT_ 7 (some 17) (bT 24 8) ?_
          refine pureZ HT_ 8 (some 18) (bT 24 9) ?_
          refine pureZ HT_ 9 (some 19) (bT 24 10) ?_
          refine pureZ HT_ 10 (some 20) (bT 24 11) ?_
          refine pureZ HT_ 11 (some 21) (bT 24 12) ?_
          refine pureZ HT_ 12 (some 22) (bT 24 13) ?_
          refine pureZ HT_ 13 (some 23) (bT 24 14) ?_
          refine pureZ HT_ 14 (some 24) (bT 24 15) ?_
          refine pureZ HT_ 16 (some 26) #[true, true, true, true, true, true, true, true, true, true, true, true, true, true, true, false, true, false, false, false, false, false, false, false] ?_
          refine pureZ HT_ 17 (some 27) #[true, true, true, true, true, true, true, true, true, true, true, true, true, true, true, false, true, true, false, false, false, false, false, false] ?_
          refine pureZ HT_ 18 (some 28) #[true, true, true, true, true, true, true, true, true, true, true, true, true, true, true, false, true, true, true, false, false, false, false, false] ?_
          refine pureZ HT_ 19 (some 29) #[true, true, true, true, true, true, true, true, true, true, true, true, true, true, true, false, true, true, true, true, false, false, false, false] ?_
          refine take_ (i := 15) (N := some 25) (v := ?_) (a' := ?_) (bT 24 20) rfl rfl (take_ofW HT_.out HW_.out Zj) (fun _ _ _ h => h) (Or.inl ⟨by rfl, ?_⟩) hHeld ?_ ?_
          rotate_left
          ·rintro w' ⟨s0, s1, s2, s3, s4, s5, s6, s7, s8, s9, s10, s11, s12, s13, s14, s15, s16, s17, s18, s19, s20, s21, s22, s23, s24, s25, s26⟩
           go_simp
           with_reducible rfl
          rotate_left
          ·exact Zput
          refine take_ (i := 20) (N := some 30) (v := ?_) (a' := ?_) (bT 24 21) rfl rfl (take_ofW HT_.out HW_.out Zj) (fun _ _ _ h => h) (Or.inl ⟨by rfl, ?_⟩) hHeld ?_ ?_
          rotate_left
          ·rintro w' ⟨s0, s1, s2, s3, s4, s5, s6, s7, s8, s9, s10, s11, s12, s13, s14, s15, s16, s17, s18, s19, s20, s21, s22, s23, s24, s25, s26⟩
           go_simp
           with_reducible rfl
          rotate_left
          ·exact Zput
          refine pureZ HT_ 21 (some 31) (bT 24 22) ?_
          refine pureZ HT_ 22 (some 32) (bT 24 23) ?_
          refine pureZ HT_ 23 (some 33) (bT 24 24) ?_
          refine done_ (done_of HT_.out Zj) ?_
          try go_wp2
          go_ret
          exact ⟨Zs, Zc⟩
        ·rw [if_neg c9] at H
         exact absurd H (by simp)
       ·rw [if_neg c8] at H
        exact absurd H (by simp)
      ·rw [if_neg c6] at H
       have c6b0 : decide (0 < x3_1) = false := decide_eq_false c6
       clear c6
       have H' := Aside0.mk H
       clear H
       try go_wp2
       have n0_ := Aside0.mk (below_drew1 HB.out)
       clear HB
       have HB := n0_
       clear n0_
       have p127 : 0 ≤ (x3_1 : Int) := of_decide_eq_true Zp
       have q127 : x3_1 < (l0.length : Int) := of_decide_eq_true Zp
       obtain ⟨ad127, e127, hx127_0, hx127_1, hx127_2, hx127_3, hx127_4, hx127_5, hx127_6, hx127_7, hx127_8⟩ := at_T92 HR0.out x3_1 p127 q127
       have hw127_8 := hx127_8
       have hw127_7 := hx127_7
       have hw127_6 := hx127_6
       have hw127_5 := hx127_5
       have hw127_4 := hx127_4
       have hw127_3 := hx127_3
       have hw127_2 := hx127_2
       have hw127_1 := hx127_1
       have hw127_0 := hx127_0
       cases e127
       replace hx127_0 := cbH HB hx127_0
       replace hx127_1 := cbH HB hx127_1
       replace hx127_2 := cbH HB hx127_2
       replace hx127_3 := cbH HB hx127_3
       replace hx127_4 := cbH HB hx127_4
       replace hx127_5 := cbH HB hx127_5
       replace hx127_6 := cbH HB hx127_6
       replace hx127_7 := cbH HB hx127_7
       replace hx127_8 := cbH HB hx127_8
       replace p127 := eq_true p127
       replace q127 := eq_true q127
       refine start_ (n := 24) (S := fun w' => w'.cell? (ad127.add ((x3_1).toNat * 9)) = some (.string ((rd_T92 l0 x3_1).f0)) ∧ w'.cell? ⟨(ad127.add ((x3_1).toNat * 9)).block, (ad127.add ((x3_1).toNat * 9)).off + 1, none⟩ = some (.int .i64 ((rd_T92 l0 x3_1).f1)) ∧ w'.cell? ⟨(ad127.add ((x3_1).toNat * 9)).block, (ad127.add ((x3_1).toNat * 9)).off + 2, none⟩ = some (.int .i64 ((rd_T92 l0 x3_1).f2)) ∧ w'.cell? ⟨(ad127.add ((x3_1).toNat * 9)).block, (ad127.add ((x3_1).toNat * 9)).off + 3, none⟩ = some (.int .i64 ((rd_T92 l0 x3_1).f3)) ∧ w'.cell? ⟨(ad127.add ((x3_1).toNat * 9)).block, (ad127.add ((x3_1).toNat * 9)).off + 4, none⟩ = some (.int .i64 ((rd_T92 l0 x3_1).f4)) ∧ w'.cell? ⟨(ad127.add ((x3_1).toNat * 9)).block, (ad127.add ((x3_1).toNat * 9)).off + 5, none⟩ = some (.int .i64 ((rd_T92 l0 x3_1).f5)) ∧ w'.cell? ⟨(ad127.add ((x3_1).toNat * 9)).block, (ad127.add ((x3_1).toNat * 9)).off + 6, none⟩ = some (.int .i64 ((rd_T92 l0 x3_1).f6)) ∧ w'.cell? ⟨(ad127.add ((x3_1).toNat * 9)).block, (ad127.add ((x3_1).toNat * 9)).off + 7, none⟩ = some (.int .i64 ((rd_T92 l0 x3_1).f7)) ∧ w'.cell? ⟨(ad127.add ((x3_1).toNat * 9)).block, (ad127.add ((x3_1).toNat * 9)).off + 8, none⟩ = some (.int .i64 ((rd_T92 l0 x3_1).f8))) (ds := []) (bT 24 0) Zj rfl rfl ⟨(cbH HB hw127_0 :), (cbH HB hw127_1 :), (cbH HB hw127_2 :), (cbH HB hw127_3 :), (cbH HB hw127_4 :), (cbH HB hw127_5 :), (cbH HB hw127_6 :), (cbH HB hw127_7 :), (cbH HB hw127_8 :)⟩ (fun hHeld => ?_); refine with_tabW spec_AreArticles.tab4 spec_AreArticles.bits4 (fun HT_ HW_ => ?_)
       generalize wr.drew = w15 at HB hx127_0 hx127_1 hx127_2 hx127_3 hx127_4 hx127_5 hx127_6 hx127_7 hx127_8 hHeld ⊢
       refine pureZ HT_ 0 (some 10) (bT 24 1) ?_
       refine pureZ HT_ 1 (some 11) (bT 24 2) ?_
       refine pureZ HT_ 2 (some 12) (bT 24 3) ?_
       refine take_ (i := 3) (N := some 13) (v := ?_) (a' := ?_) (bT 24 4) rfl rfl (take_ofW HT_.out HW_.out Zj) (fun _ _ _ h => h) (Or.inl ⟨by rfl, ?_⟩) hHeld ?_ ?_
       rotate_left
       ·rintro w' ⟨s0, s1, s2, s3, s4, s5, s6, s7, s8⟩
        go_simp
        with_reducible rfl
       rotate_left
       ·exact Zput
       refine one_ (i := 4) (N := some 14) (bT 24 5) rfl rfl (one_of HT_.out Zj) (by decide) (fun K hK => ?_)
       refine goes_ Try.func127 Zj rfl #[.agg #[.string ((rd_T92 l0 x3_1).f0), .int .i64 ((rd_T92 l0 x3_1).f1), .int .i64 ((rd_T92 l0 x3_1).f2), .int .i64 ((rd_T92 l0 x3_1).f3), .int .i64 ((rd_T92 l0 x3_1).f4), .int .i64 ((rd_T92 l0 x3_1).f5), .int .i64 ((rd_T92 l0 x3_1).f6), .int .i64 ((rd_T92 l0 x3_1).f7), .int .i64 ((rd_T92 l0 x3_1).f8)]] (by rfl) rfl rfl Zo ?_
       with_reducible refine (spec_IsArticle.calls k1 ((rd_T92 l0 x3_1).f0) ((rd_T92 l0 x3_1).f1) ((rd_T92 l0 x3_1).f2) ((rd_T92 l0 x3_1).f3) ((rd_T92 l0 x3_1).f4) ((rd_T92 l0 x3_1).f5) ((rd_T92 l0 x3_1).f6) ((rd_T92 l0 x3_1).f7) ((rd_T92 l0 x3_1).f8) true _ A4.out).mono ?_
       rintro e w16 ⟨rfl, hb⟩
       refine ⟨_, rfl, ?_⟩
       have n0_ := Aside0.mk (below_step Zc hb)
       clear HB
       have HB := n0_
       clear n0_
       (try clear hb)
       (try clear hb2)
       (try clear hk)
       (try clear hi)
       refine hK.out _ _ ⟨(cbH HB hw127_0 :), (cbH HB hw127_1 :), (cbH HB hw127_2 :), (cbH HB hw127_3 :), (cbH HB hw127_4 :), (cbH HB hw127_5 :), (cbH HB hw127_6 :), (cbH HB hw127_7 :), (cbH HB hw127_8 :)⟩ (fun hHeld => ?_)
       clear hK K
       refine norm_ (a' := ?_) ?_ ?_
       rotate_left
       ·show Act.put _ (some 14) _ = _
        simp only [Act.put, List.setIfInBounds_toArray, List.set_cons_zero, List.set_cons_succ, i64_w, i32_w]
        rfl
       refine pureZ HT_ 5 (some 15) (bT 24 6) ?_
       refine pureZ HT_ 6 (some 16) (bT 24 7) ?_
       refine pureZ HT_ 7 (some 17) (bT 24 8) ?_
       refine pureZ HT_ 8 (some 18) (bT 24 9) ?_
       refine pureZ HT_ 9 (some 19) (bT 24 10) ?_
       refine pure_ (i := 10) (N := some 20) (v := undef) (a' := ?_) (bT 24 11) rfl rfl (any_of HT_.out Zj) (fun _ _ _ h => h) (Or.inr ⟨by rfl, rfl⟩) ?_ ?_
       rotate_left
       ·exact Zput
       refine pure_ (i := 11) (N := some 21) (v := undef) (a' := ?_) (bT 24 12) rfl rfl (any_of HT_.out Zj) (fun _ _ _ h => h) (Or.inr ⟨by rfl, rfl⟩) ?_ ?_
       rotate_left
       ·exact Zput
       refine pure_ (i := 12) (N := some 22) (v := undef) (a' := ?_) (bT 24 13) rfl rfl (any_of HT_.out Zj) (fun _ _ _ h => h) (Or.inr ⟨by rfl, rfl⟩) ?_ ?_
       rotate_left
       ·exact Zput
       refine pure_ (i := 13) (N := some 23) (v := undef) (a' := ?_) (bT 24 14) rfl rfl (any_of HT_.out Zj) (fun _ _ _ h => h) (Or.inr ⟨by rfl, rfl⟩) ?_ ?_
       rotate_left
       ·exact Zput
       refine pure_ (i := 14) (N := some 24) (v := undef) (a' := ?_) (bT 24 15) rfl rfl (any_of HT_.out Zj) (fun _ _ _ h => h) (Or.inr ⟨by rfl, rfl⟩) ?_ ?_
       rotate_left
       ·exact Zput
       refine pure_ (i := 15) (N := some 25) (v := undef) (a' := ?_) (bT 24 16) rfl rfl (any_of HT_.out Zj) (fun _ _ _ h => h) (Or.inr ⟨by rfl, rfl⟩) ?_ ?_
       rotate_left
       ·exact Zput
       refine pure_ (i := 16) (N := some 26) (v := undef) (a' := ?_) (bT 24 17) rfl rfl (any_of HT_.out Zj) (fun _ _ _ h => h) (Or.inr ⟨by rfl, rfl⟩) ?_ ?_
       rotate_left
       ·exact Zput
       refine pure_ (i := 17) (N := some 27) (v := undef) (a' := ?_) (bT 24 18) rfl rfl (any_of HT_.out Zj) (fun _ _ _ h => h) (Or.inr ⟨by rfl, rfl⟩) ?_ ?_
       rotate_left
       ·exact Zput
       refine pure_ (i := 18) (N := some 28) (v := undef) (a' := ?_) (bT 24 19) rfl rfl (any_of HT_.out Zj) (fun _ _ _ h => h) (Or.inr ⟨by rfl, rfl⟩) ?_ ?_
       rotate_left
       ·exact Zput
       refine pure_ (i := 19) (N := some 29) (v := undef) (a' := ?_) (bT 24 20) rfl rfl (any_of HT_.out Zj) (fun _ _ _ h => h) (Or.inr ⟨by rfl, rfl⟩) ?_ ?_
       rotate_left
       ·exact Zput
       refine pure_ (i := 20) (N := some 30) (v := undef) (a' := ?_) (bT 24 21) rfl rfl (any_of HT_.out Zj) (fun _ _ _ h => h) (Or.inr ⟨by rfl, rfl⟩) ?_ ?_
       rotate_left
       ·exact Zput
       refine pure_ (i := 21) (N := some 31) (v := undef) (a' := ?_) (bT 24 22) rfl rfl (any_of HT_.out Zj) (fun _ _ _ h => h) (Or.inr ⟨by rfl, rfl⟩) ?_ ?_
       rotate_left
       ·exact Zput
       refine pureZ HT_ 22 (some 32) (bT 24 23) ?_
       refine pureZ HT_ 23 (some 33) (bT 24 24) ?_
       refine done_ (done_of HT_.out Zj) ?_
       try go_wp2
       go_roundg k1
       case measure => have := HK1.out; omega
       case rel => exact ⟨(wrap64 (x3_1 + 1)), Za, H', ⟨Zt⟩, ⟨Zc⟩⟩
     ·replace c5 := Bool.eq_false_iff.mpr c5
      subst c5
      have H1 : (some false) = some r := by rw [if_neg (show ¬ (false = true) by decide)] at H; exact H
      clear H
      have H := H1
      clear H1
      obtain rfl := Option.some.inj H
      try go_wp2
      have n0_ := Aside0.mk (below_drew1 HB.out)
      clear HB
      have HB := n0_
      clear n0_
      have p127 : 0 ≤ (x3_1 : Int) := of_decide_eq_true Zp
      have q127 : x3_1 < (l0.length : Int) := of_decide_eq_true Zp
      obtain ⟨ad127, e127, hx127_0, hx127_1, hx127_2, hx127_3, hx127_4, hx127_5, hx127_6, hx127_7, hx127_8⟩ := at_T92 HR0.out x3_1 p127 q127
      have hw127_8 := hx127_8
      have hw127_7 := hx127_7
      have hw127_6 := hx127_6
      have hw127_5 := hx127_5
      have hw127_4 := hx127_4
      have hw127_3 := hx127_3
      have hw127_2 := hx127_2
      have hw127_1 := hx127_1
      have hw127_0 := hx127_0
      cases e127
      replace hx127_0 := cbH HB hx127_0
      replace hx127_1 := cbH HB hx127_1
      replace hx127_2 := cbH HB hx127_2
      replace hx127_3 := cbH HB hx127_3
      replace hx127_4 := cbH HB hx127_4
      replace hx127_5 := cbH HB hx127_5
      replace hx127_6 := cbH HB hx127_6
      replace hx127_7 := cbH HB hx127_7
      replace hx127_8 := cbH HB hx127_8
      replace p127 := eq_true p127
      replace q127 := eq_true q127
      refine start_ (n := 24) (S := fun w' => w'.cell? (ad127.add ((x3_1).toNat * 9)) = some (.string ((rd_T92 l0 x3_1).f0)) ∧ w'.cell? ⟨(ad127.add ((x3_1).toNat * 9)).block, (ad127.add ((x3_1).toNat * 9)).off + 1, none⟩ = some (.int .i64 ((rd_T92 l0 x3_1).f1)) ∧ w'.cell? ⟨(ad127.add ((x3_1).toNat * 9)).block, (ad127.add ((x3_1).toNat * 9)).off + 2, none⟩ = some (.int .i64 ((rd_T92 l0 x3_1).f2)) ∧ w'.cell? ⟨(ad127.add ((x3_1).toNat * 9)).block, (ad127.add ((x3_1).toNat * 9)).off + 3, none⟩ = some (.int .i64 ((rd_T92 l0 x3_1).f3)) ∧ w'.cell? ⟨(ad127.add ((x3_1).toNat * 9)).block, (ad127.add ((x3_1).toNat * 9)).off + 4, none⟩ = some (.int .i64 ((rd_T92 l0 x3_1).f4)) ∧ w'.cell? ⟨(ad127.add ((x3_1).toNat * 9)).block, (ad127.add ((x3_1).toNat * 9)).off + 5, none⟩ = some (.int .i64 ((rd_T92 l0 x3_1).f5)) ∧ w'.cell? ⟨(ad127.add ((x3_1).toNat * 9)).block, (ad127.add ((x3_1).toNat * 9)).off + 6, none⟩ = some (.int .i64 ((rd_T92 l0 x3_1).f6)) ∧ w'.cell? ⟨(ad127.add ((x3_1).toNat * 9)).block, (ad127.add ((x3_1).toNat * 9)).off + 7, none⟩ = some (.int .i64 ((rd_T92 l0 x3_1).f7)) ∧ w'.cell? ⟨(ad127.add ((x3_1).toNat * 9)).block, (ad127.add ((x3_1).toNat * 9)).off + 8, none⟩ = some (.int .i64 ((rd_T92 l0 x3_1).f8))) (ds := []) (bT 24 0) Zj rfl rfl ⟨(cbH HB hw127_0 :), (cbH HB hw127_1 :), (cbH HB hw127_2 :), (cbH HB hw127_3 :), (cbH HB hw127_4 :), (cbH HB hw127_5 :), (cbH HB hw127_6 :), (cbH HB hw127_7 :), (cbH HB hw127_8 :)⟩ (fun hHeld => ?_); refine with_tabW spec_AreArticles.tab4 spec_AreArticles.bits4 (fun HT_ HW_ => ?_)
      generalize wr.drew = w17 at HB hx127_0 hx127_1 hx127_2 hx127_3 hx127_4 hx127_5 hx127_6 hx127_7 hx127_8 hHeld ⊢
      refine pureZ HT_ 0 (some 10) (bT 24 1) ?_
      refine pureZ HT_ 1 (some 11) (bT 24 2) ?_
      refine pureZ HT_ 2 (some 12) (bT 24 3) ?_
      refine take_ (i := 3) (N := some 13) (v := ?_) (a' := ?_) (bT 24 4) rfl rfl (take_ofW HT_.out HW_.out Zj) (fun _ _ _ h => h) (Or.inl ⟨by rfl, ?_⟩) hHeld ?_ ?_
      rotate_left
      ·rintro w' ⟨s0, s1, s2, s3, s4, s5, s6, s7, s8⟩
       go_simp
       with_reducible rfl
      rotate_left
      ·exact Zput
      refine one_ (i := 4) (N := some 14) (bT 24 5) rfl rfl (one_of HT_.out Zj) (by decide) (fun K hK => ?_)
      refine goes_ Try.func127 Zj rfl #[.agg #[.string ((rd_T92 l0 x3_1).f0), .int .i64 ((rd_T92 l0 x3_1).f1), .int .i64 ((rd_T92 l0 x3_1).f2), .int .i64 ((rd_T92 l0 x3_1).f3), .int .i64 ((rd_T92 l0 x3_1).f4), .int .i64 ((rd_T92 l0 x3_1).f5), .int .i64 ((rd_T92 l0 x3_1).f6), .int .i64 ((rd_T92 l0 x3_1).f7), .int .i64 ((rd_T92 l0 x3_1).f8)]] (by rfl) rfl rfl Zo ?_
      with_reducible refine (spec_IsArticle.calls k1 ((rd_T92 l0 x3_1).f0) ((rd_T92 l0 x3_1).f1) ((rd_T92 l0 x3_1).f2) ((rd_T92 l0 x3_1).f3) ((rd_T92 l0 x3_1).f4) ((rd_T92 l0 x3_1).f5) ((rd_T92 l0 x3_1).f6) ((rd_T92 l0 x3_1).f7) ((rd_T92 l0 x3_1).f8) false _ A4.out).mono ?_
      rintro e w18 ⟨rfl, hb⟩
      refine ⟨_, rfl, ?_⟩
      have n0_ := Aside0.mk (below_step Zc hb)
      clear HB
      have HB := n0_
      clear n0_
      (try clear hb)
      (try clear hb2)
      (try clear hk)
      (try clear hi)
      refine hK.out _ _ ⟨(cbH HB hw127_0 :), (cbH HB hw127_1 :), (cbH HB hw127_2 :), (cbH HB hw127_3 :), (cbH HB hw127_4 :), (cbH HB hw127_5 :), (cbH HB hw127_6 :), (cbH HB hw127_7 :), (cbH HB hw127_8 :)⟩ (fun hHeld => ?_)
      clear hK K
      refine norm_ (a' := ?_) ?_ ?_
      rotate_left
      ·show Act.put _ (some 14) _ = _
       simp only [Act.put, List.setIfInBounds_toArray, List.set_cons_zero, List.set_cons_succ, i64_w, i32_w]
       rfl
      refine pureZ HT_ 5 (some 15) (bT 24 6) ?_
      refine pureZ HT_ 6 (some 16) (bT 24 7) ?_
      refine pure_ (i := 7) (N := some 17) (v := undef) (a' := ?_) (bT 24 8) rfl rfl (any_of HT_.out Zj) (fun _ _ _ h => h) (Or.inr ⟨by rfl, rfl⟩) ?_ ?_
      rotate_left
      ·exact Zput
      refine pure_ (i := 8) (N := some 18) (v := undef) (a' := ?_) (bT 24 9) rfl rfl (any_of HT_.out Zj) (fun _ _ _ h => h) (Or.inr ⟨by rfl, rfl⟩) ?_ ?_
      rotate_left
      ·exact Zput
      refine pure_ (i := 9) (N := some 19) (v := undef) (a' := ?_) (bT 24 10) rfl rfl (any_of HT_.out Zj) (fun _ _ _ h => h) (Or.inr ⟨by rfl, rfl⟩) ?_ ?_
      rotate_left
      ·exact Zput
      refine pure_ (i := 10) (N := some 20) (v := undef) (a' := ?_) (bT 24 11) rfl rfl (any_of HT_.out Zj) (fun _ _ _ h => h) (Or.inr ⟨by rfl, rfl⟩) ?_ ?_
      rotate_left
      ·exact Zput
      refine pure_ (i := 11) (N := some 21) (v := undef) (a' := ?_) (bT 24 12) rfl rfl (any_of HT_.out Zj) (fun _ _ _ h => h) (Or.inr ⟨by rfl, rfl⟩) ?_ ?_
      rotate_left
      ·exact Zput
      refine pure_ (i := 12) (N := some 22) (v := undef) (a' := ?_) (bT 24 13) rfl rfl (any_of HT_.out Zj) (fun _ _ _ h => h) (Or.inr ⟨by rfl, rfl⟩) ?_ ?_
      rotate_left
      ·exact Zput
      refine pure_ (i := 13) (N := some 23) (v := undef) (a' := ?_) (bT 24 14) rfl rfl (any_of HT_.out Zj) (fun _ _ _ h => h) (Or.inr ⟨by rfl, rfl⟩) ?_ ?_
      rotate_left
      ·exact Zput
      refine pure_ (i := 14) (N := some 24) (v := undef) (a' := ?_) (bT 24 15) rfl rfl (any_of HT_.out Zj) (fun _ _ _ h => h) (Or.inr ⟨by rfl, rfl⟩) ?_ ?_
      rotate_left
      ·exact Zput
      refine pure_ (i := 15) (N := some 25) (v := undef) (a' := ?_) (bT 24 16) rfl rfl (any_of HT_.out Zj) (fun _ _ _ h => h) (Or.inr ⟨by rfl, rfl⟩) ?_ ?_
      rotate_left
      ·exact Zput
      refine pure_ (i := 16) (N := some 26) (v := undef) (a' := ?_) (bT 24 17) rfl rfl (any_of HT_.out Zj) (fun _ _ _ h => h) (Or.inr ⟨by rfl, rfl⟩) ?_ ?_
      rotate_left
      ·exact Zput
      refine pure_ (i := 17) (N := some 27) (v := undef) (a' := ?_) (bT 24 18) rfl rfl (any_of HT_.out Zj) (fun _ _ _ h => h) (Or.inr ⟨by rfl, rfl⟩) ?_ ?_
      rotate_left
      ·exact Zput
      refine pure_ (i := 18) (N := some 28) (v := undef) (a' := ?_) (bT 24 19) rfl rfl (any_of HT_.out Zj) (fun _ _ _ h => h) (Or.inr ⟨by rfl, rfl⟩) ?_ ?_
      rotate_left
      ·exact Zput
      refine pure_ (i := 19) (N := some 29) (v := undef) (a' := ?_) (bT 24 20) rfl rfl (any_of HT_.out Zj) (fun _ _ _ h => h) (Or.inr ⟨by rfl, rfl⟩) ?_ ?_
      rotate_left
      ·exact Zput
      refine pure_ (i := 20) (N := some 30) (v := undef) (a' := ?_) (bT 24 21) rfl rfl (any_of HT_.out Zj) (fun _ _ _ h => h) (Or.inr ⟨by rfl, rfl⟩) ?_ ?_
      rotate_left
      ·exact Zput
      refine pure_ (i := 21) (N := some 31) (v := undef) (a' := ?_) (bT 24 22) rfl rfl (any_of HT_.out Zj) (fun _ _ _ h => h) (Or.inr ⟨by rfl, rfl⟩) ?_ ?_
      rotate_left
      ·exact Zput
      refine pure_ (i := 22) (N := some 32) (v := undef) (a' := ?_) (bT 24 23) rfl rfl (any_of HT_.out Zj) (fun _ _ _ h => h) (Or.inr ⟨by rfl, rfl⟩) ?_ ?_
      rotate_left
      ·exact Zput
      refine pureZ HT_ 23 (some 33) (bT 24 24) ?_
      refine done_ (done_of HT_.out Zj) ?_
      try go_wp2
      go_ret
      exact ⟨Zk, Zc⟩
    ·rw [if_neg c3] at H
     exact absurd H (by simp)
   ·rw [if_neg c2] at H
    have c2b0 : decide (x3_1 < (l0.length : Int)) = false := decide_eq_false c2
    clear c2
    obtain rfl := Option.some.inj H
    go_wp2
    go_ret
    exact ⟨Zk, Zc⟩
end Go.Proofs.Ytnlbaflbhicooaa.F
namespace Go.Proofs.Ytnlbaflbhicooaa.F
open Go.RowKit Go.Proofs.YtnlbaflbhicooaaW.PrintWords Go.Proofs.YtnlbaflbhicooaaW.PrintLast Go.Proofs.YtnlbaflbhicooaaW.PrintMore
attribute [local go_sem] max2_int min2_int max_two min_two max_three min_three max_four min_four   -- for this text's walks alone
set_option linter.unusedVariables false
set_option linter.unusedSimpArgs false
def spec_l07Has.f (l0 : List (S108)) (a1 : Int) (a2 : Int) : Option (Bool) := (spec_l01In.f a1 0 (wrap64 ((l0.length : Int) - 1))).bind fun t131 => (if t131 = true then (if 0 ≤ a1 then (if a1 < (l0.length : Int) then ((spec_l01In.f a2 0 (wrap64 (((rd_T108 l0 a1).f0) - 1))).bind fun t133 => (some t133)) else (none)) else (none)) else (some false))
set_option maxHeartbeats 8000000 in
set_option maxRecDepth 100000 in
theorem spec_l07Has.calls (A0 : Option Addr) (c0 : Nat) (l0 : List (S108)) (a1 : Int) (a2 : Int) (r : Bool) (w : World) (hr0 : Kd.C k108 w A0 l0.length l0) (hc0 : l0.length ≤ c0) (h : spec_l07Has.f l0 a1 a2 = some r) :
  Calls Try.prog 93 #[.slice A0 l0.length c0, .int .i64 a1, .int .i64 a2] w fun e w' => e = .returned (.bool r) ∧ Drawn0 w w' := by
 have HR0 := Aside0.mk hr0
 have HC0 := Aside0.mk hc0
 clear hr0 hc0
 have H : ((spec_l01In.f a1 0 (wrap64 ((l0.length : Int) - 1))).bind fun t131 => (if t131 = true then (if 0 ≤ a1 then (if a1 < (l0.length : Int) then ((spec_l01In.f a2 0 (wrap64 (((rd_T108 l0 a1).f0) - 1))).bind fun t133 => (some t133)) else (none)) else (none)) else (some false))) = some r := h
 clear h
 replace H := Option.bind_eq_some_iff.mp H
 obtain ⟨t131, A40, H⟩ := H
 replace H : (if t131 = true then (if 0 ≤ a1 then (if a1 < (l0.length : Int) then ((spec_l01In.f a2 0 (wrap64 (((rd_T108 l0 a1).f0) - 1))).bind fun t133 => (some t133)) else (none)) else (none)) else (some false)) = some r := H
 have A4 := Aside0.mk A40
 clear A40
 by_cases c5 : t131 = true
 ·subst c5
  have H1 : (if 0 ≤ a1 then (if a1 < (l0.length : Int) then ((spec_l01In.f a2 0 (wrap64 (((rd_T108 l0 a1).f0) - 1))).bind fun t133 => (some t133)) else (none)) else (none)) = some r := by rw [if_pos rfl] at H; exact H
  clear H
  have H := H1
  clear H1
  by_cases c6 : 0 ≤ a1
  ·rw [if_pos c6] at H
   have c6b0 : decide (0 ≤ a1) = true := decide_eq_true c6
   clear c6
   by_cases c7 : a1 < (l0.length : Int)
   ·rw [if_pos c7] at H
    have c7b0 : decide (a1 < (l0.length : Int)) = true := decide_eq_true c7
    clear c7
    replace H := Option.bind_eq_some_iff.mp H
    obtain ⟨t133, A80, H⟩ := H
    replace H : (some t133) = some r := H
    have A8 := Aside0.mk A80
    clear A80
    obtain rfl := Option.some.inj H
    go_enter Try.func93, Try.ntmps93
    go_wp2_with (first | ((with_reducible refine gate_callee (f := 68) rfl ?_); refine goesL_ (some 11) rfl rfl Try.func68 Zj rfl #[.int .i64 a1, .int .i64 0, .int .i64 (wrap64 ((l0.length : Int) - 1))] rfl Zo ?_; (with_reducible refine (spec_l01In.calls a1 0 (wrap64 ((l0.length : Int) - 1)) true _ A4.out).mono ?_); rintro e w' ⟨rfl, ⟨nd, rfl⟩⟩; refine ⟨_, rfl, ?_⟩; have p132 : 0 ≤ (a1 : Int) := of_decide_eq_true Zp; have q132 : a1 < (l0.length : Int) := of_decide_eq_true Zp; obtain ⟨ad132, e132, hx132_0, hx132_1⟩ := at_T108 HR0.out a1 p132 q132; cases e132; replace p132 := eq_true p132; replace q132 := eq_true q132) | (go_at_call 68; (with_reducible refine (spec_l01In.calls a2 0 (wrap64 (((rd_T108 l0 a1).f0) - 1)) t133 _ A8.out).mono ?_); rintro e w' ⟨rfl, ⟨nd, rfl⟩⟩))
    go_ret
    exact ⟨Za, Zb⟩
   ·rw [if_neg c7] at H
    exact absurd H (by simp)
  ·rw [if_neg c6] at H
   exact absurd H (by simp)
 ·replace c5 := Bool.eq_false_iff.mpr c5
  subst c5
  have H1 : (some false) = some r := by rw [if_neg (show ¬ (false = true) by decide)] at H; exact H
  clear H
  have H := H1
  clear H1
  obtain rfl := Option.some.inj H
  go_enter Try.func93, Try.ntmps93
  go_wp2_with (first | ((with_reducible refine gate_callee (f := 68) rfl ?_); refine goesL_ (some 11) rfl rfl Try.func68 Zj rfl #[.int .i64 a1, .int .i64 0, .int .i64 (wrap64 ((l0.length : Int) - 1))] rfl Zo ?_; (with_reducible refine (spec_l01In.calls a1 0 (wrap64 ((l0.length : Int) - 1)) false _ A4.out).mono ?_); rintro e w' ⟨rfl, ⟨nd, rfl⟩⟩; refine ⟨_, rfl, ?_⟩))
  go_ret
  exact ⟨Za, Zb⟩
end Go.Proofs.Ytnlbaflbhicooaa.F
namespace Go.Proofs.Ytnlbaflbhicooaa.F
open Go.RowKit Go.Proofs.YtnlbaflbhicooaaW.PrintWords Go.Proofs.YtnlbaflbhicooaaW.PrintLast Go.Proofs.YtnlbaflbhicooaaW.PrintMore
attribute [local go_sem] max2_int min2_int max_two min_two max_three min_three max_four min_four   -- for this text's walks alone
set_option linter.unusedVariables false
set_option linter.unusedSimpArgs false
mutual
def spec_IsShow.j0 : Nat → Bool → List (S108) → List (S92) → List (S43) → Option (Bool)
 | 0, _, _, _, _ => none
 | k + 1, x20, x144000, x144001, x144002 => if x20 = true then (some false) else (spec_IsShow.l0 k 0 x144000 x144001 x144002)
def spec_IsShow.l0 : Nat → Int → List (S108) → List (S92) → List (S43) → Option (Bool)
 | 0, _, _, _, _ => none
 | k + 1, x3, x144000, x144001, x144002 => if x3 < (x144002.length : Int) then (if 0 ≤ x3 then ((spec_l07Has.f x144000 ((rd_T43 x144002 x3).f0) ((rd_T43 x144002 x3).f1)).bind fun t148 => (if t148 = true then ((spec_l03Find.f k x144001 ((rd_T43 x144002 x3).f2)).bind fun t149 => (if t149 < 0 then (some false) else ((spec_l01In.f ((rd_T43 x144002 x3).f3) 0 11).bind fun t150 => (if t150 = true then ((spec_l08Time.f k x144000 x144001 x144002 ((rd_T43 x144002 x3).f0) ((rd_T43 x144002 x3).f1) ((rd_T43 x144002 x3).f2) ((rd_T43 x144002 x3).f3)).bind fun t151 => (if t151 < 0 then (some false) else (spec_IsShow.l0 k (wrap64 (x3 + 1)) x144000 x144001 x144002))) else (some false))))) else (some false))) else (none)) else (some true)
end
def spec_IsShow.f (k : Nat) (l0_0 : List (S108)) (l0_1 : List (S92)) (l0_2 : List (S43)) : Option (Bool) := (spec_IsScore.f k l0_0).bind fun t144 => (if t144 = true then ((spec_AreArticles.f k l0_1).bind fun t145 => (if t145 = true then (spec_IsShow.j0 k (decide ((l0_2.length : Int) > 20)) l0_0 l0_1 l0_2) else (spec_IsShow.j0 k true l0_0 l0_1 l0_2))) else (spec_IsShow.j0 k true l0_0 l0_1 l0_2))
set_option maxHeartbeats 8000000 in
set_option maxRecDepth 100000 in
theorem spec_IsShow.calls (k : Nat) (A0_0 : Option Addr) (c0_0 : Nat) (l0_0 : List (S108)) (A0_1 : Option Addr) (c0_1 : Nat) (l0_1 : List (S92)) (A0_2 : Option Addr) (c0_2 : Nat) (l0_2 : List (S43)) (r : Bool) (w : World) (hr0_0 : Kd.C k108 w A0_0 l0_0.length l0_0) (hc0_0 : l0_0.length ≤ c0_0) (hr0_1 : Kd.C k92 w A0_1 l0_1.length l0_1) (hc0_1 : l0_1.length ≤ c0_1) (hr0_2 : Kd.C k43 w A0_2 l0_2.length l0_2) (hc0_2 : l0_2.length ≤ c0_2) (h : spec_IsShow.f k l0_0 l0_1 l0_2 = some r) :
  Calls Try.prog 36 #[.agg #[.slice A0_0 l0_0.length c0_0, .slice A0_1 l0_1.length c0_1, .slice A0_2 l0_2.length c0_2]] w fun e w' => e = .returned (.bool r) ∧ Below w.heap.size w w' := by
 have hu32 := Try.underlying32
 have hu43 := Try.underlying43
 have HR0_0 := Aside0.mk hr0_0
 have HC0_0 := Aside0.mk hc0_0
 clear hr0_0 hc0_0
 have HR0_1 := Aside0.mk hr0_1
 have HC0_1 := Aside0.mk hc0_1
 clear hr0_1 hc0_1
 have HR0_2 := Aside0.mk hr0_2
 have HC0_2 := Aside0.mk hc0_2
 clear hr0_2 hc0_2
 have HB := Aside0.mk (Below.refl w.heap.size w)
 have H : ((spec_IsScore.f k l0_0).bind fun t144 => (if t144 = true then ((spec_AreArticles.f k l0_1).bind fun t145 => (if t145 = true then (spec_IsShow.j0 k (decide ((l0_2.length : Int) > 20)) l0_0 l0_1 l0_2) else (spec_IsShow.j0 k true l0_0 l0_1 l0_2))) else (spec_IsShow.j0 k true l0_0 l0_1 l0_2))) = some r := h
 clear h
 have HC2 := Aside0.mk H
 clear H
 go_enter Try.func36, Try.ntmps36
 go_upto_region 1 with (first | ((with_reducible refine gate_dst (N := 1) rfl ?_); (try (refine gate_guard (by rfl) ?_; dsimp only)); refine box_event ?hg (N := 1) ?hd (cs := #[.slice A0_0 l0_0.length c0_0, .slice A0_1 l0_1.length c0_1, .slice A0_2 l0_2.length c0_2]) (t := 32) ?hr ?_; (case hd => rfl); (case hg => rfl); (case hr => first | (go_simp; done) | (go_simp; rfl)); intro gb143 hg w3 hbox hb; have n0_ := Aside0.mk (below_step Zc hb); have n1_ := Aside0.mk (hbox); have n2_ := Aside0.mk ((Zd : w.heap.size ≤ gb143)); have n3_ := Aside0.mk ((Zd : w.heap.size ≤ gb143)); clear HB; have HB := n0_; have BK143 := n1_; have GW143 := n2_; have GE143 := n3_; clear n0_ n1_ n2_ n3_; clear hb hbox hg))
 (try simp only [Act.put, List.setIfInBounds_toArray, List.set_cons_zero, List.set_cons_succ])
 go_cut [20] (fun v20 wc => ∃ (kq : Nat) (x20_1 : Bool), v20 = .bool x20_1 ∧ Aside0 (spec_IsShow.j0 kq x20_1 l0_0 l0_1 l0_2 = some r) ∧ Aside0 (kq ≤ k) ∧ Aside0 (wc.heap[gb143]? = some (.cells #[(.slice A0_0 l0_0.length c0_0), (.slice A0_1 l0_1.length c0_1), (.slice A0_2 l0_2.length c0_2)] 32 (0, 0))) ∧ Aside0 (Below w.heap.size w wc))
 case first =>
  have H := HC2.out
  clear HC2
  replace H := Option.bind_eq_some_iff.mp H
  obtain ⟨t144, A40, H⟩ := H
  replace H : (if t144 = true then ((spec_AreArticles.f k l0_1).bind fun t145 => (if t145 = true then (spec_IsShow.j0 k (decide ((l0_2.length : Int) > 20)) l0_0 l0_1 l0_2) else (spec_IsShow.j0 k true l0_0 l0_1 l0_2))) else (spec_IsShow.j0 k true l0_0 l0_1 l0_2)) = some r := H
  have A4 := Aside0.mk A40
  clear A40
  by_cases c5 : t144 = true
  ·subst c5
   have H1 : ((spec_AreArticles.f k l0_1).bind fun t145 => (if t145 = true then (spec_IsShow.j0 k (decide ((l0_2.length : Int) > 20)) l0_0 l0_1 l0_2) else (spec_IsShow.j0 k true l0_0 l0_1 l0_2))) = some r := by rw [if_pos rfl] at H; exact H
   clear H
   have H := H1
   clear H1
   replace H := Option.bind_eq_some_iff.mp H
   obtain ⟨t145, A60, H⟩ := H
   replace H : (if t145 = true then (spec_IsShow.j0 k (decide ((l0_2.length : Int) > 20)) l0_0 l0_1 l0_2) else (spec_IsShow.j0 k true l0_0 l0_1 l0_2)) = some r := H
   have A6 := Aside0.mk A60
   clear A60
   by_cases c7 : t145 = true
   ·subst c7
    have H1 : (spec_IsShow.j0 k (decide ((l0_2.length : Int) > 20)) l0_0 l0_1 l0_2) = some r := by rw [if_pos rfl] at H; exact H
    clear H
    have H := H1
    clear H1
    have H' := Aside0.mk H
    clear H
    obtain ⟨hcz8_0, hcz8_1, hcz8_2, hfz8_0, hfz8_1, hfz8_2⟩ := cz3 BK143
    go_wp2_with (first | ((with_reducible refine gate_callee (f := 91) rfl ?_); refine goesL_ (some 7) rfl rfl Try.func91 Zj rfl #[.slice A0_0 l0_0.length c0_0] rfl Zo ?_; (with_reducible refine (spec_IsScore.calls k _ _ l0_0 true _ ?side1 ?side2 A4.out).mono ?_); (case side1 => repeat (first | exact (Kd.C_below HR0_0.out HB.out) | (with_reducible refine Kd.C_alloc ?_ _) | (with_reducible refine Kd.C_drewN ?_ _) | (with_reducible refine Kd.C_drew ?_))); (case side2 => exact HC0_0.out); rintro e w' ⟨rfl, ⟨nd, rfl⟩⟩; refine ⟨_, rfl, ?_⟩) | (go_at_call 92; (with_reducible refine (spec_AreArticles.calls k _ _ l0_1 true _ ?side1 ?side2 A6.out).mono ?_); (case side1 => repeat (first | exact (Kd.C_below HR0_1.out (have z0_ := GE143; Zf)) | (with_reducible refine Kd.C_alloc ?_ _) | (with_reducible refine Kd.C_drewN ?_ _) | (with_reducible refine Kd.C_drew ?_))); (case side2 => exact HC0_1.out); rintro e w9 ⟨rfl, hb⟩; have n0_ := Aside0.mk (blk_below (g := gb143) (o := .cells #[.slice A0_0 l0_0.length c0_0, .slice A0_1 l0_1.length c0_1, .slice A0_2 l0_2.length c0_2] 32 (0, 0)) (have z0_ := BK143; Ze) hb); have n1_ := Aside0.mk (below_step (have z0_ := GE143; Zf) hb); clear BK143; clear HB; have BK143 := n0_; have HB := n1_; clear n0_ n1_; (try clear hb); (try clear hb2); (try clear hk); (try clear hi); obtain ⟨hcz10_0, hcz10_1, hcz10_2, hfz10_0, hfz10_1, hfz10_2⟩ := cz3 BK143))
    go_meet
    case rel => exact ⟨_, (decide ((l0_2.length : Int) > 20)), Za, H', ⟨Zm⟩, ⟨(have z0_ := BK143; Ze)⟩, ⟨(have z0_ := GE143; Zf)⟩⟩
   ·replace c7 := Bool.eq_false_iff.mpr c7
    subst c7
    have H1 : (spec_IsShow.j0 k true l0_0 l0_1 l0_2) = some r := by rw [if_neg (show ¬ (false = true) by decide)] at H; exact H
    clear H
    have H := H1
    clear H1
    have H' := Aside0.mk H
    clear H
    obtain ⟨hcz11_0, hcz11_1, hcz11_2, hfz11_0, hfz11_1, hfz11_2⟩ := cz3 BK143
    go_wp2_with (first | ((with_reducible refine gate_callee (f := 91) rfl ?_); refine goesL_ (some 7) rfl rfl Try.func91 Zj rfl #[.slice A0_0 l0_0.length c0_0] rfl Zo ?_; (with_reducible refine (spec_IsScore.calls k _ _ l0_0 true _ ?side1 ?side2 A4.out).mono ?_); (case side1 => repeat (first | exact (Kd.C_below HR0_0.out HB.out) | (with_reducible refine Kd.C_alloc ?_ _) | (with_reducible refine Kd.C_drewN ?_ _) | (with_reducible refine Kd.C_drew ?_))); (case side2 => exact HC0_0.out); rintro e w' ⟨rfl, ⟨nd, rfl⟩⟩; refine ⟨_, rfl, ?_⟩) | (go_at_call 92; (with_reducible refine (spec_AreArticles.calls k _ _ l0_1 false _ ?side1 ?side2 A6.out).mono ?_); (case side1 => repeat (first | exact (Kd.C_below HR0_1.out (have z0_ := GE143; Zf)) | (with_reducible refine Kd.C_alloc ?_ _) | (with_reducible refine Kd.C_drewN ?_ _) | (with_reducible refine Kd.C_drew ?_))); (case side2 => exact HC0_1.out); rintro e w12 ⟨rfl, hb⟩; have n0_ := Aside0.mk (blk_below (g := gb143) (o := .cells #[.slice A0_0 l0_0.length c0_0, .slice A0_1 l0_1.length c0_1, .slice A0_2 l0_2.length c0_2] 32 (0, 0)) (have z0_ := BK143; Ze) hb); have n1_ := Aside0.mk (below_step (have z0_ := GE143; Zf) hb); clear BK143; clear HB; have BK143 := n0_; have HB := n1_; clear n0_ n1_; (try clear hb); (try clear hb2); (try clear hk); (try clear hi)))
    go_meet
    case rel => exact ⟨_, (true), Za, H', ⟨Zm⟩, ⟨(have z0_ := BK143; Ze)⟩, ⟨(have z0_ := GE143; Zf)⟩⟩
  ·replace c5 := Bool.eq_false_iff.mpr c5
   subst c5
   have H1 : (spec_IsShow.j0 k true l0_0 l0_1 l0_2) = some r := by rw [if_neg (show ¬ (false = true) by decide)] at H; exact H
   clear H
   have H := H1
   clear H1
   have H' := Aside0.mk H
   clear H
   obtain ⟨hcz13_0, hcz13_1, hcz13_2, hfz13_0, hfz13_1, hfz13_2⟩ := cz3 BK143
   go_wp2_with (first | ((with_reducible refine gate_callee (f := 91) rfl ?_); refine goesL_ (some 7) rfl rfl Try.func91 Zj rfl #[.slice A0_0 l0_0.length c0_0] rfl Zo ?_; (with_reducible refine (spec_IsScore.calls k _ _ l0_0 false _ ?side1 ?side2 A4.out).mono ?_); (case side1 => repeat (first | exact (Kd.C_below HR0_0.out HB.out) | (with_reducible refine Kd.C_alloc ?_ _) | (with_reducible refine Kd.C_drewN ?_ _) | (with_reducible refine Kd.C_drew ?_))); (case side2 => exact HC0_0.out); rintro e w' ⟨rfl, ⟨nd, rfl⟩⟩; refine ⟨_, rfl, ?_⟩))
   go_meet
   case rel => exact ⟨_, (true), Za, H', ⟨Zm⟩, ⟨(have z0_ := BK143; Ze)⟩, ⟨(have z0_ := GE143; Zf)⟩⟩
 case rest =>
  clear HC2
  try clear p2
  try clear c3
  try clear c5
  try clear c7
  try clear c9
  try clear hcz10_0
  try clear hcz10_1
  try clear hcz10_2
  try clear hcz11_0
  try clear hcz11_1
  try clear hcz11_2
  try clear hcz13_0
  try clear hcz13_1
  try clear hcz13_2
  try clear hcz8_0
  try clear hcz8_1
  try clear hcz8_2
  try clear hfz10_0
  try clear hfz10_1
  try clear hfz10_2
  try clear hfz11_0
  try clear hfz11_1
  try clear hfz11_2
  try clear hfz13_0
  try clear hfz13_1
  try clear hfz13_2
  try clear hfz8_0
  try clear hfz8_1
  try clear hfz8_2
  obtain ⟨kq, x20_1, rfl, HA, HJ1, BK143, HB⟩ := hcut
  cases kq with
  | zero => exact absurd HA.out (by simp [spec_IsShow.j0])
  | succ kj1 =>
   have H := HA.out
   clear HA
   simp only [spec_IsShow.j0] at H
   by_cases c14 : x20_1 = true
   ·subst c14
    have H1 : (some false) = some r := by rw [if_pos rfl] at H; exact H
    clear H
    have H := H1
    clear H1
    obtain rfl := Option.some.inj H
    go_wp2
    go_ret
    exact ⟨Zk, (have z0_ := GE143; Zf)⟩
   ·replace c14 := Bool.eq_false_iff.mpr c14
    subst c14
    have H1 : (spec_IsShow.l0 kj1 0 l0_0 l0_1 l0_2) = some r := by rw [if_neg (show ¬ (false = true) by decide)] at H; exact H
    clear H
    have H := H1
    clear H1
    have H' := Aside0.mk H
    clear H
    go_wp2
    go_loopg [3] kj1 (fun kq v3 w' => ∃ (x3_2 : Int), v3 = .int .i64 x3_2 ∧ Aside0 (spec_IsShow.l0 kq x3_2 l0_0 l0_1 l0_2 = some r) ∧ Aside0 (kq ≤ kj1) ∧ Aside0 (w'.heap[gb143]? = some (.cells #[(.slice A0_0 l0_0.length c0_0), (.slice A0_1 l0_1.length c0_1), (.slice A0_2 l0_2.length c0_2)] 32 (0, 0))) ∧ Aside0 (Below w.heap.size w w'))
    case atStart => exact ⟨(0), Za, H', ⟨Nat.le_refl _⟩, ⟨(have z0_ := BK143; Ze)⟩, ⟨(have z0_ := GE143; Zf)⟩⟩
    case round =>
     clear H'
     try clear c1
     try clear p2
     try clear c3
     try clear c5
     try clear c7
     try clear c9
     try clear c14
     try clear hcz10_0
     try clear hcz10_1
     try clear hcz10_2
     try clear hcz11_0
     try clear hcz11_1
     try clear hcz11_2
     try clear hcz13_0
     try clear hcz13_1
     try clear hcz13_2
     try clear hcz8_0
     try clear hcz8_1
     try clear hcz8_2
     try clear hfz10_0
     try clear hfz10_1
     try clear hfz10_2
     try clear hfz11_0
     try clear hfz11_1
     try clear hfz11_2
     try clear hfz13_0
     try clear hfz13_1
     try clear hfz13_2
     try clear hfz8_0
     try clear hfz8_1
     try clear hfz8_2
     try clear p2
     obtain ⟨x3_2, rfl, HA, HK2, BK143, HB⟩ := hrel
     cases gk with
     | zero => exact absurd HA.out (by simp [spec_IsShow.l0])
     | succ k2 =>
      have H := HA.out
      clear HA
      simp only [spec_IsShow.l0] at H
      by_cases c15 : x3_2 < (l0_2.length : Int)
      ·rw [if_pos c15] at H
       have c15b0 : decide (x3_2 < (l0_2.length : Int)) = true := decide_eq_true c15
       clear c15
       by_cases c16 : 0 ≤ x3_2
       ·rw [if_pos c16] at H
        have c16b0 : decide (0 ≤ x3_2) = true := decide_eq_true c16
        clear c16
        replace H := Option.bind_eq_some_iff.mp H
        obtain ⟨t148, A170, H⟩ := H
        replace H : (if t148 = true then ((spec_l03Find.f k2 l0_1 ((rd_T43 l0_2 x3_2).f2)).bind fun t149 => (if t149 < 0 then (some false) else ((spec_l01In.f ((rd_T43 l0_2 x3_2).f3) 0 11).bind fun t150 => (if t150 = true then ((spec_l08Time.f k2 l0_0 l0_1 l0_2 ((rd_T43 l0_2 x3_2).f0) ((rd_T43 l0_2 x3_2).f1) ((rd_T43 l0_2 x3_2).f2) ((rd_T43 l0_2 x3_2).f3)).bind fun t151 => (if t151 < 0 then (some false) else (spec_IsShow.l0 k2 (wrap64 (x3_2 + 1)) l0_0 l0_1 l0_2))) else (some false))))) else (some false)) = some r := H
        have A17 := Aside0.mk A170
        clear A170
        by_cases c18 : t148 = true
        ·subst c18
         have H1 : ((spec_l03Find.f k2 l0_1 ((rd_T43 l0_2 x3_2).f2)).bind fun t149 => (if t149 < 0 then (some false) else ((spec_l01In.f ((rd_T43 l0_2 x3_2).f3) 0 11).bind fun t150 => (if t150 = true then ((spec_l08Time.f k2 l0_0 l0_1 l0_2 ((rd_T43 l0_2 x3_2).f0) ((rd_T43 l0_2 x3_2).f1) ((rd_T43 l0_2 x3_2).f2) ((rd_T43 l0_2 x3_2).f3)).bind fun t151 => (if t151 < 0 then (some false) else (spec_IsShow.l0 k2 (wrap64 (x3_2 + 1)) l0_0 l0_1 l0_2))) else (some false))))) = some r := by rw [if_pos rfl] at H; exact H
         clear H
         have H := H1
         clear H1
         replace H := Option.bind_eq_some_iff.mp H
         obtain ⟨t149, A190, H⟩ := H
         replace H : (if t149 < 0 then (some false) else ((spec_l01In.f ((rd_T43 l0_2 x3_2).f3) 0 11).bind fun t150 => (if t150 = true then ((spec_l08Time.f k2 l0_0 l0_1 l0_2 ((rd_T43 l0_2 x3_2).f0) ((rd_T43 l0_2 x3_2).f1) ((rd_T43 l0_2 x3_2).f2) ((rd_T43 l0_2 x3_2).f3)).bind fun t151 => (if t151 < 0 then (some false) else (spec_IsShow.l0 k2 (wrap64 (x3_2 + 1)) l0_0 l0_1 l0_2))) else (some false)))) = some r := H
         have A19 := Aside0.mk A190
         clear A190
         by_cases c20 : t149 < 0
         ·rw [if_pos c20] at H
          have c20b0 : decide (t149 < 0) = true := decide_eq_true c20
          clear c20
          obtain rfl := Option.some.inj H
          obtain ⟨hcz21_0, hcz21_1, hcz21_2, hfz21_0, hfz21_1, hfz21_2⟩ := cz3 BK143
          have p146 : 0 ≤ (x3_2 : Int) := of_decide_eq_true Zp
          have q146 : x3_2 < (l0_2.length : Int) := of_decide_eq_true Zp
          obtain ⟨ad146, e146, hx146_0, hx146_1, hx146_2, hx146_3⟩ := at_T43 HR0_2.out x3_2 p146 q146
          cases e146
          replace hx146_0 := cbH HB hx146_0
          replace hx146_1 := cbH HB hx146_1
          replace hx146_2 := cbH HB hx146_2
          replace hx146_3 := cbH HB hx146_3
          replace p146 := eq_true p146
          replace q146 := eq_true q146
          go_wp2_with (first | ((with_reducible refine gate_dst (N := 4) rfl ?_); (try (refine gate_guard (by rfl) ?_; dsimp only)); refine box_event ?hg (N := 4) ?hd (cs := #[.int .i64 0, .int .i64 0, .string (⟨#[]⟩ : ByteArray), .int .i64 0]) (t := 43) ?hr ?_; (case hd => rfl); (case hg => rfl); (case hr => first | (go_simp; done) | (go_simp; rfl)); intro gb147 hg w22 hbox hb; have n0_ := Aside0.mk (blk_below (g := gb143) (o := .cells #[.slice A0_0 l0_0.length c0_0, .slice A0_1 l0_1.length c0_1, .slice (some ad146) l0_2.length c0_2] 32 (0, 0)) (have z0_ := BK143; Ze) hb); have n1_ := Aside0.mk (below_step (have z0_ := GE143; Zf) hb); have n2_ := Aside0.mk (hbox); have n3_ := Aside0.mk (((have z0_ := GE143; Zg) : w.heap.size ≤ gb147)); have n4_ := Aside0.mk (((have z0_ := GE143; Zg) : w.heap.size ≤ gb147)); have n5_ := Aside0.mk (((have z0_ := BK143; Zam) : gb143 ≠ gb147)); have n6_ := Aside0.mk (((have z0_ := BK143; Zan) : gb147 ≠ gb143)); clear BK143; clear HB; have BK143 := n0_; have HB := n1_; have BK147 := n2_; have GW147 := n3_; have GE147 := n4_; have NB143_147 := n5_; have NB147_143 := n6_; clear n0_ n1_ n2_ n3_ n4_ n5_ n6_; clear hb hbox hg; have hnb23 := NB147_143.out; have hnc23 := NB143_147.out; obtain ⟨hcz24_0, hcz24_1, hcz24_2, hcz24_3, hfz24_0, hfz24_1, hfz24_2, hfz24_3⟩ := cz4 BK147; obtain ⟨hcz25_0, hcz25_1, hcz25_2, hfz25_0, hfz25_1, hfz25_2⟩ := cz3 BK143) | ((with_reducible refine gate_callee (f := 93) rfl ?_); refine goesL_ (some 39) rfl rfl Try.func93 Zj rfl #[.slice A0_0 l0_0.length c0_0, .int .i64 ((rd_T43 l0_2 x3_2).f0), .int .i64 ((rd_T43 l0_2 x3_2).f1)] rfl Zo ?_; (with_reducible refine (spec_l07Has.calls _ _ l0_0 ((rd_T43 l0_2 x3_2).f0) ((rd_T43 l0_2 x3_2).f1) true _ ?side1 ?side2 A17.out).mono ?_); (case side1 => exact Kd.C_below HR0_0.out (have z0_ := GE143; have z1_ := GE147; Zh)); (case side2 => exact HC0_0.out); rintro e w' ⟨rfl, ⟨nd, rfl⟩⟩; refine ⟨_, rfl, ?_⟩) | (go_at_call 94; (with_reducible refine (spec_l03Find.calls k2 _ _ l0_1 ((rd_T43 l0_2 x3_2).f2) t149 _ ?side1 ?side2 A19.out).mono ?_); (case side1 => exact Kd.C_below HR0_1.out (have z0_ := GE143; have z1_ := GE147; Zh)); (case side2 => exact HC0_1.out); rintro e w' ⟨rfl, ⟨nd, rfl⟩⟩))
          go_ret
          exact ⟨Zk, (have z0_ := GE143; have z1_ := GE147; Zh)⟩
         ·rw [if_neg c20] at H
          have c20b0 : decide (t149 < 0) = false := decide_eq_false c20
          clear c20
          replace H := Option.bind_eq_some_iff.mp H
          obtain ⟨t150, A260, H⟩ := H
          replace H : (if t150 = true then ((spec_l08Time.f k2 l0_0 l0_1 l0_2 ((rd_T43 l0_2 x3_2).f0) ((rd_T43 l0_2 x3_2).f1) ((rd_T43 l0_2 x3_2).f2) ((rd_T43 l0_2 x3_2).f3)).bind fun t151 => (if t151 < 0 then (some false) else (spec_IsShow.l0 k2 (wrap64 (x3_2 + 1)) l0_0 l0_1 l0_2))) else (some false)) = some r := H
          have A26 := Aside0.mk A260
          clear A260
          by_cases c27 : t150 = true
          ·subst c27
           have H1 : ((spec_l08Time.f k2 l0_0 l0_1 l0_2 ((rd_T43 l0_2 x3_2).f0) ((rd_T43 l0_2 x3_2).f1) ((rd_T43 l0_2 x3_2).f2) ((rd_T43 l0_2 x3_2).f3)).bind fun t151 => (if t151 < 0 then (some false) else (spec_IsShow.l0 k2 (wrap64 (x3_2 + 1)) l0_0 l0_1 l0_2))) = some r := by rw [if_pos rfl] at H; exact H
           clear H
           have H := H1
           clear H1
           replace H := Option.bind_eq_some_iff.mp H
           obtain ⟨t151, A280, H⟩ := H
           replace H : (if t151 < 0 then (some false) else (spec_IsShow.l0 k2 (wrap64 (x3_2 + 1)) l0_0 l0_1 l0_2)) = some r := H
           have A28 := Aside0.mk A280
           clear A280
           by_cases c29 : t151 < 0
           ·rw [if_pos c29] at H
            have c29b0 : decide (t151 < 0) = true := decide_eq_true c29
            clear c29
            obtain rfl := Option.some.inj H
            obtain ⟨hcz30_0, hcz30_1, hcz30_2, hfz30_0, hfz30_1, hfz30_2⟩ := cz3 BK143
            have p146 : 0 ≤ (x3_2 : Int) := of_decide_eq_true Zp
            have q146 : x3_2 < (l0_2.length : Int) := of_decide_eq_true Zp
            obtain ⟨ad146, e146, hx146_0, hx146_1, hx146_2, hx146_3⟩ := at_T43 HR0_2.out x3_2 p146 q146
            cases e146
            replace hx146_0 := cbH HB hx146_0
            replace hx146_1 := cbH HB hx146_1
            replace hx146_2 := cbH HB hx146_2
            replace hx146_3 := cbH HB hx146_3
            replace p146 := eq_true p146
            replace q146 := eq_true q146
            go_wp2_with (first | ((with_reducible refine gate_dst (N := 4) rfl ?_); (try (refine gate_guard (by rfl) ?_; dsimp only)); refine box_event ?hg (N := 4) ?hd (cs := #[.int .i64 0, .int .i64 0, .string (⟨#[]⟩ : ByteArray), .int .i64 0]) (t := 43) ?hr ?_; (case hd => rfl); (case hg => rfl); (case hr => first | (go_simp; done) | (go_simp; rfl)); intro gb147 hg w31 hbox hb; have n0_ := Aside0.mk (blk_below (g := gb143) (o := .cells #[.slice A0_0 l0_0.length c0_0, .slice A0_1 l0_1.length c0_1, .slice (some ad146) l0_2.length c0_2] 32 (0, 0)) (have z0_ := BK143; Ze) hb); have n1_ := Aside0.mk (below_step (have z0_ := GE143; Zf) hb); have n2_ := Aside0.mk (hbox); have n3_ := Aside0.mk (((have z0_ := GE143; Zg) : w.heap.size ≤ gb147)); have n4_ := Aside0.mk (((have z0_ := GE143; Zg) : w.heap.size ≤ gb147)); have n5_ := Aside0.mk (((have z0_ := BK143; Zam) : gb143 ≠ gb147)); have n6_ := Aside0.mk (((have z0_ := BK143; Zan) : gb147 ≠ gb143)); clear BK143; clear HB; have BK143 := n0_; have HB := n1_; have BK147 := n2_; have GW147 := n3_; have GE147 := n4_; have NB143_147 := n5_; have NB147_143 := n6_; clear n0_ n1_ n2_ n3_ n4_ n5_ n6_; clear hb hbox hg; have hnb32 := NB147_143.out; have hnc32 := NB143_147.out; obtain ⟨hcz33_0, hcz33_1, hcz33_2, hcz33_3, hfz33_0, hfz33_1, hfz33_2, hfz33_3⟩ := cz4 BK147; obtain ⟨hcz34_0, hcz34_1, hcz34_2, hfz34_0, hfz34_1, hfz34_2⟩ := cz3 BK143) | ((with_reducible refine gate_callee (f := 93) rfl ?_); refine goesL_ (some 39) rfl rfl Try.func93 Zj rfl #[.slice A0_0 l0_0.length c0_0, .int .i64 ((rd_T43 l0_2 x3_2).f0), .int .i64 ((rd_T43 l0_2 x3_2).f1)] rfl Zo ?_; (with_reducible refine (spec_l07Has.calls _ _ l0_0 ((rd_T43 l0_2 x3_2).f0) ((rd_T43 l0_2 x3_2).f1) true _ ?side1 ?side2 A17.out).mono ?_); (case side1 => exact Kd.C_below HR0_0.out (have z0_ := GE143; have z1_ := GE147; Zh)); (case side2 => exact HC0_0.out); rintro e w' ⟨rfl, ⟨nd, rfl⟩⟩; refine ⟨_, rfl, ?_⟩) | (go_at_call 94; (with_reducible refine (spec_l03Find.calls k2 _ _ l0_1 ((rd_T43 l0_2 x3_2).f2) t149 _ ?side1 ?side2 A19.out).mono ?_); (case side1 => exact Kd.C_below HR0_1.out (have z0_ := GE143; have z1_ := GE147; Zh)); (case side2 => exact HC0_1.out); rintro e w' ⟨rfl, ⟨nd, rfl⟩⟩) | (go_at_call 68; (with_reducible refine (spec_l01In.calls ((rd_T43 l0_2 x3_2).f3) 0 11 true _ A26.out).mono ?_); rintro e w' ⟨rfl, ⟨nd, rfl⟩⟩) | (go_at_call 95; (with_reducible refine (spec_l08Time.calls k2 _ _ l0_0 _ _ l0_1 _ _ l0_2 ((rd_T43 l0_2 x3_2).f0) ((rd_T43 l0_2 x3_2).f1) ((rd_T43 l0_2 x3_2).f2) ((rd_T43 l0_2 x3_2).f3) t151 _ ?side1 ?side2 ?side3 ?side4 ?side5 ?side6 A28.out).mono ?_); (case side1 => exact Kd.C_below HR0_0.out (have z0_ := GE143; have z1_ := GE147; Zh)); (case side2 => exact HC0_0.out); (case side3 => exact Kd.C_below HR0_1.out (have z0_ := GE143; have z1_ := GE147; Zh)); (case side4 => exact HC0_1.out); (case side5 => exact Kd.C_below HR0_2.out (have z0_ := GE143; have z1_ := GE147; Zh)); (case side6 => exact HC0_2.out); rintro e w35 ⟨rfl, hb⟩; have n0_ := Aside0.mk (blk_below (g := gb143) (o := .cells #[.slice A0_0 l0_0.length c0_0, .slice A0_1 l0_1.length c0_1, .slice (some ad146) l0_2.length c0_2] 32 (0, 0)) (have z0_ := NB143_147; have z1_ := BK143; Zao) hb); have n1_ := Aside0.mk (blk_below (g := gb147) (o := .cells #[.int .i64 ((rd_T43 l0_2 x3_2).f0), .int .i64 ((rd_T43 l0_2 x3_2).f1), .string ((rd_T43 l0_2 x3_2).f2), .int .i64 ((rd_T43 l0_2 x3_2).f3)] 43 (0, 0)) (have z0_ := BK147; Zap) hb); have n2_ := Aside0.mk (below_step (have z0_ := GE143; have z1_ := GE147; Zh) hb); clear BK143; clear BK147; clear HB; have BK143 := n0_; have BK147 := n1_; have HB := n2_; clear n0_ n1_ n2_; (try clear hb); (try clear hb2); (try clear hk); (try clear hi)))
            go_ret
            exact ⟨Zk, (have z0_ := GE143; have z1_ := GE147; Zh)⟩
           ·rw [if_neg c29] at H
            have c29b0 : decide (t151 < 0) = false := decide_eq_false c29
            clear c29
            have H' := Aside0.mk H
            clear H
            obtain ⟨hcz36_0, hcz36_1, hcz36_2, hfz36_0, hfz36_1, hfz36_2⟩ := cz3 BK143
            have p146 : 0 ≤ (x3_2 : Int) := of_decide_eq_true Zp
            have q146 : x3_2 < (l0_2.length : Int) := of_decide_eq_true Zp
            obtain ⟨ad146, e146, hx146_0, hx146_1, hx146_2, hx146_3⟩ := at_T43 HR0_2.out x3_2 p146 q146
            cases e146
            replace hx146_0 := cbH HB hx146_0
            replace hx146_1 := cbH HB hx146_1
            replace hx146_2 := cbH HB hx146_2
            replace hx146_3 := cbH HB hx146_3
            replace p146 := eq_true p146
            replace q146 := eq_true q146
            go_wp2_with (first | ((with_reducible refine gate_dst (N := 4) rfl ?_); (try (refine gate_guard (by rfl) ?_; dsimp only)); refine box_event ?hg (N := 4) ?hd (cs := #[.int .i64 0, .int .i64 0, .string (⟨#[]⟩ : ByteArray), .int .i64 0]) (t := 43) ?hr ?_; (case hd => rfl); (case hg => rfl); (case hr => first | (go_simp; done) | (go_simp; rfl)); intro gb147 hg w37 hbox hb; have n0_ := Aside0.mk (blk_below (g := gb143) (o := .cells #[.slice A0_0 l0_0.length c0_0, .slice A0_1 l0_1.length c0_1, .slice (some ad146) l0_2.length c0_2] 32 (0, 0)) (have z0_ := BK143; Ze) hb); have n1_ := Aside0.mk (below_step (have z0_ := GE143; Zf) hb); have n2_ := Aside0.mk (hbox); have n3_ := Aside0.mk (((have z0_ := GE143; Zg) : w.heap.size ≤ gb147)); have n4_ := Aside0.mk (((have z0_ := GE143; Zg) : w.heap.size ≤ gb147)); have n5_ := Aside0.mk (((have z0_ := BK143; Zam) : gb143 ≠ gb147)); have n6_ := Aside0.mk (((have z0_ := BK143; Zan) : gb147 ≠ gb143)); clear BK143; clear HB; have BK143 := n0_; have HB := n1_; have BK147 := n2_; have GW147 := n3_; have GE147 := n4_; have NB143_147 := n5_; have NB147_143 := n6_; clear n0_ n1_ n2_ n3_ n4_ n5_ n6_; clear hb hbox hg; have hnb38 := NB147_143.out; have hnc38 := NB143_147.out; obtain ⟨hcz39_0, hcz39_1, hcz39_2, hcz39_3, hfz39_0, hfz39_1, hfz39_2, hfz39_3⟩ := cz4 BK147; obtain ⟨hcz40_0, hcz40_1, hcz40_2, hfz40_0, hfz40_1, hfz40_2⟩ := cz3 BK143) | ((with_reducible refine gate_callee (f := 93) rfl ?_); refine goesL_ (some 39) rfl rfl Try.func93 Zj rfl #[.slice A0_0 l0_0.length c0_0, .int .i64 ((rd_T43 l0_2 x3_2).f0), .int .i64 ((rd_T43 l0_2 x3_2).f1)] rfl Zo ?_; (with_reducible refine (spec_l07Has.calls _ _ l0_0 ((rd_T43 l0_2 x3_2).f0) ((rd_T43 l0_2 x3_2).f1) true _ ?side1 ?side2 A17.out).mono ?_); (case side1 => exact Kd.C_below HR0_0.out (have z0_ := GE143; have z1_ := GE147; Zh)); (case side2 => exact HC0_0.out); rintro e w' ⟨rfl, ⟨nd, rfl⟩⟩; refine ⟨_, rfl, ?_⟩) | (go_at_call 94; (with_reducible refine (spec_l03Find.calls k2 _ _ l0_1 ((rd_T43 l0_2 x3_2).f2) t149 _ ?side1 ?side2 A19.out).mono ?_); (case side1 => exact Kd.C_below HR0_1.out (have z0_ := GE143; have z1_ := GE147; Zh)); (case side2 => exact HC0_1.out); rintro e w' ⟨rfl, ⟨nd, rfl⟩⟩) | (go_at_call 68; (with_reducible refine (spec_l01In.calls ((rd_T43 l0_2 x3_2).f3) 0 11 true _ A26.out).mono ?_); rintro e w' ⟨rfl, ⟨nd, rfl⟩⟩) | (go_at_call 95; (with_reducible refine (spec_l08Time.calls k2 _ _ l0_0 _ _ l0_1 _ _ l0_2 ((rd_T43 l0_2 x3_2).f0) ((rd_T43 l0_2 x3_2).f1) ((rd_T43 l0_2 x3_2).f2) ((rd_T43 l0_2 x3_2).f3) t151 _ ?side1 ?side2 ?side3 ?side4 ?side5 ?side6 A28.out).mono ?_); (case side1 => exact Kd.C_below HR0_0.out (have z0_ := GE143; have z1_ := GE147; Zh)); (case side2 => exact HC0_0.out); (case side3 => exact Kd.C_below HR0_1.out (have z0_ := GE143; have z1_ := GE147; Zh)); (case side4 => exact HC0_1.out); (case side5 => exact Kd.C_below HR0_2.out (have z0_ := GE143; have z1_ := GE147; Zh)); (case side6 => exact HC0_2.out); rintro e w41 ⟨rfl, hb⟩; have n0_ := Aside0.mk (blk_below (g := gb143) (o := .cells #[.slice A0_0 l0_0.length c0_0, .slice A0_1 l0_1.length c0_1, .slice (some ad146) l0_2.length c0_2] 32 (0, 0)) (have z0_ := NB143_147; have z1_ := BK143; Zao) hb); have n1_ := Aside0.mk (blk_below (g := gb147) (o := .cells #[.int .i64 ((rd_T43 l0_2 x3_2).f0), .int .i64 ((rd_T43 l0_2 x3_2).f1), .string ((rd_T43 l0_2 x3_2).f2), .int .i64 ((rd_T43 l0_2 x3_2).f3)] 43 (0, 0)) (have z0_ := BK147; Zap) hb); have n2_ := Aside0.mk (below_step (have z0_ := GE143; have z1_ := GE147; Zh) hb); clear BK143; clear BK147; clear HB; have BK143 := n0_; have BK147 := n1_; have HB := n2_; clear n0_ n1_ n2_; (try clear hb); (try clear hb2); (try clear hk); (try clear hi)))
            go_roundg k2
            case measure => have := HJ1.out; have := HK2.out; omega
            case rel => exact ⟨(wrap64 (x3_2 + 1)), Za, H', ⟨by have := HJ1.out; have := HK2.out; omega⟩, ⟨(have z0_ := BK143; Ze)⟩, ⟨(have z0_ := GE143; have z1_ := GE147; Zh)⟩⟩
          ·replace c27 := Bool.eq_false_iff.mpr c27
           subst c27
           have H1 : (some false) = some r := by rw [if_neg (show ¬ (false = true) by decide)] at H; exact H
           clear H
           have H := H1
           clear H1
           obtain rfl := Option.some.inj H
           obtain ⟨hcz42_0, hcz42_1, hcz42_2, hfz42_0, hfz42_1, hfz42_2⟩ := cz3 BK143
           have p146 : 0 ≤ (x3_2 : Int) := of_decide_eq_true Zp
           have q146 : x3_2 < (l0_2.length : Int) := of_decide_eq_true Zp
           obtain ⟨ad146, e146, hx146_0, hx146_1, hx146_2, hx146_3⟩ := at_T43 HR0_2.out x3_2 p146 q146
           cases e146
           replace hx146_0 := cbH HB hx146_0
           replace hx146_1 := cbH HB hx146_1
           replace hx146_2 := cbH HB hx146_2
           replace hx146_3 := cbH HB hx146_3
           replace p146 := eq_true p146
           replace q146 := eq_true q146
           go_wp2_with (first | ((with_reducible refine gate_dst (N := 4) rfl ?_); (try (refine gate_guard (by rfl) ?_; dsimp only)); refine box_event ?hg (N := 4) ?hd (cs := #[.int .i64 0, .int .i64 0, .string (⟨#[]⟩ : ByteArray), .int .i64 0]) (t := 43) ?hr ?_; (case hd => rfl); (case hg => rfl); (case hr => first | (go_simp; done) | (go_simp; rfl)); intro gb147 hg w43 hbox hb; have n0_ := Aside0.mk (blk_below (g := gb143) (o := .cells #[.slice A0_0 l0_0.length c0_0, .slice A0_1 l0_1.length c0_1, .slice (some ad146) l0_2.length c0_2] 32 (0, 0)) (have z0_ := BK143; Ze) hb); have n1_ := Aside0.mk (below_step (have z0_ := GE143; Zf) hb); have n2_ := Aside0.mk (hbox); have n3_ := Aside0.mk (((have z0_ := GE143; Zg) : w.heap.size ≤ gb147)); have n4_ := Aside0.mk (((have z0_ := GE143; Zg) : w.heap.size ≤ gb147)); have n5_ := Aside0.mk (((have z0_ := BK143; Zam) : gb143 ≠ gb147)); have n6_ := Aside0.mk (((have z0_ := BK143; Zan) : gb147 ≠ gb143)); clear BK143; clear HB; have BK143 := n0_; have HB := n1_; have BK147 := n2_; have GW147 := n3_; have GE147 := n4_; have NB143_147 := n5_; have NB147_143 := n6_; clear n0_ n1_ n2_ n3_ n4_ n5_ n6_; clear hb hbox hg; have hnb44 := NB147_143.out; have hnc44 := NB143_147.out; obtain ⟨hcz45_0, hcz45_1, hcz45_2, hcz45_3, hfz45_0, hfz45_1, hfz45_2, hfz45_3⟩ := cz4 BK147; obtain ⟨hcz46_0, hcz46_1, hcz46_2, hfz46_0, hfz46_1, hfz46_2⟩ := cz3 BK143) | ((with_reducible refine gate_callee (f := 93) rfl ?_); refine goesL_ (some 39) rfl rfl Try.func93 Zj rfl #[.slice A0_0 l0_0.length c0_0, .int .i64 ((rd_T43 l0_2 x3_2).f0), .int .i64 ((rd_T43 l0_2 x3_2).f1)] rfl Zo ?_; (with_reducible refine (spec_l07Has.calls _ _ l0_0 ((rd_T43 l0_2 x3_2).f0) ((rd_T43 l0_2 x3_2).f1) true _ ?side1 ?side2 A17.out).mono ?_); (case side1 => exact Kd.C_below HR0_0.out (have z0_ := GE143; have z1_ := GE147; Zh)); (case side2 => exact HC0_0.out); rintro e w' ⟨rfl, ⟨nd, rfl⟩⟩; refine ⟨_, rfl, ?_⟩) | (go_at_call 94; (with_reducible refine (spec_l03Find.calls k2 _ _ l0_1 ((rd_T43 l0_2 x3_2).f2) t149 _ ?side1 ?side2 A19.out).mono ?_); (case side1 => exact Kd.C_below HR0_1.out (have z0_ := GE143; have z1_ := GE147; Zh)); (case side2 => exact HC0_1.out); rintro e w' ⟨rfl, ⟨nd, rfl⟩⟩) | (go_at_call 68; (with_reducible refine (spec_l01In.calls ((rd_T43 l0_2 x3_2).f3) 0 11 false _ A26.out).mono ?_); rintro e w' ⟨rfl, ⟨nd, rfl⟩⟩))
           go_ret
           exact ⟨Zk, (have z0_ := GE143; have z1_ := GE147; Zh)⟩
        ·replace c18 := Bool.eq_false_iff.mpr c18
         subst c18
         have H1 : (some false) = some r := by rw [if_neg (show ¬ (false = true) by decide)] at H; exact H
         clear H
         have H := H1
         clear H1
         obtain rfl := Option.some.inj H
         obtain ⟨hcz47_0, hcz47_1, hcz47_2, hfz47_0, hfz47_1, hfz47_2⟩ := cz3 BK143
         have p146 : 0 ≤ (x3_2 : Int) := of_decide_eq_true Zp
         have q146 : x3_2 < (l0_2.length : Int) := of_decide_eq_true Zp
         obtain ⟨ad146, e146, hx146_0, hx146_1, hx146_2, hx146_3⟩ := at_T43 HR0_2.out x3_2 p146 q146
         cases e146
         replace hx146_0 := cbH HB hx146_0
         replace hx146_1 := cbH HB hx146_1
         replace hx146_2 := cbH HB hx146_2
         replace hx146_3 := cbH HB hx146_3
         replace p146 := eq_true p146
         replace q146 := eq_true q146
         go_wp2_with (first | ((with_reducible refine gate_dst (N := 4) rfl ?_); (try (refine gate_guard (by rfl) ?_; dsimp only)); refine box_event ?hg (N := 4) ?hd (cs := #[.int .i64 0, .int .i64 0, .string (⟨#[]⟩ : ByteArray), .int .i64 0]) (t := 43) ?hr ?_; (case hd => rfl); (case hg => rfl); (case hr => first | (go_simp; done) | (go_simp; rfl)); intro gb147 hg w48 hbox hb; have n0_ := Aside0.mk (blk_below (g := gb143) (o := .cells #[.slice A0_0 l0_0.length c0_0, .slice A0_1 l0_1.length c0_1, .slice (some ad146) l0_2.length c0_2] 32 (0, 0)) (have z0_ := BK143; Ze) hb); have n1_ := Aside0.mk (below_step (have z0_ := GE143; Zf) hb); have n2_ := Aside0.mk (hbox); have n3_ := Aside0.mk (((have z0_ := GE143; Zg) : w.heap.size ≤ gb147)); have n4_ := Aside0.mk (((have z0_ := GE143; Zg) : w.heap.size ≤ gb147)); have n5_ := Aside0.mk (((have z0_ := BK143; Zam) : gb143 ≠ gb147)); have n6_ := Aside0.mk (((have z0_ := BK143; Zan) : gb147 ≠ gb143)); clear BK143; clear HB; have BK143 := n0_; have HB := n1_; have BK147 := n2_; have GW147 := n3_; have GE147 := n4_; have NB143_147 := n5_; have NB147_143 := n6_; clear n0_ n1_ n2_ n3_ n4_ n5_ n6_; clear hb hbox hg; have hnb49 := NB147_143.out; have hnc49 := NB143_147.out; obtain ⟨hcz50_0, hcz50_1, hcz50_2, hcz50_3, hfz50_0, hfz50_1, hfz50_2, hfz50_3⟩ := cz4 BK147; obtain ⟨hcz51_0, hcz51_1, hcz51_2, hfz51_0, hfz51_1, hfz51_2⟩ := cz3 BK143) | ((with_reducible refine gate_callee (f := 93) rfl ?_); refine goesL_ (some 39) rfl rfl Try.func93 Zj rfl #[.slice A0_0 l0_0.length c0_0, .int .i64 ((rd_T43 l0_2 x3_2).f0), .int .i64 ((rd_T43 l0_2 x3_2).f1)] rfl Zo ?_; (with_reducible refine (spec_l07Has.calls _ _ l0_0 ((rd_T43 l0_2 x3_2).f0) ((rd_T43 l0_2 x3_2).f1) false _ ?side1 ?side2 A17.out).mono ?_); (case side1 => exact Kd.C_below HR0_0.out (have z0_ := GE143; have z1_ := GE147; Zh)); (case side2 => exact HC0_0.out); rintro e w' ⟨rfl, ⟨nd, rfl⟩⟩; refine ⟨_, rfl, ?_⟩))
         go_ret
         exact ⟨Zk, (have z0_ := GE143; have z1_ := GE147; Zh)⟩
       ·rw [if_neg c16] at H
        exact absurd H (by simp)
      ·rw [if_neg c15] at H
       have c15b0 : decide (x3_2 < (l0_2.length : Int)) = false := decide_eq_false c15
       clear c15
       obtain rfl := Option.some.inj H
       obtain ⟨hcz52_0, hcz52_1, hcz52_2, hfz52_0, hfz52_1, hfz52_2⟩ := cz3 BK143
       go_wp2
       go_ret
       exact ⟨Zk, (have z0_ := GE143; Zf)⟩
end Go.Proofs.Ytnlbaflbhicooaa.F
namespace Go.Proofs.Ytnlbaflbhicooaa.F
open Go.RowKit Go.Proofs.YtnlbaflbhicooaaW.PrintWords Go.Proofs.YtnlbaflbhicooaaW.PrintLast Go.Proofs.YtnlbaflbhicooaaW.PrintMore
attribute [local go_sem] max2_int min2_int max_two min_two max_three min_three max_four min_four   -- for this text's walks alone
set_option linter.unusedVariables false
set_option linter.unusedSimpArgs false
def spec_l03Window.f (a0_0 : ByteArray) (a0_1 : Int) (a0_2 : Int) (a0_3 : Int) (a0_4 : Int) (a0_5 : Int) (a0_6 : Int) (a0_7 : Int) (a0_8 : Int) (a1 : Int) (a2 : Int) : Option (List Int) := some (([wrap64 ((wrap64 ((wrap64 (a1 + a0_3)) + (wrap64 (a2 * a0_6)))) - a0_4), wrap64 ((wrap64 ((wrap64 (a1 + a0_3)) + (wrap64 (a2 * a0_6)))) + a0_4)] : List Int))
set_option maxHeartbeats 8000000 in
set_option maxRecDepth 100000 in
theorem spec_l03Window.calls (a0_0 : ByteArray) (a0_1 : Int) (a0_2 : Int) (a0_3 : Int) (a0_4 : Int) (a0_5 : Int) (a0_6 : Int) (a0_7 : Int) (a0_8 : Int) (a1 : Int) (a2 : Int) (r : List Int) (w : World) (h : spec_l03Window.f a0_0 a0_1 a0_2 a0_3 a0_4 a0_5 a0_6 a0_7 a0_8 a1 a2 = some r) :
  Calls Try.prog 99 #[.agg #[.string a0_0, .int .i64 a0_1, .int .i64 a0_2, .int .i64 a0_3, .int .i64 a0_4, .int .i64 a0_5, .int .i64 a0_6, .int .i64 a0_7, .int .i64 a0_8], .int .i64 a1, .int .i64 a2] w fun e w' => ∃ v0_ : Value, e = .returned (v0_) ∧ Kd.R (Kd.int .i64) 2 w' w.heap.size (fun _ => True) v0_ r ∧ Below w.heap.size w w' := by
 have hu92 := Try.underlying92
 have HB := Aside0.mk (Below.refl w.heap.size w)
 have H : (some (([wrap64 ((wrap64 ((wrap64 (a1 + a0_3)) + (wrap64 (a2 * a0_6)))) - a0_4), wrap64 ((wrap64 ((wrap64 (a1 + a0_3)) + (wrap64 (a2 * a0_6)))) + a0_4)] : List Int))) = some r := h
 clear h
 obtain ⟨y710, hy710⟩ : ∃ y_ : List Int, y_ = (([wrap64 ((wrap64 ((wrap64 (a1 + a0_3)) + (wrap64 (a2 * a0_6)))) - a0_4), wrap64 ((wrap64 ((wrap64 (a1 + a0_3)) + (wrap64 (a2 * a0_6)))) + a0_4)] : List Int)) := ⟨_, rfl⟩
 replace H : (some y710) = some r := by first | (rw [hy710]; with_reducible exact H) | (have H2_ := (Option.bind_some _ _).symm.trans H; rw [hy710]; with_reducible exact H2_) | (have H2_ := (Option.bind_some _ _).symm.trans H; with_reducible exact H2_) | with_reducible exact H | (rw [hy710]; exact H) | exact H
 have Ny710 := Aside0.mk hy710
 clear hy710
 obtain rfl := Option.some.inj H
 go_enter Try.func99, Try.ntmps99
 go_wp2_with (first | ((with_reducible refine gate_dst (N := 3) rfl ?_); refine box_event ?hg (N := 3) ?hd (cs := #[.string a0_0, .int .i64 a0_1, .int .i64 a0_2, .int .i64 a0_3, .int .i64 a0_4, .int .i64 a0_5, .int .i64 a0_6, .int .i64 a0_7, .int .i64 a0_8]) (t := 92) ?hr ?_; (case hd => rfl); (case hg => rfl); (case hr => first | (go_simp; done) | (go_simp; rfl)); intro gb709 hg w4 hbox hb; have n0_ := Aside0.mk (below_step Zc hb); have n1_ := Aside0.mk (hbox); have n2_ := Aside0.mk ((Zd : w.heap.size ≤ gb709)); have n3_ := Aside0.mk ((Zd : w.heap.size ≤ gb709)); clear HB; have HB := n0_; have BK709 := n1_; have GW709 := n2_; have GE709 := n3_; clear n0_ n1_ n2_ n3_; clear hb hbox hg; obtain ⟨hcz5_0, hcz5_1, hcz5_2, hcz5_3, hcz5_4, hcz5_5, hcz5_6, hcz5_7, hcz5_8, hfz5_0, hfz5_1, hfz5_2, hfz5_3, hfz5_4, hfz5_5, hfz5_6, hfz5_7, hfz5_8⟩ := cz9 BK709) | ((with_reducible refine gate_dst (N := 25) rfl ?_); refine Kd.R_lit (Kd.int .i64) _ 2 ?hg (N := 25) ?hd (xs := ([wrap64 ((wrap64 ((wrap64 (a1 + a0_3)) + (wrap64 (a2 * a0_6)))) - a0_4), wrap64 ((wrap64 ((wrap64 (a1 + a0_3)) + (wrap64 (a2 * a0_6)))) + a0_4)] : List Int)) (inner := [.int .i64 (wrap64 ((wrap64 ((wrap64 (a1 + a0_3)) + (wrap64 (a2 * a0_6)))) - a0_4)), .int .i64 (wrap64 ((wrap64 ((wrap64 (a1 + a0_3)) + (wrap64 (a2 * a0_6)))) + a0_4))]) (ok := fun _ => True) (okp := fun _ => True) ?hr ?hp (fun _ hk => hk) trivial (Below.refl _ _) (Nat.le_refl _) (by simp) ?_; (case hd => rfl); (case hg => rfl); (case hr => first | (go_simp; done) | (go_simp; rfl)); (case hp => exact (Reps.one (show Kd.M (Kd.int .i64) _ _ _ (wrap64 ((wrap64 ((wrap64 (a1 + a0_3)) + (wrap64 (a2 * a0_6)))) - a0_4)) [.int .i64 (wrap64 ((wrap64 ((wrap64 (a1 + a0_3)) + (wrap64 (a2 * a0_6)))) - a0_4))] from rfl) (Reps.one (show Kd.M (Kd.int .i64) _ _ _ (wrap64 ((wrap64 ((wrap64 (a1 + a0_3)) + (wrap64 (a2 * a0_6)))) + a0_4)) [.int .i64 (wrap64 ((wrap64 ((wrap64 (a1 + a0_3)) + (wrap64 (a2 * a0_6)))) + a0_4))] from rfl) (Reps.none _ _)))); intro v711 w6 ho7 hb hg_ hnew_; clear hg_ hnew_; (first | rw [← Ny710.out] at ho7 | (simp only [Int.reduceToNat] at ho7; rw [← Ny710.out] at ho7)); have n0_ := Aside0.mk (Kd.R_lower ho7 (below_size (have z0_ := GE709; Zf))); have n1_ := Aside0.mk (blk_below (g := gb709) (o := .cells #[.string a0_0, .int .i64 a0_1, .int .i64 a0_2, .int .i64 a0_3, .int .i64 a0_4, .int .i64 a0_5, .int .i64 a0_6, .int .i64 a0_7, .int .i64 a0_8] 92 (0, 0)) (have z0_ := BK709; Ze) hb); have n2_ := Aside0.mk (below_step (have z0_ := GE709; Zf) hb); clear BK709; clear HB; have HO712 := n0_; have BK709 := n1_; have HB := n2_; clear n0_ n1_ n2_; clear hb ho7))
 go_ret
 exact ⟨_, Zk, (have z0_ := HO712; Zq), (have z0_ := GE709; Zf)⟩
end Go.Proofs.Ytnlbaflbhicooaa.F
namespace Go.Proofs.Ytnlbaflbhicooaa.F
open Go.RowKit Go.Proofs.YtnlbaflbhicooaaW.PrintWords Go.Proofs.YtnlbaflbhicooaaW.PrintLast Go.Proofs.YtnlbaflbhicooaaW.PrintMore
attribute [local go_sem] max2_int min2_int max_two min_two max_three min_three max_four min_four   -- for this text's walks alone
set_option linter.unusedVariables false
set_option linter.unusedSimpArgs false
def spec_ShowEnd.l0 : Nat → Int → Int → List (S108) → List (S92) → List (S43) → Option (Int × Int)
 | 0, _, _, _, _, _ => none
 | k + 1, x4, x5, x952000, x952001, x952002 => if x5 < (x952002.length : Int) then (if 0 ≤ x5 then ((spec_l03Find.f k x952001 ((rd_T43 x952002 x5).f2)).bind fun t954 => (if 0 ≤ t954 then (if t954 < (x952001.length : Int) then ((spec_l08Time.f k x952000 x952001 x952002 ((rd_T43 x952002 x5).f0) ((rd_T43 x952002 x5).f1) ((rd_T43 x952002 x5).f2) ((rd_T43 x952002 x5).f3)).bind fun t958 => ((spec_l03Window.f ((rd_T92 x952001 t954).f0) ((rd_T92 x952001 t954).f1) ((rd_T92 x952001 t954).f2) ((rd_T92 x952001 t954).f3) ((rd_T92 x952001 t954).f4) ((rd_T92 x952001 t954).f5) ((rd_T92 x952001 t954).f6) ((rd_T92 x952001 t954).f7) ((rd_T92 x952001 t954).f8) t958 (wrap64 (((rd_T92 x952001 t954).f5) - 1))).bind fun t959 => (if 1 < (t959.length : Int) then (spec_ShowEnd.l0 k (mx x4 (rd t959 1)) (wrap64 (x5 + 1)) x952000 x952001 x952002) else (none)))) else (none)) else (none))) else (none)) else (some (x4, 0))
def spec_ShowEnd.f (k : Nat) (l0_0 : List (S108)) (l0_1 : List (S92)) (l0_2 : List (S43)) : Option (Int × Int) := (spec_IsShow.f k l0_0 l0_1 l0_2).bind fun t952 => (if t952 = true then (spec_ShowEnd.l0 k 0 0 l0_0 l0_1 l0_2) else (some (0, 1)))
def spec_ShowEnd.T7 : Bool × List (List Nat × List Nat) := (true, [([], []), ([0], [0]), ([], []), ([2], [2]), ([], []), ([4], [4]), ([], []), ([5, 6], [5, 6]), ([7], [7]), ([8], [8]), ([3, 9], [3, 9]), ([1, 10], [1, 10]), ([11], [11]), ([], []), ([13, 12, 10, 0, 1, 2, 3, 4, 5, 6, 7, 8, 9, 10, 11, 12, 13], [12, 13])])
def spec_ShowEnd.B7 : List Nat := [0, 1, 0, 4, 0, 16, 0, 112, 240, 496, 1020, 2047, 4095, 0, 16383]
theorem spec_ShowEnd.tab7 : rtab .any (opsOf Try.f38 7) = spec_ShowEnd.T7 := by kernel_rfl
theorem spec_ShowEnd.bits7 : waitsOk spec_ShowEnd.T7.2 spec_ShowEnd.B7 = true := by kernel_rfl
def spec_ShowEnd.T8 : Bool × List (List Nat × List Nat) := (true, [([], []), ([], []), ([], []), ([], []), ([3], [3]), ([], []), ([4, 5], [4, 5]), ([6], [6]), ([2, 7], [2, 7]), ([], []), ([9], [9]), ([10], [10]), ([1, 8, 11, 8], [1, 8, 11]), ([12], [12]), ([13], [13]), ([0, 14], [0, 14]), ([15, 12, 0, 1, 2, 3, 4, 5, 6, 7, 8, 9, 10, 11, 12, 13, 14, 15], [0, 15])])
def spec_ShowEnd.B8 : List Nat := [0, 0, 0, 0, 8, 0, 56, 120, 252, 0, 512, 1536, 4094, 8190, 16382, 32767, 65535]
theorem spec_ShowEnd.tab8 : rtab .any (opsOf Try.f38 8) = spec_ShowEnd.T8 := by kernel_rfl
theorem spec_ShowEnd.bits8 : waitsOk spec_ShowEnd.T8.2 spec_ShowEnd.B8 = true := by kernel_rfl
set_option maxHeartbeats 8000000 in
set_option maxRecDepth 100000 in
theorem spec_ShowEnd.calls (k : Nat) (A0_0 : Option Addr) (c0_0 : Nat) (l0_0 : List (S108)) (A0_1 : Option Addr) (c0_1 : Nat) (l0_1 : List (S92)) (A0_2 : Option Addr) (c0_2 : Nat) (l0_2 : List (S43)) (r1 : Int) (r2 : Int) (w : World) (hr0_0 : Kd.C k108 w A0_0 l0_0.length l0_0) (hc0_0 : l0_0.length ≤ c0_0) (hr0_1 : Kd.C k92 w A0_1 l0_1.length l0_1) (hc0_1 : l0_1.length ≤ c0_1) (hr0_2 : Kd.C k43 w A0_2 l0_2.length l0_2) (hc0_2 : l0_2.length ≤ c0_2) (h : spec_ShowEnd.f k l0_0 l0_1 l0_2 = some (r1, r2)) :
  Calls Try.prog 38 #[.agg #[.slice A0_0 l0_0.length c0_0, .slice A0_1 l0_1.length c0_1, .slice A0_2 l0_2.length c0_2]] w fun e w' => e = .returned (.tuple #[.int .i64 r1, .int .i64 r2]) ∧ Below w.heap.size w w' := by
 have hu32 := Try.underlying32
 have hu92 := Try.underlying92
 have hu43 := Try.underlying43
 have HR0_0 := Aside0.mk hr0_0
 have HC0_0 := Aside0.mk hc0_0
 clear hr0_0 hc0_0
 have HR0_1 := Aside0.mk hr0_1
 have HC0_1 := Aside0.mk hc0_1
 clear hr0_1 hc0_1
 have HR0_2 := Aside0.mk hr0_2
 have HC0_2 := Aside0.mk hc0_2
 clear hr0_2 hc0_2
 have HB := Aside0.mk (Below.refl w.heap.size w)
 have H : ((spec_IsShow.f k l0_0 l0_1 l0_2).bind fun t952 => (if t952 = true then (spec_ShowEnd.l0 k 0 0 l0_0 l0_1 l0_2) else (some (0, 1)))) = some (r1, r2) := h
 clear h
 replace H := Option.bind_eq_some_iff.mp H
 obtain ⟨t952, A20, H⟩ := H
 replace H : (if t952 = true then (spec_ShowEnd.l0 k 0 0 l0_0 l0_1 l0_2) else (some (0, 1))) = some (r1, r2) := H
 have A2 := Aside0.mk A20
 clear A20
 by_cases c3 : t952 = true
 ·subst c3
  have H1 : (spec_ShowEnd.l0 k 0 0 l0_0 l0_1 l0_2) = some (r1, r2) := by rw [if_pos rfl] at H; exact H
  clear H
  have H := H1
  clear H1
  have H' := Aside0.mk H
  clear H
  go_enter Try.func38, Try.ntmps38
  go_wp2_with (first | ((with_reducible refine gate_dst (N := 1) rfl ?_); refine box_event ?hg (N := 1) ?hd (cs := #[.slice A0_0 l0_0.length c0_0, .slice A0_1 l0_1.length c0_1, .slice A0_2 l0_2.length c0_2]) (t := 32) ?hr ?_; (case hd => rfl); (case hg => rfl); (case hr => first | (go_simp; done) | (go_simp; rfl)); intro gb951 hg w4 hbox hb; have n0_ := Aside0.mk (below_step Zc hb); have n1_ := Aside0.mk (hbox); have n2_ := Aside0.mk ((Zd : w.heap.size ≤ gb951)); have n3_ := Aside0.mk ((Zd : w.heap.size ≤ gb951)); clear HB; have HB := n0_; have BK951 := n1_; have GW951 := n2_; have GE951 := n3_; clear n0_ n1_ n2_ n3_; clear hb hbox hg; obtain ⟨hcz5_0, hcz5_1, hcz5_2, hfz5_0, hfz5_1, hfz5_2⟩ := cz3 BK951) | ((with_reducible refine gate_callee (f := 36) rfl ?_); refine goesL_ (some 8) rfl rfl Try.func36 Zj rfl #[.agg #[.slice A0_0 l0_0.length c0_0, .slice A0_1 l0_1.length c0_1, .slice A0_2 l0_2.length c0_2]] rfl Zo ?_; (with_reducible refine (spec_IsShow.calls k _ _ l0_0 _ _ l0_1 _ _ l0_2 true _ ?side1 ?side2 ?side3 ?side4 ?side5 ?side6 A2.out).mono ?_); (case side1 => repeat (first | exact (Kd.C_below HR0_0.out HB.out) | (with_reducible refine Kd.C_alloc ?_ _) | (with_reducible refine Kd.C_drewN ?_ _) | (with_reducible refine Kd.C_drew ?_))); (case side2 => exact HC0_0.out); (case side3 => repeat (first | exact (Kd.C_below HR0_1.out HB.out) | (with_reducible refine Kd.C_alloc ?_ _) | (with_reducible refine Kd.C_drewN ?_ _) | (with_reducible refine Kd.C_drew ?_))); (case side4 => exact HC0_1.out); (case side5 => repeat (first | exact (Kd.C_below HR0_2.out HB.out) | (with_reducible refine Kd.C_alloc ?_ _) | (with_reducible refine Kd.C_drewN ?_ _) | (with_reducible refine Kd.C_drew ?_))); (case side6 => exact HC0_2.out); rintro e w6 ⟨rfl, hb⟩; refine ⟨_, rfl, ?_⟩; have n0_ := Aside0.mk (blk_below (g := gb951) (o := .cells #[.slice A0_0 l0_0.length c0_0, .slice A0_1 l0_1.length c0_1, .slice A0_2 l0_2.length c0_2] 32 (0, 0)) (have z0_ := BK951; Ze) hb); have n1_ := Aside0.mk (below_step (have z0_ := GE951; Zf) hb); clear BK951; clear HB; have BK951 := n0_; have HB := n1_; clear n0_ n1_; (try clear hb); (try clear hb2); (try clear hk); (try clear hi)))
  go_loopg [4, 5] k (fun kq v4 v5 w' => ∃ (x4_1 : Int) (x5_1 : Int), v4 = .int .i64 x4_1 ∧ v5 = .int .i64 x5_1 ∧ Aside0 (spec_ShowEnd.l0 kq x4_1 x5_1 l0_0 l0_1 l0_2 = some (r1, r2)) ∧ Aside0 (kq ≤ k) ∧ Aside0 (w'.heap[gb951]? = some (.cells #[(.slice A0_0 l0_0.length c0_0), (.slice A0_1 l0_1.length c0_1), (.slice A0_2 l0_2.length c0_2)] 32 (0, 0))) ∧ Aside0 (Below w.heap.size w w'))
  case atStart => exact ⟨(0), (0), Za, Za, H', ⟨Nat.le_refl _⟩, ⟨(have z0_ := BK951; Ze)⟩, ⟨(have z0_ := GE951; Zf)⟩⟩
  case round =>
   clear H'
   try clear p2
   try clear c3
   try clear hcz5_0
   try clear hcz5_1
   try clear hcz5_2
   try clear hfz5_0
   try clear hfz5_1
   try clear hfz5_2
   obtain ⟨x4_1, x5_1, rfl, rfl, HA, HK1, BK951, HB⟩ := hrel
   cases gk with
   | zero => exact absurd HA.out (by simp [spec_ShowEnd.l0])
   | succ k1 =>
    have H := HA.out
    clear HA
    simp only [spec_ShowEnd.l0] at H
    by_cases c7 : x5_1 < (l0_2.length : Int)
    ·rw [if_pos c7] at H
     have c7b0 : decide (x5_1 < (l0_2.length : Int)) = true := decide_eq_true c7
     clear c7
     by_cases c8 : 0 ≤ x5_1
     ·rw [if_pos c8] at H
      have c8b0 : decide (0 ≤ x5_1) = true := decide_eq_true c8
      clear c8
      replace H := Option.bind_eq_some_iff.mp H
      obtain ⟨t954, A90, H⟩ := H
      replace H : (if 0 ≤ t954 then (if t954 < (l0_1.length : Int) then ((spec_l08Time.f k1 l0_0 l0_1 l0_2 ((rd_T43 l0_2 x5_1).f0) ((rd_T43 l0_2 x5_1).f1) ((rd_T43 l0_2 x5_1).f2) ((rd_T43 l0_2 x5_1).f3)).bind fun t958 => ((spec_l03Window.f ((rd_T92 l0_1 t954).f0) ((rd_T92 l0_1 t954).f1) ((rd_T92 l0_1 t954).f2) ((rd_T92 l0_1 t954).f3) ((rd_T92 l0_1 t954).f4) ((rd_T92 l0_1 t954).f5) ((rd_T92 l0_1 t954).f6) ((rd_T92 l0_1 t954).f7) ((rd_T92 l0_1 t954).f8) t958 (wrap64 (((rd_T92 l0_1 t954).f5) - 1))).bind fun t959 => (if 1 < (t959.length : Int) then (spec_ShowEnd.l0 k1 (mx x4_1 (rd t959 1)) (wrap64 (x5_1 + 1)) l0_0 l0_1 l0_2) else (none)))) else (none)) else (none)) = some (r1, r2) := H
      have A9 := Aside0.mk A90
      clear A90
      by_cases c10 : 0 ≤ t954
      ·rw [if_pos c10] at H
       have c10b0 : decide (0 ≤ t954) = true := decide_eq_true c10
       clear c10
       by_cases c11 : t954 < (l0_1.length : Int)
       ·rw [if_pos c11] at H
        have c11b0 : decide (t954 < (l0_1.length : Int)) = true := decide_eq_true c11
        clear c11
        replace H := Option.bind_eq_some_iff.mp H
        obtain ⟨t958, A120, H⟩ := H
        replace H : ((spec_l03Window.f ((rd_T92 l0_1 t954).f0) ((rd_T92 l0_1 t954).f1) ((rd_T92 l0_1 t954).f2) ((rd_T92 l0_1 t954).f3) ((rd_T92 l0_1 t954).f4) ((rd_T92 l0_1 t954).f5) ((rd_T92 l0_1 t954).f6) ((rd_T92 l0_1 t954).f7) ((rd_T92 l0_1 t954).f8) t958 (wrap64 (((rd_T92 l0_1 t954).f5) - 1))).bind fun t959 => (if 1 < (t959.length : Int) then (spec_ShowEnd.l0 k1 (mx x4_1 (rd t959 1)) (wrap64 (x5_1 + 1)) l0_0 l0_1 l0_2) else (none))) = some (r1, r2) := H
        have A12 := Aside0.mk A120
        clear A120
        replace H := Option.bind_eq_some_iff.mp H
        obtain ⟨t959, A130, H⟩ := H
        replace H : (if 1 < (t959.length : Int) then (spec_ShowEnd.l0 k1 (mx x4_1 (rd t959 1)) (wrap64 (x5_1 + 1)) l0_0 l0_1 l0_2) else (none)) = some (r1, r2) := H
        have A13 := Aside0.mk A130
        clear A130
        by_cases c14 : 1 < (t959.length : Int)
        ·rw [if_pos c14] at H
         have c14b0 : decide (1 < (t959.length : Int)) = true := decide_eq_true c14
         have c14b1 : decide (1 < t959.length) = true := decide_eq_true (by omega)
         clear c14
         obtain ⟨ji15, hji15⟩ : ∃ j_ : Int, (mx x4_1 (rd t959 1)) = j_ := ⟨_, rfl⟩
         replace H : (spec_ShowEnd.l0 k1 ji15 (wrap64 (x5_1 + 1)) l0_0 l0_1 l0_2) = some (r1, r2) := by first | (rw [hji15] at H; exact H) | (simp only [hji15] at H ⊢; exact H)
         (try rw [hji15] at A9)
         (try rw [hji15] at A12)
         (try rw [hji15] at A13)
         have hji15_ : (if x4_1 < (rd t959 1) then (rd t959 1) else x4_1) = ji15 := hji15
         have H' := Aside0.mk H
         clear H
         obtain ⟨hcz16_0, hcz16_1, hcz16_2, hfz16_0, hfz16_1, hfz16_2⟩ := cz3 BK951
         try go_wp2
         have n0_ := Aside0.mk (blk_drew BK951.out)
         have n1_ := Aside0.mk (below_drew1 HB.out)
         clear BK951
         clear HB
         have BK951 := n0_
         have HB := n1_
         clear n0_ n1_
         have p953 : 0 ≤ (x5_1 : Int) := of_decide_eq_true Zp
         have q953 : x5_1 < (l0_2.length : Int) := of_decide_eq_true Zp
         obtain ⟨ad953, e953, hx953_0, hx953_1, hx953_2, hx953_3⟩ := at_T43 HR0_2.out x5_1 p953 q953
         have hw953_3 := hx953_3
         have hw953_2 := hx953_2
         have hw953_1 := hx953_1
         have hw953_0 := hx953_0
         cases e953
         replace hx953_0 := cbH HB hx953_0
         replace hx953_1 := cbH HB hx953_1
         replace hx953_2 := cbH HB hx953_2
         replace hx953_3 := cbH HB hx953_3
         replace p953 := eq_true p953
         replace q953 := eq_true q953
         have p955 : 0 ≤ (t954 : Int) := of_decide_eq_true Zp
         have q955 : t954 < (l0_1.length : Int) := of_decide_eq_true Zp
         obtain ⟨ad955, e955, hx955_0, hx955_1, hx955_2, hx955_3, hx955_4, hx955_5, hx955_6, hx955_7, hx955_8⟩ := at_T92 HR0_1.out t954 p955 q955
         have hw955_8 := hx955_8
         have hw955_7 := hx955_7
         have hw955_6 := hx955_6
         have hw955_5 := hx955_5
         have hw955_4 := hx955_4
         have hw955_3 := hx955_3
         have hw955_2 := hx955_2
         have hw955_1 := hx955_1
         have hw955_0 := hx955_0
         cases e955
         replace hx955_0 := cbH HB hx955_0
         replace hx955_1 := cbH HB hx955_1
         replace hx955_2 := cbH HB hx955_2
         replace hx955_3 := cbH HB hx955_3
         replace hx955_4 := cbH HB hx955_4
         replace hx955_5 := cbH HB hx955_5
         replace hx955_6 := cbH HB hx955_6
         replace hx955_7 := cbH HB hx955_7
         replace hx955_8 := cbH HB hx955_8
         replace p955 := eq_true p955
         replace q955 := eq_true q955
         refine start_ (n := 15) (S := fun w' => w'.cell? ⟨gb951, 0, none⟩ = some (.slice A0_0 l0_0.length c0_0) ∧ w'.cell? ⟨gb951, 1, none⟩ = some (.slice (some ad955) l0_1.length c0_1) ∧ w'.cell? ⟨gb951, 2, none⟩ = some (.slice (some ad953) l0_2.length c0_2) ∧ w'.cell? (ad953.add ((x5_1).toNat * 4)) = some (.int .i64 ((rd_T43 l0_2 x5_1).f0)) ∧ w'.cell? ⟨(ad953.add ((x5_1).toNat * 4)).block, (ad953.add ((x5_1).toNat * 4)).off + 1, none⟩ = some (.int .i64 ((rd_T43 l0_2 x5_1).f1)) ∧ w'.cell? ⟨(ad953.add ((x5_1).toNat * 4)).block, (ad953.add ((x5_1).toNat * 4)).off + 2, none⟩ = some (.string ((rd_T43 l0_2 x5_1).f2)) ∧ w'.cell? ⟨(ad953.add ((x5_1).toNat * 4)).block, (ad953.add ((x5_1).toNat * 4)).off + 3, none⟩ = some (.int .i64 ((rd_T43 l0_2 x5_1).f3)) ∧ w'.cell? (ad955.add ((t954).toNat * 9)) = some (.string ((rd_T92 l0_1 t954).f0)) ∧ w'.cell? ⟨(ad955.add ((t954).toNat * 9)).block, (ad955.add ((t954).toNat * 9)).off + 1, none⟩ = some (.int .i64 ((rd_T92 l0_1 t954).f1)) ∧ w'.cell? ⟨(ad955.add ((t954).toNat * 9)).block, (ad955.add ((t954).toNat * 9)).off + 2, none⟩ = some (.int .i64 ((rd_T92 l0_1 t954).f2)) ∧ w'.cell? ⟨(ad955.add ((t954).toNat * 9)).block, (ad955.add ((t954).toNat * 9)).off + 3, none⟩ = some (.int .i64 ((rd_T92 l0_1 t954).f3)) ∧ w'.cell? ⟨(ad955.add ((t954).toNat * 9)).block, (ad955.add ((t954).toNat * 9)).off + 4, none⟩ = some (.int .i64 ((rd_T92 l0_1 t954).f4)) ∧ w'.cell? ⟨(ad955.add ((t954).toNat * 9)).block, (ad955.add ((t954).toNat * 9)).off + 5, none⟩ = some (.int .i64 ((rd_T92 l0_1 t954).f5)) ∧ w'.cell? ⟨(ad955.add ((t954).toNat * 9)).block, (ad955.add ((t954).toNat * 9)).off + 6, none⟩ = some (.int .i64 ((rd_T92 l0_1 t954).f6)) ∧ w'.cell? ⟨(ad955.add ((t954).toNat * 9)).block, (ad955.add ((t954).toNat * 9)).off + 7, none⟩ = some (.int .i64 ((rd_T92 l0_1 t954).f7)) ∧ w'.cell? ⟨(ad955.add ((t954).toNat * 9)).block, (ad955.add ((t954).toNat * 9)).off + 8, none⟩ = some (.int .i64 ((rd_T92 l0_1 t954).f8))) (ds := []) (bT 15 0) Zj rfl rfl ⟨(blk_cell BK951.out 0).trans rfl, (blk_cell BK951.out 1).trans rfl, (blk_cell BK951.out 2).trans rfl, (cbH HB hw953_0 :), (cbH HB hw953_1 :), (cbH HB hw953_2 :), (cbH HB hw953_3 :), (cbH HB hw955_0 :), (cbH HB hw955_1 :), (cbH HB hw955_2 :), (cbH HB hw955_3 :), (cbH HB hw955_4 :), (cbH HB hw955_5 :), (cbH HB hw955_6 :), (cbH HB hw955_7 :), (cbH HB hw955_8 :)⟩ (fun hHeld => ?_); refine with_tabW spec_ShowEnd.tab7 spec_ShowEnd.bits7 (fun HT_ HW_ => ?_)
         generalize wr.drew = w17 at BK951 HB hx953_0 hx953_1 hx953_2 hx953_3 hx955_0 hx955_1 hx955_2 hx955_3 hx955_4 hx955_5 hx955_6 hx955_7 hx955_8 hHeld ⊢
         refine pureZ HT_ 0 (some 17) (bT 15 1) ?_
         refine pureZ HT_ 2 (some 19) #[true, false, true, false, false, false, false, false, false, false, false, false, false, false, false] ?_
         refine pureZ HT_ 4 (some 21) #[true, false, true, false, true, false, false, false, false, false, false, false, false, false, false] ?_
         refine pureZ HT_ 6 (some 23) #[true, false, true, false, true, false, true, false, false, false, false, false, false, false, false] ?_
         refine take_ (i := 1) (N := some 18) (v := ?_) (a' := ?_) #[true, true, true, false, true, false, true, false, false, false, false, false, false, false, false] rfl rfl (take_ofW HT_.out HW_.out Zj) (fun _ _ _ h => h) (Or.inl ⟨by rfl, ?_⟩) hHeld ?_ ?_
         rotate_left
         ·rintro w' ⟨s0, s1, s2, s3, s4, s5, s6, s7, s8, s9, s10, s11, s12, s13, s14, s15⟩
          go_simp
          with_reducible rfl
         rotate_left
         ·exact Zput
         refine take_ (i := 3) (N := some 20) (v := ?_) (a' := ?_) #[true, true, true, true, true, false, true, false, false, false, false, false, false, false, false] rfl rfl (take_ofW HT_.out HW_.out Zj) (fun _ _ _ h => h) (Or.inl ⟨by rfl, ?_⟩) hHeld ?_ ?_
         rotate_left
         ·rintro w' ⟨s0, s1, s2, s3, s4, s5, s6, s7, s8, s9, s10, s11, s12, s13, s14, s15⟩
          go_simp
          with_reducible rfl
         rotate_left
         ·exact Zput
         refine take_ (i := 5) (N := some 22) (v := ?_) (a' := ?_) (bT 15 7) rfl rfl (take_ofW HT_.out HW_.out Zj) (fun _ _ _ h => h) (Or.inl ⟨by rfl, ?_⟩) hHeld ?_ ?_
         rotate_left
         ·rintro w' ⟨s0, s1, s2, s3, s4, s5, s6, s7, s8, s9, s10, s11, s12, s13, s14, s15⟩
          go_simp
          with_reducible rfl
         rotate_left
         ·exact Zput
         refine pureZ HT_ 7 (some 24) (bT 15 8) ?_
         refine pureZ HT_ 8 (some 25) (bT 15 9) ?_
         refine take_ (i := 9) (N := some 26) (v := ?_) (a' := ?_) (bT 15 10) rfl rfl (take_ofW HT_.out HW_.out Zj) (fun _ _ _ h => h) (Or.inl ⟨by rfl, ?_⟩) hHeld ?_ ?_
         rotate_left
         ·rintro w' ⟨s0, s1, s2, s3, s4, s5, s6, s7, s8, s9, s10, s11, s12, s13, s14, s15⟩
          go_simp
          with_reducible rfl
         rotate_left
         ·exact Zput
         refine join_ (σ := Nat) 1 (bT 15 14) (fun s_ => [(27, .int .i64 t954), (6, .pointer (some ⟨s_, 0, none⟩)), (28, .pointer (some (ad955.add ((t954).toNat * 9)))), (29, .agg #[.string ((rd_T92 l0_1 t954).f0), .int .i64 ((rd_T92 l0_1 t954).f1), .int .i64 ((rd_T92 l0_1 t954).f2), .int .i64 ((rd_T92 l0_1 t954).f3), .int .i64 ((rd_T92 l0_1 t954).f4), .int .i64 ((rd_T92 l0_1 t954).f5), .int .i64 ((rd_T92 l0_1 t954).f6), .int .i64 ((rd_T92 l0_1 t954).f7), .int .i64 ((rd_T92 l0_1 t954).f8)])]) (fun s_ w' => (w'.cell? ⟨gb951, 0, none⟩ = some (.slice A0_0 l0_0.length c0_0) ∧ w'.cell? ⟨gb951, 1, none⟩ = some (.slice (some ad955) l0_1.length c0_1) ∧ w'.cell? ⟨gb951, 2, none⟩ = some (.slice (some ad953) l0_2.length c0_2) ∧ w'.cell? (ad953.add ((x5_1).toNat * 4)) = some (.int .i64 ((rd_T43 l0_2 x5_1).f0)) ∧ w'.cell? ⟨(ad953.add ((x5_1).toNat * 4)).block, (ad953.add ((x5_1).toNat * 4)).off + 1, none⟩ = some (.int .i64 ((rd_T43 l0_2 x5_1).f1)) ∧ w'.cell? ⟨(ad953.add ((x5_1).toNat * 4)).block, (ad953.add ((x5_1).toNat * 4)).off + 2, none⟩ = some (.string ((rd_T43 l0_2 x5_1).f2)) ∧ w'.cell? ⟨(ad953.add ((x5_1).toNat * 4)).block, (ad953.add ((x5_1).toNat * 4)).off + 3, none⟩ = some (.int .i64 ((rd_T43 l0_2 x5_1).f3)) ∧ w'.cell? (ad955.add ((t954).toNat * 9)) = some (.string ((rd_T92 l0_1 t954).f0)) ∧ w'.cell? ⟨(ad955.add ((t954).toNat * 9)).block, (ad955.add ((t954).toNat * 9)).off + 1, none⟩ = some (.int .i64 ((rd_T92 l0_1 t954).f1)) ∧ w'.cell? ⟨(ad955.add ((t954).toNat * 9)).block, (ad955.add ((t954).toNat * 9)).off + 2, none⟩ = some (.int .i64 ((rd_T92 l0_1 t954).f2)) ∧ w'.cell? ⟨(ad955.add ((t954).toNat * 9)).block, (ad955.add ((t954).toNat * 9)).off + 3, none⟩ = some (.int .i64 ((rd_T92 l0_1 t954).f3)) ∧ w'.cell? ⟨(ad955.add ((t954).toNat * 9)).block, (ad955.add ((t954).toNat * 9)).off + 4, none⟩ = some (.int .i64 ((rd_T92 l0_1 t954).f4)) ∧ w'.cell? ⟨(ad955.add ((t954).toNat * 9)).block, (ad955.add ((t954).toNat * 9)).off + 5, none⟩ = some (.int .i64 ((rd_T92 l0_1 t954).f5)) ∧ w'.cell? ⟨(ad955.add ((t954).toNat * 9)).block, (ad955.add ((t954).toNat * 9)).off + 6, none⟩ = some (.int .i64 ((rd_T92 l0_1 t954).f6)) ∧ w'.cell? ⟨(ad955.add ((t954).toNat * 9)).block, (ad955.add ((t954).toNat * 9)).off + 7, none⟩ = some (.int .i64 ((rd_T92 l0_1 t954).f7)) ∧ w'.cell? ⟨(ad955.add ((t954).toNat * 9)).block, (ad955.add ((t954).toNat * 9)).off + 8, none⟩ = some (.int .i64 ((rd_T92 l0_1 t954).f8))) ∧ (w'.heap[gb951]? = some (.cells #[.slice A0_0 l0_0.length c0_0, .slice (some ad955) l0_1.length c0_1, .slice (some ad953) l0_2.length c0_2] 32 (0, 0))) ∧ (w'.heap[s_]? = some (.cells #[.string (⟨#[]⟩ : ByteArray), .int .i64 0, .int .i64 0, .int .i64 0, .int .i64 0, .int .i64 0, .int .i64 0, .int .i64 0, .int .i64 0] 92 (0, 0))) ∧ (w.heap.size ≤ s_) ∧ (w.heap.size ≤ s_) ∧ (gb951 ≠ s_) ∧ (s_ ≠ gb951) ∧ (Below w.heap.size w w')) ?_ ?_
         rotate_left
         ·intro hCont
          refine two_ (i := 10) (j := 13) (Ni := some 27) (Nj := some 6) (bT 15 11) #[true, true, true, true, true, true, true, true, true, true, false, false, false, true, false] rfl rfl rfl rfl (two_of HT_.out Zj) (by decide) (by decide) (fun K hK => ?_) (fun K hK => ?_)
          ·skip
           refine goes_ Try.func94 Zj rfl #[.slice (some ad955) l0_1.length c0_1, .string ((rd_T43 l0_2 x5_1).f2)] (by rfl) rfl rfl Zo ?_
           with_reducible refine (spec_l03Find.calls k1 _ _ l0_1 ((rd_T43 l0_2 x5_1).f2) t954 _ ?side1 ?side2 A9.out).mono ?_
           (case side1 => repeat (first | exact (Kd.C_below HR0_1.out HB.out) | (with_reducible refine Kd.C_alloc ?_ _) | (with_reducible refine Kd.C_drewN ?_ _) | (with_reducible refine Kd.C_drew ?_)))
           (case side2 => exact HC0_1.out)
           rintro e w' ⟨rfl, ⟨nd, rfl⟩⟩
           refine ⟨_, rfl, ?_⟩
           refine hK.out _ _ ⟨(blk_cell BK951.out 0).trans rfl, (blk_cell BK951.out 1).trans rfl, (blk_cell BK951.out 2).trans rfl, (cbH HB hw953_0 :), (cbH HB hw953_1 :), (cbH HB hw953_2 :), (cbH HB hw953_3 :), (cbH HB hw955_0 :), (cbH HB hw955_1 :), (cbH HB hw955_2 :), (cbH HB hw955_3 :), (cbH HB hw955_4 :), (cbH HB hw955_5 :), (cbH HB hw955_6 :), (cbH HB hw955_7 :), (cbH HB hw955_8 :)⟩ (fun hHeld => ?_)
           clear hK K
           refine norm_ (a' := ?_) ?_ ?_
           rotate_left
           ·show Act.put _ (some 27) _ = _
            simp only [Act.put, List.setIfInBounds_toArray, List.set_cons_zero, List.set_cons_succ, i64_w, i32_w]
            rfl
           refine pureZ HT_ 11 (some 28) (bT 15 12) ?_
           refine take_ (i := 12) (N := some 29) (v := ?_) (a' := ?_) (bT 15 13) rfl rfl (take_ofW HT_.out HW_.out Zj) (fun _ _ _ h => h) (Or.inl ⟨by rfl, ?_⟩) hHeld ?_ ?_
           rotate_left
           ·rintro w' ⟨s0, s1, s2, s3, s4, s5, s6, s7, s8, s9, s10, s11, s12, s13, s14, s15⟩
            go_simp
            with_reducible rfl
           rotate_left
           ·exact Zput
           refine one_ (i := 13) (N := some 6) (bT 15 14) rfl rfl (one_of HT_.out Zj) (by decide) (fun K hK => ?_)
           refine box_step ?hg (N := 6) ?hd (cs := #[.string (⟨#[]⟩ : ByteArray), .int .i64 0, .int .i64 0, .int .i64 0, .int .i64 0, .int .i64 0, .int .i64 0, .int .i64 0, .int .i64 0]) (t := 92) ?hr ?_; (case hd => rfl); (case hg => rfl); (case hr => first | (go_simp; done) | (go_simp; rfl))
           intro gb956 hg w18 hbox hb
           have n0_ := Aside0.mk (blk_below (g := gb951) (o := .cells #[.slice A0_0 l0_0.length c0_0, .slice (some ad955) l0_1.length c0_1, .slice (some ad953) l0_2.length c0_2] 32 (0, 0)) (have z0_ := BK951; Ze) hb)
           have n1_ := Aside0.mk (below_step (have z0_ := GE951; Zf) hb)
           have n2_ := Aside0.mk (hbox)
           have n3_ := Aside0.mk (((have z0_ := GE951; Zg) : w.heap.size ≤ gb956))
           have n4_ := Aside0.mk (((have z0_ := GE951; Zg) : w.heap.size ≤ gb956))
           have n5_ := Aside0.mk (((have z0_ := BK951; Zaq) : gb951 ≠ gb956))
           have n6_ := Aside0.mk (((have z0_ := BK951; Zar) : gb956 ≠ gb951))
           clear BK951
           clear HB
           have BK951 := n0_
           have HB := n1_
           have BK956 := n2_
           have GW956 := n3_
           have GE956 := n4_
           have NB951_956 := n5_
           have NB956_951 := n6_
           clear n0_ n1_ n2_ n3_ n4_ n5_ n6_
           clear hb hbox hg
           refine hK.out _ _ ⟨(blk_cell BK951.out 0).trans rfl, (blk_cell BK951.out 1).trans rfl, (blk_cell BK951.out 2).trans rfl, (cbH HB hw953_0 :), (cbH HB hw953_1 :), (cbH HB hw953_2 :), (cbH HB hw953_3 :), (cbH HB hw955_0 :), (cbH HB hw955_1 :), (cbH HB hw955_2 :), (cbH HB hw955_3 :), (cbH HB hw955_4 :), (cbH HB hw955_5 :), (cbH HB hw955_6 :), (cbH HB hw955_7 :), (cbH HB hw955_8 :)⟩ (fun hHeld => ?_)
           clear hK K
           refine norm_ (a' := ?_) ?_ ?_
           rotate_left
           ·show Act.put _ (some 6) _ = _
            simp only [Act.put, List.setIfInBounds_toArray, List.set_cons_zero, List.set_cons_succ, i64_w, i32_w]
            rfl
           exact norm_ (by simp only [putAll, Act.put, List.setIfInBounds_toArray, List.set_cons_zero, List.set_cons_succ]) (hCont (gb956) _ ⟨hHeld, (have z0_ := BK951; Ze), (have z0_ := BK956; Ze), GW956.out, GE956.out, NB951_956.out, NB956_951.out, (have z0_ := GE951; have z1_ := GE956; Zh)⟩)
          ·skip
           refine box_step ?hg (N := 6) ?hd (cs := #[.string (⟨#[]⟩ : ByteArray), .int .i64 0, .int .i64 0, .int .i64 0, .int .i64 0, .int .i64 0, .int .i64 0, .int .i64 0, .int .i64 0]) (t := 92) ?hr ?_; (case hd => rfl); (case hg => rfl); (case hr => first | (go_simp; done) | (go_simp; rfl))
           intro gb956 hg w18 hbox hb
           have n0_ := Aside0.mk (blk_below (g := gb951) (o := .cells #[.slice A0_0 l0_0.length c0_0, .slice (some ad955) l0_1.length c0_1, .slice (some ad953) l0_2.length c0_2] 32 (0, 0)) (have z0_ := BK951; Ze) hb)
           have n1_ := Aside0.mk (below_step (have z0_ := GE951; Zf) hb)
           have n2_ := Aside0.mk (hbox)
           have n3_ := Aside0.mk (((have z0_ := GE951; Zg) : w.heap.size ≤ gb956))
           have n4_ := Aside0.mk (((have z0_ := GE951; Zg) : w.heap.size ≤ gb956))
           have n5_ := Aside0.mk (((have z0_ := BK951; Zaq) : gb951 ≠ gb956))
           have n6_ := Aside0.mk (((have z0_ := BK951; Zar) : gb956 ≠ gb951))
           clear BK951
           clear HB
           have BK951 := n0_
           have HB := n1_
           have BK956 := n2_
           have GW956 := n3_
           have GE956 := n4_
           have NB951_956 := n5_
           have NB956_951 := n6_
           clear n0_ n1_ n2_ n3_ n4_ n5_ n6_
           clear hb hbox hg
           refine hK.out _ _ ⟨(blk_cell BK951.out 0).trans rfl, (blk_cell BK951.out 1).trans rfl, (blk_cell BK951.out 2).trans rfl, (cbH HB hw953_0 :), (cbH HB hw953_1 :), (cbH HB hw953_2 :), (cbH HB hw953_3 :), (cbH HB hw955_0 :), (cbH HB hw955_1 :), (cbH HB hw955_2 :), (cbH HB hw955_3 :), (cbH HB hw955_4 :), (cbH HB hw955_5 :), (cbH HB hw955_6 :), (cbH HB hw955_7 :), (cbH HB hw955_8 :)⟩ (fun hHeld => ?_)
           clear hK K
           refine norm_ (a' := ?_) ?_ ?_
           rotate_left
           ·show Act.put _ (some 6) _ = _
            simp only [Act.put, List.setIfInBounds_toArray, List.set_cons_zero, List.set_cons_succ, i64_w, i32_w]
            rfl
           refine one_ (i := 10) (N := some 27) #[true, true, true, true, true, true, true, true, true, true, true, false, false, true, false] rfl rfl (one_of HT_.out Zj) (by decide) (fun K hK => ?_)
           refine goes_ Try.func94 Zj rfl #[.slice (some ad955) l0_1.length c0_1, .string ((rd_T43 l0_2 x5_1).f2)] (by rfl) rfl rfl Zo ?_
           with_reducible refine (spec_l03Find.calls k1 _ _ l0_1 ((rd_T43 l0_2 x5_1).f2) t954 _ ?side1 ?side2 A9.out).mono ?_
           (case side1 => repeat (first | exact (Kd.C_below HR0_1.out HB.out) | (with_reducible refine Kd.C_alloc ?_ _) | (with_reducible refine Kd.C_drewN ?_ _) | (with_reducible refine Kd.C_drew ?_)))
           (case side2 => exact HC0_1.out)
           rintro e w' ⟨rfl, ⟨nd, rfl⟩⟩
           refine ⟨_, rfl, ?_⟩
           refine hK.out _ _ ⟨(blk_cell BK951.out 0).trans rfl, (blk_cell BK951.out 1).trans rfl, (blk_cell BK951.out 2).trans rfl, (cbH HB hw953_0 :), (cbH HB hw953_1 :), (cbH HB hw953_2 :), (cbH HB hw953_3 :), (cbH HB hw955_0 :), (cbH HB hw955_1 :), (cbH HB hw955_2 :), (cbH HB hw955_3 :), (cbH HB hw955_4 :), (cbH HB hw955_5 :), (cbH HB hw955_6 :), (cbH HB hw955_7 :), (cbH HB hw955_8 :)⟩ (fun hHeld => ?_)
           clear hK K
           refine norm_ (a' := ?_) ?_ ?_
           rotate_left
           ·show Act.put _ (some 27) _ = _
            simp only [Act.put, List.setIfInBounds_toArray, List.set_cons_zero, List.set_cons_succ, i64_w, i32_w]
            rfl
           refine pureZ HT_ 11 (some 28) #[true, true, true, true, true, true, true, true, true, true, true, true, false, true, false] ?_
           refine take_ (i := 12) (N := some 29) (v := ?_) (a' := ?_) (bT 15 14) rfl rfl (take_ofW HT_.out HW_.out Zj) (fun _ _ _ h => h) (Or.inl ⟨by rfl, ?_⟩) hHeld ?_ ?_
           rotate_left
           ·rintro w' ⟨s0, s1, s2, s3, s4, s5, s6, s7, s8, s9, s10, s11, s12, s13, s14, s15⟩
            go_simp
            with_reducible rfl
           rotate_left
           ·exact Zput
           exact norm_ (by simp only [putAll, Act.put, List.setIfInBounds_toArray, List.set_cons_zero, List.set_cons_succ]) (hCont (gb956) _ ⟨hHeld, (have z0_ := BK951; Ze), (have z0_ := BK956; Ze), GW956.out, GE956.out, NB951_956.out, NB956_951.out, (have z0_ := GE951; have z1_ := GE956; Zh)⟩)
         rintro gb956 w19 ⟨hS_, h0_, h1_, h2_, h3_, h4_, h5_, h6_⟩
         have n0_ : Aside0 (w19.heap[gb951]? = some (.cells #[.slice A0_0 l0_0.length c0_0, .slice (some ad955) l0_1.length c0_1, .slice (some ad953) l0_2.length c0_2] 32 (0, 0))) := ⟨h0_⟩
         have n1_ : Aside0 (w19.heap[gb956]? = some (.cells #[.string (⟨#[]⟩ : ByteArray), .int .i64 0, .int .i64 0, .int .i64 0, .int .i64 0, .int .i64 0, .int .i64 0, .int .i64 0, .int .i64 0] 92 (0, 0))) := ⟨h1_⟩
         have n2_ : Aside0 (w.heap.size ≤ gb956) := ⟨h2_⟩
         have n3_ : Aside0 (w.heap.size ≤ gb956) := ⟨h3_⟩
         have n4_ : Aside0 (gb951 ≠ gb956) := ⟨h4_⟩
         have n5_ : Aside0 (gb956 ≠ gb951) := ⟨h5_⟩
         have n6_ : Aside0 (Below w.heap.size w w19) := ⟨h6_⟩
         clear BK951
         clear HB
         clear h0_ h1_ h2_ h3_ h4_ h5_ h6_
         have BK951 := n0_
         have BK956 := n1_
         have GW956 := n2_
         have GE956 := n3_
         have NB951_956 := n4_
         have NB956_951 := n5_
         have HB := n6_
         clear n0_ n1_ n2_ n3_ n4_ n5_ n6_
         have hHeld : w19.cell? ⟨gb951, 0, none⟩ = some (.slice A0_0 l0_0.length c0_0) ∧ w19.cell? ⟨gb951, 1, none⟩ = some (.slice (some ad955) l0_1.length c0_1) ∧ w19.cell? ⟨gb951, 2, none⟩ = some (.slice (some ad953) l0_2.length c0_2) ∧ w19.cell? (ad953.add ((x5_1).toNat * 4)) = some (.int .i64 ((rd_T43 l0_2 x5_1).f0)) ∧ w19.cell? ⟨(ad953.add ((x5_1).toNat * 4)).block, (ad953.add ((x5_1).toNat * 4)).off + 1, none⟩ = some (.int .i64 ((rd_T43 l0_2 x5_1).f1)) ∧ w19.cell? ⟨(ad953.add ((x5_1).toNat * 4)).block, (ad953.add ((x5_1).toNat * 4)).off + 2, none⟩ = some (.string ((rd_T43 l0_2 x5_1).f2)) ∧ w19.cell? ⟨(ad953.add ((x5_1).toNat * 4)).block, (ad953.add ((x5_1).toNat * 4)).off + 3, none⟩ = some (.int .i64 ((rd_T43 l0_2 x5_1).f3)) ∧ w19.cell? (ad955.add ((t954).toNat * 9)) = some (.string ((rd_T92 l0_1 t954).f0)) ∧ w19.cell? ⟨(ad955.add ((t954).toNat * 9)).block, (ad955.add ((t954).toNat * 9)).off + 1, none⟩ = some (.int .i64 ((rd_T92 l0_1 t954).f1)) ∧ w19.cell? ⟨(ad955.add ((t954).toNat * 9)).block, (ad955.add ((t954).toNat * 9)).off + 2, none⟩ = some (.int .i64 ((rd_T92 l0_1 t954).f2)) ∧ w19.cell? ⟨(ad955.add ((t954).toNat * 9)).block, (ad955.add ((t954).toNat * 9)).off + 3, none⟩ = some (.int .i64 ((rd_T92 l0_1 t954).f3)) ∧ w19.cell? ⟨(ad955.add ((t954).toNat * 9)).block, (ad955.add ((t954).toNat * 9)).off + 4, none⟩ = some (.int .i64 ((rd_T92 l0_1 t954).f4)) ∧ w19.cell? ⟨(ad955.add ((t954).toNat * 9)).block, (ad955.add ((t954).toNat * 9)).off + 5, none⟩ = some (.int .i64 ((rd_T92 l0_1 t954).f5)) ∧ w19.cell? ⟨(ad955.add ((t954).toNat * 9)).block, (ad955.add ((t954).toNat * 9)).off + 6, none⟩ = some (.int .i64 ((rd_T92 l0_1 t954).f6)) ∧ w19.cell? ⟨(ad955.add ((t954).toNat * 9)).block, (ad955.add ((t954).toNat * 9)).off + 7, none⟩ = some (.int .i64 ((rd_T92 l0_1 t954).f7)) ∧ w19.cell? ⟨(ad955.add ((t954).toNat * 9)).block, (ad955.add ((t954).toNat * 9)).off + 8, none⟩ = some (.int .i64 ((rd_T92 l0_1 t954).f8)) := hS_
         refine norm_ (a' := ?_) ?_ ?_
         rotate_left
         ·simp only [putAll, Act.put, List.setIfInBounds_toArray, List.set_cons_zero, List.set_cons_succ]
          rfl
         refine one_ (i := 14) (N := none) (bT 15 15) rfl rfl (one_of HT_.out Zj) (by decide) (fun K hK => ?_)
         have hs20 : w19.cell? ⟨gb956, 0, none⟩ = some (.string (⟨#[]⟩ : ByteArray)) := (blk_cell BK956.out 0).trans rfl
         have hfs20 := blk_frozen BK956.out 0
         have hns20_0 := NB951_956.out
         have hms20_0 := NB956_951.out
         have hs21 : w19.cell? ⟨gb956, 1, none⟩ = some (.int .i64 0) := (blk_cell BK956.out 1).trans rfl
         have hfs21 := blk_frozen BK956.out 1
         have hns21_0 := NB951_956.out
         have hms21_0 := NB956_951.out
         have hs22 : w19.cell? ⟨gb956, 2, none⟩ = some (.int .i64 0) := (blk_cell BK956.out 2).trans rfl
         have hfs22 := blk_frozen BK956.out 2
         have hns22_0 := NB951_956.out
         have hms22_0 := NB956_951.out
         have hs23 : w19.cell? ⟨gb956, 3, none⟩ = some (.int .i64 0) := (blk_cell BK956.out 3).trans rfl
         have hfs23 := blk_frozen BK956.out 3
         have hns23_0 := NB951_956.out
         have hms23_0 := NB956_951.out
         have hs24 : w19.cell? ⟨gb956, 4, none⟩ = some (.int .i64 0) := (blk_cell BK956.out 4).trans rfl
         have hfs24 := blk_frozen BK956.out 4
         have hns24_0 := NB951_956.out
         have hms24_0 := NB956_951.out
         have hs25 : w19.cell? ⟨gb956, 5, none⟩ = some (.int .i64 0) := (blk_cell BK956.out 5).trans rfl
         have hfs25 := blk_frozen BK956.out 5
         have hns25_0 := NB951_956.out
         have hms25_0 := NB956_951.out
         have hs26 : w19.cell? ⟨gb956, 6, none⟩ = some (.int .i64 0) := (blk_cell BK956.out 6).trans rfl
         have hfs26 := blk_frozen BK956.out 6
         have hns26_0 := NB951_956.out
         have hms26_0 := NB956_951.out
         have hs27 : w19.cell? ⟨gb956, 7, none⟩ = some (.int .i64 0) := (blk_cell BK956.out 7).trans rfl
         have hfs27 := blk_frozen BK956.out 7
         have hns27_0 := NB951_956.out
         have hms27_0 := NB956_951.out
         have hs28 : w19.cell? ⟨gb956, 8, none⟩ = some (.int .i64 0) := (blk_cell BK956.out 8).trans rfl
         have hfs28 := blk_frozen BK956.out 8
         have hns28_0 := NB951_956.out
         have hms28_0 := NB956_951.out
         refine skip_ (w1 := ?_) (by rfl) rfl ?_ ?_
         rotate_left
         ·go_simp
          rfl
         refine hK.out _ _ ⟨((cell_far (p := ⟨gb956, _, none⟩) NB951_956.out _).trans (((cell_far (p := ⟨gb956, _, none⟩) NB951_956.out _).trans (((cell_far (p := ⟨gb956, _, none⟩) NB951_956.out _).trans (((cell_far (p := ⟨gb956, _, none⟩) NB951_956.out _).trans (((cell_far (p := ⟨gb956, _, none⟩) NB951_956.out _).trans (((cell_far (p := ⟨gb956, _, none⟩) NB951_956.out _).trans (((cell_far (p := ⟨gb956, _, none⟩) NB951_956.out _).trans (((cell_far (p := ⟨gb956, _, none⟩) NB951_956.out _).trans (((cell_far (p := ⟨gb956, _, none⟩) NB951_956.out _).trans (hHeld.1)))))))))))))))))), ((cell_far (p := ⟨gb956, _, none⟩) NB951_956.out _).trans (((cell_far (p := ⟨gb956, _, none⟩) NB951_956.out _).trans (((cell_far (p := ⟨gb956, _, none⟩) NB951_956.out _).trans (((cell_far (p := ⟨gb956, _, none⟩) NB951_956.out _).trans (((cell_far (p := ⟨gb956, _, none⟩) NB951_956.out _).trans (((cell_far (p := ⟨gb956, _, none⟩) NB951_956.out _).trans (((cell_far (p := ⟨gb956, _, none⟩) NB951_956.out _).trans (((cell_far (p := ⟨gb956, _, none⟩) NB951_956.out _).trans (((cell_far (p := ⟨gb956, _, none⟩) NB951_956.out _).trans (hHeld.2.1)))))))))))))))))), ((cell_far (p := ⟨gb956, _, none⟩) NB951_956.out _).trans (((cell_far (p := ⟨gb956, _, none⟩) NB951_956.out _).trans (((cell_far (p := ⟨gb956, _, none⟩) NB951_956.out _).trans (((cell_far (p := ⟨gb956, _, none⟩) NB951_956.out _).trans (((cell_far (p := ⟨gb956, _, none⟩) NB951_956.out _).trans (((cell_far (p := ⟨gb956, _, none⟩) NB951_956.out _).trans (((cell_far (p := ⟨gb956, _, none⟩) NB951_956.out _).trans (((cell_far (p := ⟨gb956, _, none⟩) NB951_956.out _).trans (((cell_far (p := ⟨gb956, _, none⟩) NB951_956.out _).trans (hHeld.2.2.1)))))))))))))))))), ((cell_far (p := ⟨gb956, _, none⟩) (have z0_ := hw953_0; have z1_ := GW956; Zas) _).trans (((cell_far (p := ⟨gb956, _, none⟩) (have z0_ := hw953_0; have z1_ := GW956; Zas) _).trans (((cell_far (p := ⟨gb956, _, none⟩) (have z0_ := hw953_0; have z1_ := GW956; Zas) _).trans (((cell_far (p := ⟨gb956, _, none⟩) (have z0_ := hw953_0; have z1_ := GW956; Zas) _).trans (((cell_far (p := ⟨gb956, _, none⟩) (have z0_ := hw953_0; have z1_ := GW956; Zas) _).trans (((cell_far (p := ⟨gb956, _, none⟩) (have z0_ := hw953_0; have z1_ := GW956; Zas) _).trans (((cell_far (p := ⟨gb956, _, none⟩) (have z0_ := hw953_0; have z1_ := GW956; Zas) _).trans (((cell_far (p := ⟨gb956, _, none⟩) (have z0_ := hw953_0; have z1_ := GW956; Zas) _).trans (((cell_far (p := ⟨gb956, _, none⟩) (have z0_ := hw953_0; have z1_ := GW956; Zas) _).trans (hHeld.2.2.2.1)))))))))))))))))), ((cell_far (p := ⟨gb956, _, none⟩) (have z0_ := hw953_1; have z1_ := GW956; Zas) _).trans (((cell_far (p := ⟨gb956, _, none⟩) (have z0_ := hw953_1; have z1_ := GW956; Zas) _).trans (((cell_far (p := ⟨gb956, _, none⟩) (have z0_ := hw953_1; have z1_ := GW956; Zas) _).trans (((cell_far (p := ⟨gb956, _, none⟩) (have z0_ := hw953_1; have z1_ := GW956; Zas) _).trans (((cell_far (p := ⟨gb956, _, none⟩) (have z0_ := hw953_1; have z1_ := GW956; Zas) _).trans (((cell_far (p := ⟨gb956, _, none⟩) (have z0_ := hw953_1; have z1_ := GW956; Zas) _).trans (((cell_far (p := ⟨gb956, _, none⟩) (have z0_ := hw953_1; have z1_ := GW956; Zas) _).trans (((cell_far (p := ⟨gb956, _, none⟩) (have z0_ := hw953_1; have z1_ := GW956; Zas) _).trans (((cell_far (p := ⟨gb956, _, none⟩) (have z0_ := hw953_1; have z1_ := GW956; Zas) _).trans (hHeld.2.2.2.2.1)))))))))))))))))), ((cell_far (p := ⟨gb956, _, none⟩) (have z0_ := hw953_2; have z1_ := GW956; Zas) _).trans (((cell_far (p := ⟨gb956, _, none⟩) (have z0_ := hw953_2; have z1_ := GW956; Zas) _).trans (((cell_far (p := ⟨gb956, _, none⟩) (have z0_ := hw953_2; have z1_ := GW956; Zas) _).trans (((cell_far (p := ⟨gb956, _, none⟩) (have z0_ := hw953_2; have z1_ := GW956; Zas) _).trans (((cell_far (p := ⟨gb956, _, none⟩) (have z0_ := hw953_2; have z1_ := GW956; Zas) _).trans (((cell_far (p := ⟨gb956, _, none⟩) (have z0_ := hw953_2; have z1_ := GW956; Zas) _).trans (((cell_far (p := ⟨gb956, _, none⟩) (have z0_ := hw953_2; have z1_ := GW956; Zas) _).trans (((cell_far (p := ⟨gb956, _, none⟩) (have z0_ := hw953_2; have z1_ := GW956; Zas) _).trans (((cell_far (p := ⟨gb956, _, none⟩) (have z0_ := hw953_2; have z1_ := GW956; Zas) _).trans (hHeld.2.2.2.2.2.1)))))))))))))))))), ((cell_far (p := ⟨gb956, _, none⟩) (have z0_ := hw953_3; have z1_ := GW956; Zas) _).trans (((cell_far (p := ⟨gb956, _, none⟩) (have z0_ := hw953_3; have z1_ := GW956; Zas) _).trans (((cell_far (p := ⟨gb956, _, none⟩) (have z0_ := hw953_3; have z1_ := GW956; Zas) _).trans (((cell_far (p := ⟨gb956, _, none⟩) (have z0_ := hw953_3; have z1_ := GW956; Zas) _).trans (((cell_far (p := ⟨gb956, _, none⟩) (have z0_ := hw953_3; have z1_ := GW956; Zas) _).trans (((cell_far (p := ⟨gb956, _, none⟩) (have z0_ := hw953_3; have z1_ := GW956; Zas) _).trans (((cell_far (p := ⟨gb956, _, none⟩) (have z0_ := hw953_3; have z1_ := GW956; Zas) _).trans (((cell_far (p := ⟨gb956, _, none⟩) (have z0_ := hw953_3; have z1_ := GW956; Zas) _).trans (((cell_far (p := ⟨gb956, _, none⟩) (have z0_ := hw953_3; have z1_ := GW956; Zas) _).trans (hHeld.2.2.2.2.2.2.1)))))))))))))))))), ((cell_far (p := ⟨gb956, _, none⟩) (have z0_ := hw955_0; have z1_ := GW956; Zas) _).trans (((cell_far (p := ⟨gb956, _, none⟩) (have z0_ := hw955_0; have z1_ := GW956; Zas) _).trans (((cell_far (p := ⟨gb956, _, none⟩) (have z0_ := hw955_0; have z1_ := GW956; Zas) _).trans (((cell_far (p := ⟨gb956, _, none⟩) (have z0_ := hw955_0; have z1_ := GW956; Zas) _).trans (((cell_far (p := ⟨gb956, _, none⟩) (have z0_ := hw955_0; have z1_ := GW956; Zas) _).trans (((cell_far (p := ⟨gb956, _, none⟩) (have z0_ := hw955_0; have z1_ := GW956; Zas) _).trans (((cell_far (p := ⟨gb956, _, none⟩) (have z0_ := hw955_0; have z1_ := GW956; Zas) _).trans (((cell_far (p := ⟨gb956, _, none⟩) (have z0_ := hw955_0; have z1_ := GW956; Zas) _).trans (((cell_far (p := ⟨gb956, _, none⟩) (have z0_ := hw955_0; have z1_ := GW956; Zas) _).trans (hHeld.2.2.2.2.2.2.2.1)))))))))))))))))), ((cell_far (p := ⟨gb956, _, none⟩) (have z0_ := hw955_1; have z1_ := GW956; Zas) _).trans (((cell_far (p := ⟨gb956, _, none⟩) (have z0_ := hw955_1; have z1_ := GW956; Zas) _).trans (((cell_far (p := ⟨gb956, _, none⟩) (have z0_ := hw955_1; have z1_ := GW956; Zas) _).trans (((cell_far (p := ⟨gb956, _, none⟩) (have z0_ := hw955_1; have z1_ := GW956; Zas) _).trans (((cell_far (p := ⟨gb956, _, none⟩) (have z0_ := hw955_1; have z1_ := GW956; Zas) _).trans (((cell_far (p := ⟨gb956, _, none⟩) (have z0_ := hw955_1; have z1_ := GW956; Zas) _).trans (((cell_far (p := ⟨gb956, _, none⟩) (have z0_ := hw955_1; have z1_ := GW956; Zas) _).trans (((cell_far (p := ⟨gb956, _, none⟩) (have z0_ := hw955_1; have z1_ := GW956; Zas) _).trans (((cell_far (p := ⟨gb956, _, none⟩) (have z0_ := hw955_1; have z1_ := GW956; Zas) _).trans (hHeld.2.2.2.2.2.2.2.2.1)))))))))))))))))), ((cell_far (p := ⟨gb956, _, none⟩) (have z0_ := hw955_2; have z1_ := GW956; Zas) _).trans (((cell_far (p := ⟨gb956, _, none⟩) (have z0_ := hw955_2; have z1_ := GW956; Zas) _).trans (((cell_far (p := ⟨gb956, _, none⟩) (have z0_ := hw955_2; have z1_ := GW956; Zas) _).trans (((cell_far (p := ⟨gb956, _, none⟩) (have z0_ := hw955_2; have z1_ := GW956; Zas) _).trans (((cell_far (p := ⟨gb956, _, none⟩) (have z0_ := hw955_2; have z1_ := GW956; Zas) _).trans (((cell_far (p := ⟨gb956, _, none⟩) (have z0_ := hw955_2; have z1_ := GW956; Zas) _).trans (((cell_far (p := ⟨gb956, _, none⟩) (have z0_ := hw955_2; have z1_ := GW956; Zas) _).trans (((cell_far (p := ⟨gb956, _, none⟩) (have z0_ := hw955_2; have z1_ := GW956; Zas) _).trans (((cell_far (p := ⟨gb956, _, none⟩) (have z0_ := hw955_2; have z1_ := GW956; Zas) _).trans (hHeld.2.2.2.2.2.2.2.2.2.1)))))))))))))))))), ((cell_far (p := ⟨gb956, _, none⟩) (have z0_ := hw955_3; have z1_ := GW956; Zas) _).trans (((cell_far (p := ⟨gb956, _, none⟩) (have z0_ := hw955_3; have z1_ := GW956; Zas) _).trans (((cell_far (p := ⟨gb956, _, none⟩) (have z0_ := hw955_3; have z1_ := GW956; Zas) _).trans (((cell_far (p := ⟨gb956, _, none⟩) (have z0_ := hw955_3; have z1_ := GW956; Zas) _).trans (((cell_far (p := ⟨gb956, _, none⟩) (have z0_ := hw955_3; have z1_ := GW956; Zas) _).trans (((cell_far (p := ⟨gb956, _, none⟩) (have z0_ := hw955_3; have z1_ := GW956; Zas) _).trans (((cell_far (p := ⟨gb956, _, none⟩) (have z0_ := hw955_3; have z1_ := GW956; Zas) _).trans (((cell_far (p := ⟨gb956, _, none⟩) (have z0_ := hw955_3; have z1_ := GW956; Zas) _).trans (((cell_far (p := ⟨gb956, _, none⟩) (have z0_ := hw955_3; have z1_ := GW956; Zas) _).trans (hHeld.2.2.2.2.2.2.2.2.2.2.1)))))))))))))))))), ((cell_far (p := ⟨gb956, _, none⟩) (have z0_ := hw955_4; have z1_ := GW956; Zas) _).trans (((cell_far (p := ⟨gb956, _, none⟩) (have z0_ := hw955_4; have z1_ := GW956; Zas) _).trans (((cell_far (p := ⟨gb956, _, none⟩) (have z0_ := hw955_4; have z1_ := GW956; Zas) _).trans (((cell_far (p := ⟨gb956, _, none⟩) (have z0_ := hw955_4; have z1_ := GW956; Zas) _).trans (((cell_far (p := ⟨gb956, _, none⟩) (have z0_ := hw955_4; have z1_ := GW956; Zas) _).trans (((cell_far (p := ⟨gb956, _, none⟩) (have z0_ := hw955_4; have z1_ := GW956; Zas) _).trans (((cell_far (p := ⟨gb956, _, none⟩) (have z0_ := hw955_4; have z1_ := GW956; Zas) _).trans (((cell_far (p := ⟨gb956, _, none⟩) (have z0_ := hw955_4; have z1_ := GW956; Zas) _).trans (((cell_far (p := ⟨gb956, _, none⟩) (have z0_ := hw955_4; have z1_ := GW956; Zas) _).trans (hHeld.2.2.2.2.2.2.2.2.2.2.2.1)))))))))))))))))), ((cell_far (p := ⟨gb956, _, none⟩) (have z0_ := hw955_5; have z1_ := GW956; Zas) _).trans (((cell_far (p := ⟨gb956, _, none⟩) (have z0_ := hw955_5; have z1_ := GW956; Zas) _).trans (((cell_far (p := ⟨gb956, _, none⟩) (have z0_ := hw955_5; have z1_ := GW956; Zas) _).trans (((cell_far (p := ⟨gb956, _, none⟩) (have z0_ := hw955_5; have z1_ := GW956; Zas) _).trans (((cell_far (p := ⟨gb956, _, none⟩) (have z0_ := hw955_5; have z1_ := GW956; Zas) _).trans (((cell_far (p := ⟨gb956, _, none⟩) (have z0_ := hw955_5; have z1_ := GW956; Zas) _).trans (((cell_far (p := ⟨gb956, _, none⟩) (have z0_ := hw955_5; have z1_ := GW956; Zas) _).trans (((cell_far (p := ⟨gb956, _, none⟩) (have z0_ := hw955_5; have z1_ := GW956; Zas) _).trans (((cell_far (p := ⟨gb956, _, none⟩) (have z0_ := hw955_5; have z1_ := GW956; Zas) _).trans (hHeld.2.2.2.2.2.2.2.2.2.2.2.2.1)))))))))))))))))), ((cell_far (p := ⟨gb956, _, none⟩) (have z0_ := hw955_6; have z1_ := GW956; Zas) _).trans (((cell_far (p := ⟨gb956, _, none⟩) (have z0_ := hw955_6; have z1_ := GW956; Zas) _).trans (((cell_far (p := ⟨gb956, _, none⟩) (have z0_ := hw955_6; have z1_ := GW956; Zas) _).trans (((cell_far (p := ⟨gb956, _, none⟩) (have z0_ := hw955_6; have z1_ := GW956; Zas) _).trans (((cell_far (p := ⟨gb956, _, none⟩) (have z0_ := hw955_6; have z1_ := GW956; Zas) _).trans (((cell_far (p := ⟨gb956, _, none⟩) (have z0_ := hw955_6; have z1_ := GW956; Zas) _).trans (((cell_far (p := ⟨gb956, _, none⟩) (have z0_ := hw955_6; have z1_ := GW956; Zas) _).trans (((cell_far (p := ⟨gb956, _, none⟩) (have z0_ := hw955_6; have z1_ := GW956; Zas) _).trans (((cell_far (p := ⟨gb956, _, none⟩) (have z0_ := hw955_6; have z1_ := GW956; Zas) _).trans (hHeld.2.2.2.2.2.2.2.2.2.2.2.2.2.1)))))))))))))))))), ((cell_far (p := ⟨gb956, _, none⟩) (have z0_ := hw955_7; have z1_ := GW956; Zas) _).trans (((cell_far (p := ⟨gb956, _, none⟩) (have z0_ := hw955_7; have z1_ := GW956; Zas) _).trans (((cell_far (p := ⟨gb956, _, none⟩) (have z0_ := hw955_7; have z1_ := GW956; Zas) _).trans (((cell_far (p := ⟨gb956, _, none⟩) (have z0_ := hw955_7; have z1_ := GW956; Zas) _).trans (((cell_far (p := ⟨gb956, _, none⟩) (have z0_ := hw955_7; have z1_ := GW956; Zas) _).trans (((cell_far (p := ⟨gb956, _, none⟩) (have z0_ := hw955_7; have z1_ := GW956; Zas) _).trans (((cell_far (p := ⟨gb956, _, none⟩) (have z0_ := hw955_7; have z1_ := GW956; Zas) _).trans (((cell_far (p := ⟨gb956, _, none⟩) (have z0_ := hw955_7; have z1_ := GW956; Zas) _).trans (((cell_far (p := ⟨gb956, _, none⟩) (have z0_ := hw955_7; have z1_ := GW956; Zas) _).trans (hHeld.2.2.2.2.2.2.2.2.2.2.2.2.2.2.1)))))))))))))))))), ((cell_far (p := ⟨gb956, _, none⟩) (have z0_ := hw955_8; have z1_ := GW956; Zas) _).trans (((cell_far (p := ⟨gb956, _, none⟩) (have z0_ := hw955_8; have z1_ := GW956; Zas) _).trans (((cell_far (p := ⟨gb956, _, none⟩) (have z0_ := hw955_8; have z1_ := GW956; Zas) _).trans (((cell_far (p := ⟨gb956, _, none⟩) (have z0_ := hw955_8; have z1_ := GW956; Zas) _).trans (((cell_far (p := ⟨gb956, _, none⟩) (have z0_ := hw955_8; have z1_ := GW956; Zas) _).trans (((cell_far (p := ⟨gb956, _, none⟩) (have z0_ := hw955_8; have z1_ := GW956; Zas) _).trans (((cell_far (p := ⟨gb956, _, none⟩) (have z0_ := hw955_8; have z1_ := GW956; Zas) _).trans (((cell_far (p := ⟨gb956, _, none⟩) (have z0_ := hw955_8; have z1_ := GW956; Zas) _).trans (((cell_far (p := ⟨gb956, _, none⟩) (have z0_ := hw955_8; have z1_ := GW956; Zas) _).trans (hHeld.2.2.2.2.2.2.2.2.2.2.2.2.2.2.2))))))))))))))))))⟩ (fun hHeld => ?_)
         clear hK K
         refine done_ (done_of HT_.out Zj) ?_
         try go_wp2
         have n0_ : Aside0 ((((((((((w19.setCell ⟨gb956, 0, none⟩ (.string ((rd_T92 l0_1 t954).f0))).setCell ⟨gb956, 1, none⟩ (.int .i64 ((rd_T92 l0_1 t954).f1))).setCell ⟨gb956, 2, none⟩ (.int .i64 ((rd_T92 l0_1 t954).f2))).setCell ⟨gb956, 3, none⟩ (.int .i64 ((rd_T92 l0_1 t954).f3))).setCell ⟨gb956, 4, none⟩ (.int .i64 ((rd_T92 l0_1 t954).f4))).setCell ⟨gb956, 5, none⟩ (.int .i64 ((rd_T92 l0_1 t954).f5))).setCell ⟨gb956, 6, none⟩ (.int .i64 ((rd_T92 l0_1 t954).f6))).setCell ⟨gb956, 7, none⟩ (.int .i64 ((rd_T92 l0_1 t954).f7))).setCell ⟨gb956, 8, none⟩ (.int .i64 ((rd_T92 l0_1 t954).f8))).heap[gb951]? = some (.cells #[.slice A0_0 l0_0.length c0_0, .slice (some ad955) l0_1.length c0_1, .slice (some ad953) l0_2.length c0_2] 32 (0, 0))) := ⟨by (with_reducible repeat (first | refine blk_drewN ?_ _ | refine blk_drew ?_ | refine blk_alloc ?_ _)); refine blk_far ?_ NB951_956.out _; (with_reducible repeat (first | refine blk_drewN ?_ _ | refine blk_drew ?_ | refine blk_alloc ?_ _)); refine blk_far ?_ NB951_956.out _; (with_reducible repeat (first | refine blk_drewN ?_ _ | refine blk_drew ?_ | refine blk_alloc ?_ _)); refine blk_far ?_ NB951_956.out _; (with_reducible repeat (first | refine blk_drewN ?_ _ | refine blk_drew ?_ | refine blk_alloc ?_ _)); refine blk_far ?_ NB951_956.out _; (with_reducible repeat (first | refine blk_drewN ?_ _ | refine blk_drew ?_ | refine blk_alloc ?_ _)); refine blk_far ?_ NB951_956.out _; (with_reducible repeat (first | refine blk_drewN ?_ _ | refine blk_drew ?_ | refine blk_alloc ?_ _)); refine blk_far ?_ NB951_956.out _; (with_reducible repeat (first | refine blk_drewN ?_ _ | refine blk_drew ?_ | refine blk_alloc ?_ _)); refine blk_far ?_ NB951_956.out _; (with_reducible repeat (first | refine blk_drewN ?_ _ | refine blk_drew ?_ | refine blk_alloc ?_ _)); refine blk_far ?_ NB951_956.out _; (with_reducible repeat (first | refine blk_drewN ?_ _ | refine blk_drew ?_ | refine blk_alloc ?_ _)); refine blk_far ?_ NB951_956.out _; (with_reducible repeat (first | refine blk_drewN ?_ _ | refine blk_drew ?_ | refine blk_alloc ?_ _)); exact BK951.out⟩
         have n1_ : Aside0 ((((((((((w19.setCell ⟨gb956, 0, none⟩ (.string ((rd_T92 l0_1 t954).f0))).setCell ⟨gb956, 1, none⟩ (.int .i64 ((rd_T92 l0_1 t954).f1))).setCell ⟨gb956, 2, none⟩ (.int .i64 ((rd_T92 l0_1 t954).f2))).setCell ⟨gb956, 3, none⟩ (.int .i64 ((rd_T92 l0_1 t954).f3))).setCell ⟨gb956, 4, none⟩ (.int .i64 ((rd_T92 l0_1 t954).f4))).setCell ⟨gb956, 5, none⟩ (.int .i64 ((rd_T92 l0_1 t954).f5))).setCell ⟨gb956, 6, none⟩ (.int .i64 ((rd_T92 l0_1 t954).f6))).setCell ⟨gb956, 7, none⟩ (.int .i64 ((rd_T92 l0_1 t954).f7))).setCell ⟨gb956, 8, none⟩ (.int .i64 ((rd_T92 l0_1 t954).f8))).heap[gb956]? = some (.cells #[.string ((rd_T92 l0_1 t954).f0), .int .i64 ((rd_T92 l0_1 t954).f1), .int .i64 ((rd_T92 l0_1 t954).f2), .int .i64 ((rd_T92 l0_1 t954).f3), .int .i64 ((rd_T92 l0_1 t954).f4), .int .i64 ((rd_T92 l0_1 t954).f5), .int .i64 ((rd_T92 l0_1 t954).f6), .int .i64 ((rd_T92 l0_1 t954).f7), .int .i64 ((rd_T92 l0_1 t954).f8)] 92 (0, 0))) := ⟨by (with_reducible repeat (first | refine blk_drewN ?_ _ | refine blk_drew ?_ | refine blk_alloc ?_ _)); refine blk_put (cs := #[.string ((rd_T92 l0_1 t954).f0), .int .i64 ((rd_T92 l0_1 t954).f1), .int .i64 ((rd_T92 l0_1 t954).f2), .int .i64 ((rd_T92 l0_1 t954).f3), .int .i64 ((rd_T92 l0_1 t954).f4), .int .i64 ((rd_T92 l0_1 t954).f5), .int .i64 ((rd_T92 l0_1 t954).f6), .int .i64 ((rd_T92 l0_1 t954).f7), .int .i64 0]) ?_ 8 _ rfl; (with_reducible repeat (first | refine blk_drewN ?_ _ | refine blk_drew ?_ | refine blk_alloc ?_ _)); refine blk_put (cs := #[.string ((rd_T92 l0_1 t954).f0), .int .i64 ((rd_T92 l0_1 t954).f1), .int .i64 ((rd_T92 l0_1 t954).f2), .int .i64 ((rd_T92 l0_1 t954).f3), .int .i64 ((rd_T92 l0_1 t954).f4), .int .i64 ((rd_T92 l0_1 t954).f5), .int .i64 ((rd_T92 l0_1 t954).f6), .int .i64 0, .int .i64 0]) ?_ 7 _ rfl; (with_reducible repeat (first | refine blk_drewN ?_ _ | refine blk_drew ?_ | refine blk_alloc ?_ _)); refine blk_put (cs := #[.string ((rd_T92 l0_1 t954).f0), .int .i64 ((rd_T92 l0_1 t954).f1), .int .i64 ((rd_T92 l0_1 t954).f2), .int .i64 ((rd_T92 l0_1 t954).f3), .int .i64 ((rd_T92 l0_1 t954).f4), .int .i64 ((rd_T92 l0_1 t954).f5), .int .i64 0, .int .i64 0, .int .i64 0]) ?_ 6 _ rfl; (with_reducible repeat (first | refine blk_drewN ?_ _ | refine blk_drew ?_ | refine blk_alloc ?_ _)); refine blk_put (cs := #[.string ((rd_T92 l0_1 t954).f0), .int .i64 ((rd_T92 l0_1 t954).f1), .int .i64 ((rd_T92 l0_1 t954).f2), .int .i64 ((rd_T92 l0_1 t954).f3), .int .i64 ((rd_T92 l0_1 t954).f4), .int .i64 0, .int .i64 0, .int .i64 0, .int .i64 0]) ?_ 5 _ rfl; (with_reducible repeat (first | refine blk_drewN ?_ _ | refine blk_drew ?_ | refine blk_alloc ?_ _)); refine blk_put (cs := #[.string ((rd_T92 l0_1 t954).f0), .int .i64 ((rd_T92 l0_1 t954).f1), .int .i64 ((rd_T92 l0_1 t954).f2), .int .i64 ((rd_T92 l0_1 t954).f3), .int .i64 0, .int .i64 0, .int .i64 0, .int .i64 0, .int .i64 0]) ?_ 4 _ rfl; (with_reducible repeat (first | refine blk_drewN ?_ _ | refine blk_drew ?_ | refine blk_alloc ?_ _)); refine blk_put (cs := #[.string ((rd_T92 l0_1 t954).f0), .int .i64 ((rd_T92 l0_1 t954).f1), .int .i64 ((rd_T92 l0_1 t954).f2), .int .i64 0, .int .i64 0, .int .i64 0, .int .i64 0, .int .i64 0, .int .i64 0]) ?_ 3 _ rfl; (with_reducible repeat (first | refine blk_drewN ?_ _ | refine blk_drew ?_ | refine blk_alloc ?_ _)); refine blk_put (cs := #[.string ((rd_T92 l0_1 t954).f0), .int .i64 ((rd_T92 l0_1 t954).f1), .int .i64 0, .int .i64 0, .int .i64 0, .int .i64 0, .int .i64 0, .int .i64 0, .int .i64 0]) ?_ 2 _ rfl; (with_reducible repeat (first | refine blk_drewN ?_ _ | refine blk_drew ?_ | refine blk_alloc ?_ _)); refine blk_put (cs := #[.string ((rd_T92 l0_1 t954).f0), .int .i64 0, .int .i64 0, .int .i64 0, .int .i64 0, .int .i64 0, .int .i64 0, .int .i64 0, .int .i64 0]) ?_ 1 _ rfl; (with_reducible repeat (first | refine blk_drewN ?_ _ | refine blk_drew ?_ | refine blk_alloc ?_ _)); refine blk_put (cs := #[.string (⟨#[]⟩ : ByteArray), .int .i64 0, .int .i64 0, .int .i64 0, .int .i64 0, .int .i64 0, .int .i64 0, .int .i64 0, .int .i64 0]) ?_ 0 _ rfl; (with_reducible repeat (first | refine blk_drewN ?_ _ | refine blk_drew ?_ | refine blk_alloc ?_ _)); exact BK956.out⟩
         have n2_ : Aside0 (Below w.heap.size w (((((((((w19.setCell ⟨gb956, 0, none⟩ (.string ((rd_T92 l0_1 t954).f0))).setCell ⟨gb956, 1, none⟩ (.int .i64 ((rd_T92 l0_1 t954).f1))).setCell ⟨gb956, 2, none⟩ (.int .i64 ((rd_T92 l0_1 t954).f2))).setCell ⟨gb956, 3, none⟩ (.int .i64 ((rd_T92 l0_1 t954).f3))).setCell ⟨gb956, 4, none⟩ (.int .i64 ((rd_T92 l0_1 t954).f4))).setCell ⟨gb956, 5, none⟩ (.int .i64 ((rd_T92 l0_1 t954).f5))).setCell ⟨gb956, 6, none⟩ (.int .i64 ((rd_T92 l0_1 t954).f6))).setCell ⟨gb956, 7, none⟩ (.int .i64 ((rd_T92 l0_1 t954).f7))).setCell ⟨gb956, 8, none⟩ (.int .i64 ((rd_T92 l0_1 t954).f8)))) := ⟨(have z0_ := GE951; have z1_ := GE956; Zh)⟩
         (try clear BK951)
         (try clear BK956)
         (try clear HB)
         generalize (((((((((w19.setCell ⟨gb956, 0, none⟩ (.string ((rd_T92 l0_1 t954).f0))).setCell ⟨gb956, 1, none⟩ (.int .i64 ((rd_T92 l0_1 t954).f1))).setCell ⟨gb956, 2, none⟩ (.int .i64 ((rd_T92 l0_1 t954).f2))).setCell ⟨gb956, 3, none⟩ (.int .i64 ((rd_T92 l0_1 t954).f3))).setCell ⟨gb956, 4, none⟩ (.int .i64 ((rd_T92 l0_1 t954).f4))).setCell ⟨gb956, 5, none⟩ (.int .i64 ((rd_T92 l0_1 t954).f5))).setCell ⟨gb956, 6, none⟩ (.int .i64 ((rd_T92 l0_1 t954).f6))).setCell ⟨gb956, 7, none⟩ (.int .i64 ((rd_T92 l0_1 t954).f7))).setCell ⟨gb956, 8, none⟩ (.int .i64 ((rd_T92 l0_1 t954).f8))) = w29 at n0_ n1_ n2_ ⊢
         have BK951 := n0_
         have BK956 := n1_
         have HB := n2_
         clear n0_ n1_ n2_
         have n0_ := Aside0.mk (blk_drew BK951.out)
         have n1_ := Aside0.mk (blk_drew BK956.out)
         have n2_ := Aside0.mk (below_drew1 HB.out)
         clear BK951
         clear BK956
         clear HB
         have BK951 := n0_
         have BK956 := n1_
         have HB := n2_
         clear n0_ n1_ n2_
         have p957 : 0 ≤ (x5_1 : Int) := of_decide_eq_true Zp
         have q957 : x5_1 < (l0_2.length : Int) := of_decide_eq_true Zp
         obtain ⟨ad957, e957, hx957_0, hx957_1, hx957_2, hx957_3⟩ := at_T43 HR0_2.out x5_1 p957 q957
         have hw957_3 := hx957_3
         have hw957_2 := hx957_2
         have hw957_1 := hx957_1
         have hw957_0 := hx957_0
         obtain rfl : ad953 = ad957 := (by injection e957)
         replace hx957_0 := cbH HB hx957_0
         replace hx957_1 := cbH HB hx957_1
         replace hx957_2 := cbH HB hx957_2
         replace hx957_3 := cbH HB hx957_3
         replace p957 := eq_true p957
         replace q957 := eq_true q957
         refine start_ (n := 17) (S := fun w' => w'.cell? ⟨gb956, 0, none⟩ = some (.string ((rd_T92 l0_1 t954).f0)) ∧ w'.cell? ⟨gb956, 1, none⟩ = some (.int .i64 ((rd_T92 l0_1 t954).f1)) ∧ w'.cell? ⟨gb956, 2, none⟩ = some (.int .i64 ((rd_T92 l0_1 t954).f2)) ∧ w'.cell? ⟨gb956, 3, none⟩ = some (.int .i64 ((rd_T92 l0_1 t954).f3)) ∧ w'.cell? ⟨gb956, 4, none⟩ = some (.int .i64 ((rd_T92 l0_1 t954).f4)) ∧ w'.cell? ⟨gb956, 5, none⟩ = some (.int .i64 ((rd_T92 l0_1 t954).f5)) ∧ w'.cell? ⟨gb956, 6, none⟩ = some (.int .i64 ((rd_T92 l0_1 t954).f6)) ∧ w'.cell? ⟨gb956, 7, none⟩ = some (.int .i64 ((rd_T92 l0_1 t954).f7)) ∧ w'.cell? ⟨gb956, 8, none⟩ = some (.int .i64 ((rd_T92 l0_1 t954).f8)) ∧ w'.cell? ⟨gb951, 0, none⟩ = some (.slice A0_0 l0_0.length c0_0) ∧ w'.cell? ⟨gb951, 1, none⟩ = some (.slice (some ad955) l0_1.length c0_1) ∧ w'.cell? ⟨gb951, 2, none⟩ = some (.slice (some ad953) l0_2.length c0_2) ∧ w'.cell? (ad953.add ((x5_1).toNat * 4)) = some (.int .i64 ((rd_T43 l0_2 x5_1).f0)) ∧ w'.cell? ⟨(ad953.add ((x5_1).toNat * 4)).block, (ad953.add ((x5_1).toNat * 4)).off + 1, none⟩ = some (.int .i64 ((rd_T43 l0_2 x5_1).f1)) ∧ w'.cell? ⟨(ad953.add ((x5_1).toNat * 4)).block, (ad953.add ((x5_1).toNat * 4)).off + 2, none⟩ = some (.string ((rd_T43 l0_2 x5_1).f2)) ∧ w'.cell? ⟨(ad953.add ((x5_1).toNat * 4)).block, (ad953.add ((x5_1).toNat * 4)).off + 3, none⟩ = some (.int .i64 ((rd_T43 l0_2 x5_1).f3))) (ds := []) (bT 17 0) Zj rfl rfl ⟨(blk_cell BK956.out 0).trans rfl, (blk_cell BK956.out 1).trans rfl, (blk_cell BK956.out 2).trans rfl, (blk_cell BK956.out 3).trans rfl, (blk_cell BK956.out 4).trans rfl, (blk_cell BK956.out 5).trans rfl, (blk_cell BK956.out 6).trans rfl, (blk_cell BK956.out 7).trans rfl, (blk_cell BK956.out 8).trans rfl, (blk_cell BK951.out 0).trans rfl, (blk_cell BK951.out 1).trans rfl, (blk_cell BK951.out 2).trans rfl, (cbH HB hw957_0 :), (cbH HB hw957_1 :), (cbH HB hw957_2 :), (cbH HB hw957_3 :)⟩ (fun hHeld => ?_); refine with_tabW spec_ShowEnd.tab8 spec_ShowEnd.bits8 (fun HT_ HW_ => ?_)
         generalize w29.drew = w30 at BK951 BK956 HB hx957_0 hx957_1 hx957_2 hx957_3 hHeld ⊢
         refine pureZ HT_ 0 (some 30) (bT 17 1) ?_
         refine pureZ HT_ 3 (some 33) #[true, false, false, true, false, false, false, false, false, false, false, false, false, false, false, false, false] ?_
         refine pureZ HT_ 5 (some 35) #[true, false, false, true, false, true, false, false, false, false, false, false, false, false, false, false, false] ?_
         refine pureZ HT_ 9 (some 39) #[true, false, false, true, false, true, false, false, false, true, false, false, false, false, false, false, false] ?_
         refine take_ (i := 1) (N := some 31) (v := ?_) (a' := ?_) #[true, true, false, true, false, true, false, false, false, true, false, false, false, false, false, false, false] rfl rfl (take_ofW HT_.out HW_.out Zj) (fun _ _ _ h => h) (Or.inl ⟨by rfl, ?_⟩) hHeld ?_ ?_
         rotate_left
         ·rintro w' ⟨s0, s1, s2, s3, s4, s5, s6, s7, s8, s9, s10, s11, s12, s13, s14, s15⟩
          go_simp
          with_reducible rfl
         rotate_left
         ·exact Zput
         refine take_ (i := 2) (N := some 32) (v := ?_) (a' := ?_) #[true, true, true, true, false, true, false, false, false, true, false, false, false, false, false, false, false] rfl rfl (take_ofW HT_.out HW_.out Zj) (fun _ _ _ h => h) (Or.inl ⟨by rfl, ?_⟩) hHeld ?_ ?_
         rotate_left
         ·rintro w' ⟨s0, s1, s2, s3, s4, s5, s6, s7, s8, s9, s10, s11, s12, s13, s14, s15⟩
          go_simp
          with_reducible rfl
         rotate_left
         ·exact Zput
         refine take_ (i := 4) (N := some 34) (v := ?_) (a' := ?_) #[true, true, true, true, true, true, false, false, false, true, false, false, false, false, false, false, false] rfl rfl (take_ofW HT_.out HW_.out Zj) (fun _ _ _ h => h) (Or.inl ⟨by rfl, ?_⟩) hHeld ?_ ?_
         rotate_left
         ·rintro w' ⟨s0, s1, s2, s3, s4, s5, s6, s7, s8, s9, s10, s11, s12, s13, s14, s15⟩
          go_simp
          with_reducible rfl
         rotate_left
         ·exact Zput
         refine pureZ HT_ 6 (some 36) #[true, true, true, true, true, true, true, false, false, true, false, false, false, false, false, false, false] ?_
         refine take_ (i := 7) (N := some 37) (v := ?_) (a' := ?_) #[true, true, true, true, true, true, true, true, false, true, false, false, false, false, false, false, false] rfl rfl (take_ofW HT_.out HW_.out Zj) (fun _ _ _ h => h) (Or.inl ⟨by rfl, ?_⟩) hHeld ?_ ?_
         rotate_left
         ·rintro w' ⟨s0, s1, s2, s3, s4, s5, s6, s7, s8, s9, s10, s11, s12, s13, s14, s15⟩
          go_simp
          with_reducible rfl
         rotate_left
         ·exact Zput
         refine take_ (i := 10) (N := some 40) (v := ?_) (a' := ?_) #[true, true, true, true, true, true, true, true, false, true, true, false, false, false, false, false, false] rfl rfl (take_ofW HT_.out HW_.out Zj) (fun _ _ _ h => h) (Or.inl ⟨by rfl, ?_⟩) hHeld ?_ ?_
         rotate_left
         ·rintro w' ⟨s0, s1, s2, s3, s4, s5, s6, s7, s8, s9, s10, s11, s12, s13, s14, s15⟩
          go_simp
          with_reducible rfl
         rotate_left
         ·exact Zput
         refine pureZ HT_ 11 (some 41) #[true, true, true, true, true, true, true, true, false, true, true, true, false, false, false, false, false] ?_
         refine one_ (i := 8) (N := some 38) (bT 17 12) rfl rfl (one_of HT_.out Zj) (by decide) (fun K hK => ?_)
         refine goes_ Try.func95 Zj rfl #[.agg #[.slice A0_0 l0_0.length c0_0, .slice (some ad955) l0_1.length c0_1, .slice (some ad953) l0_2.length c0_2], .agg #[.int .i64 ((rd_T43 l0_2 x5_1).f0), .int .i64 ((rd_T43 l0_2 x5_1).f1), .string ((rd_T43 l0_2 x5_1).f2), .int .i64 ((rd_T43 l0_2 x5_1).f3)]] (by rfl) rfl rfl Zo ?_
         with_reducible refine (spec_l08Time.calls k1 _ _ l0_0 _ _ l0_1 _ _ l0_2 ((rd_T43 l0_2 x5_1).f0) ((rd_T43 l0_2 x5_1).f1) ((rd_T43 l0_2 x5_1).f2) ((rd_T43 l0_2 x5_1).f3) t958 _ ?side1 ?side2 ?side3 ?side4 ?side5 ?side6 A12.out).mono ?_
         (case side1 => repeat (first | exact (Kd.C_below HR0_0.out HB.out) | (with_reducible refine Kd.C_alloc ?_ _) | (with_reducible refine Kd.C_drewN ?_ _) | (with_reducible refine Kd.C_drew ?_)))
         (case side2 => exact HC0_0.out)
         (case side3 => repeat (first | exact (Kd.C_below HR0_1.out HB.out) | (with_reducible refine Kd.C_alloc ?_ _) | (with_reducible refine Kd.C_drewN ?_ _) | (with_reducible refine Kd.C_drew ?_)))
         (case side4 => exact HC0_1.out)
         (case side5 => repeat (first | exact (Kd.C_below HR0_2.out HB.out) | (with_reducible refine Kd.C_alloc ?_ _) | (with_reducible refine Kd.C_drewN ?_ _) | (with_reducible refine Kd.C_drew ?_)))
         (case side6 => exact HC0_2.out)
         rintro e w31 ⟨rfl, hb⟩
         refine ⟨_, rfl, ?_⟩
         have n0_ := Aside0.mk (blk_below (g := gb951) (o := .cells #[.slice A0_0 l0_0.length c0_0, .slice (some ad955) l0_1.length c0_1, .slice (some ad953) l0_2.length c0_2] 32 (0, 0)) (have z0_ := BK951; Ze) hb)
         have n1_ := Aside0.mk (blk_below (g := gb956) (o := .cells #[.string ((rd_T92 l0_1 t954).f0), .int .i64 ((rd_T92 l0_1 t954).f1), .int .i64 ((rd_T92 l0_1 t954).f2), .int .i64 ((rd_T92 l0_1 t954).f3), .int .i64 ((rd_T92 l0_1 t954).f4), .int .i64 ((rd_T92 l0_1 t954).f5), .int .i64 ((rd_T92 l0_1 t954).f6), .int .i64 ((rd_T92 l0_1 t954).f7), .int .i64 ((rd_T92 l0_1 t954).f8)] 92 (0, 0)) (have z0_ := BK956; Ze) hb)
         have n2_ := Aside0.mk (below_step (have z0_ := GE951; have z1_ := GE956; Zh) hb)
         clear BK951
         clear BK956
         clear HB
         have BK951 := n0_
         have BK956 := n1_
         have HB := n2_
         clear n0_ n1_ n2_
         (try clear hb)
         (try clear hb2)
         (try clear hk)
         (try clear hi)
         refine hK.out _ _ ⟨(blk_cell BK956.out 0).trans rfl, (blk_cell BK956.out 1).trans rfl, (blk_cell BK956.out 2).trans rfl, (blk_cell BK956.out 3).trans rfl, (blk_cell BK956.out 4).trans rfl, (blk_cell BK956.out 5).trans rfl, (blk_cell BK956.out 6).trans rfl, (blk_cell BK956.out 7).trans rfl, (blk_cell BK956.out 8).trans rfl, (blk_cell BK951.out 0).trans rfl, (blk_cell BK951.out 1).trans rfl, (blk_cell BK951.out 2).trans rfl, (cbH HB hw957_0 :), (cbH HB hw957_1 :), (cbH HB hw957_2 :), (cbH HB hw957_3 :)⟩ (fun hHeld => ?_)
         clear hK K
         refine norm_ (a' := ?_) ?_ ?_
         rotate_left
         ·show Act.put _ (some 38) _ = _
          simp only [Act.put, List.setIfInBounds_toArray, List.set_cons_zero, List.set_cons_succ, i64_w, i32_w]
          rfl
         refine one_ (i := 12) (N := some 42) (bT 17 13) rfl rfl (one_of HT_.out Zj) (by decide) (fun K hK => ?_)
         refine goes_ Try.func99 Zj rfl #[.agg #[.string ((rd_T92 l0_1 t954).f0), .int .i64 ((rd_T92 l0_1 t954).f1), .int .i64 ((rd_T92 l0_1 t954).f2), .int .i64 ((rd_T92 l0_1 t954).f3), .int .i64 ((rd_T92 l0_1 t954).f4), .int .i64 ((rd_T92 l0_1 t954).f5), .int .i64 ((rd_T92 l0_1 t954).f6), .int .i64 ((rd_T92 l0_1 t954).f7), .int .i64 ((rd_T92 l0_1 t954).f8)], .int .i64 t958, .int .i64 (wrap64 (((rd_T92 l0_1 t954).f5) - 1))] (by rfl) rfl rfl Zo ?_
         with_reducible refine (spec_l03Window.calls ((rd_T92 l0_1 t954).f0) ((rd_T92 l0_1 t954).f1) ((rd_T92 l0_1 t954).f2) ((rd_T92 l0_1 t954).f3) ((rd_T92 l0_1 t954).f4) ((rd_T92 l0_1 t954).f5) ((rd_T92 l0_1 t954).f6) ((rd_T92 l0_1 t954).f7) ((rd_T92 l0_1 t954).f8) t958 (wrap64 (((rd_T92 l0_1 t954).f5) - 1)) t959 _ A13.out).mono ?_
         rintro e w32 ⟨v960, rfl, ho0, hb⟩
         refine ⟨_, rfl, ?_⟩
         have n0_ := Aside0.mk (Kd.R_lower ho0 (below_size (have z0_ := GE951; have z1_ := GE956; Zh)))
         have n1_ := Aside0.mk (blk_below (g := gb951) (o := .cells #[.slice A0_0 l0_0.length c0_0, .slice (some ad955) l0_1.length c0_1, .slice (some ad953) l0_2.length c0_2] 32 (0, 0)) (have z0_ := BK951; Ze) hb)
         have n2_ := Aside0.mk (blk_below (g := gb956) (o := .cells #[.string ((rd_T92 l0_1 t954).f0), .int .i64 ((rd_T92 l0_1 t954).f1), .int .i64 ((rd_T92 l0_1 t954).f2), .int .i64 ((rd_T92 l0_1 t954).f3), .int .i64 ((rd_T92 l0_1 t954).f4), .int .i64 ((rd_T92 l0_1 t954).f5), .int .i64 ((rd_T92 l0_1 t954).f6), .int .i64 ((rd_T92 l0_1 t954).f7), .int .i64 ((rd_T92 l0_1 t954).f8)] 92 (0, 0)) (have z0_ := BK956; Ze) hb)
         have n3_ := Aside0.mk (below_step (have z0_ := GE951; have z1_ := GE956; Zh) hb)
         clear BK951
         clear BK956
         clear HB
         have HO961 := n0_
         have BK951 := n1_
         have BK956 := n2_
         have HB := n3_
         clear n0_ n1_ n2_ n3_
         (try clear hb)
         (try clear hb2)
         (try clear hk)
         (try clear hi)
         (try clear ho0)
         obtain ⟨Ao33, co33, eo33⟩ := Kd.R_slice HO961.out
         (first | subst eo33 | (injection eo33 with f1_ f2_ f3_; have f4_ := f1_.symm; have f5_ := f3_.symm; clear f1_ f2_ f3_; subst f4_; subst f5_))
         have p962 : 0 ≤ (1 : Int) := (by omega)
         have q962 : 1 < (t959.length : Int) := of_decide_eq_true Zp
         obtain ⟨ad962, e962, hx962_0⟩ := Kd.at_int (Kd.R_reads' HO961.out).2.2 1 p962 q962
         cases e962
         (try simp only [show (1 : Int).toNat = 1 from rfl, Nat.reduceMul, Nat.reduceEqDiff, Go.Addr.add, ↓reduceIte] at hx962_0)
         have qi962 : (1 < t959.length) = True := eq_true (by omega)
         (try rw [show ((1 : Int)).toNat = 1 from rfl] at hx962_0)
         replace p962 := eq_true p962
         replace q962 := eq_true q962
         refine hK.out _ _ ⟨(blk_cell BK956.out 0).trans rfl, (blk_cell BK956.out 1).trans rfl, (blk_cell BK956.out 2).trans rfl, (blk_cell BK956.out 3).trans rfl, (blk_cell BK956.out 4).trans rfl, (blk_cell BK956.out 5).trans rfl, (blk_cell BK956.out 6).trans rfl, (blk_cell BK956.out 7).trans rfl, (blk_cell BK956.out 8).trans rfl, (blk_cell BK951.out 0).trans rfl, (blk_cell BK951.out 1).trans rfl, (blk_cell BK951.out 2).trans rfl, (cbH HB hw957_0 :), (cbH HB hw957_1 :), (cbH HB hw957_2 :), (cbH HB hw957_3 :)⟩ (fun hHeld => ?_)
         clear hK K
         refine norm_ (a' := ?_) ?_ ?_
         rotate_left
         ·show Act.put _ (some 42) _ = _
          simp only [Act.put, List.setIfInBounds_toArray, List.set_cons_zero, List.set_cons_succ, i64_w, i32_w]
          rfl
         refine pureZ HT_ 13 (some 43) (bT 17 14) ?_
         refine one_ (i := 14) (N := some 44) (bT 17 15) rfl rfl (one_of HT_.out Zj) (by decide) (fun K hK => ?_)
         refine value_ (v := .int .i64 (rd t959 1)) (by rfl) rfl (by go_simp; rfl) ?_
         refine hK.out _ _ ⟨(blk_cell BK956.out 0).trans rfl, (blk_cell BK956.out 1).trans rfl, (blk_cell BK956.out 2).trans rfl, (blk_cell BK956.out 3).trans rfl, (blk_cell BK956.out 4).trans rfl, (blk_cell BK956.out 5).trans rfl, (blk_cell BK956.out 6).trans rfl, (blk_cell BK956.out 7).trans rfl, (blk_cell BK956.out 8).trans rfl, (blk_cell BK951.out 0).trans rfl, (blk_cell BK951.out 1).trans rfl, (blk_cell BK951.out 2).trans rfl, (cbH HB hw957_0 :), (cbH HB hw957_1 :), (cbH HB hw957_2 :), (cbH HB hw957_3 :)⟩ (fun hHeld => ?_)
         clear hK K
         refine norm_ (a' := ?_) ?_ ?_
         rotate_left
         ·show Act.put _ (some 44) _ = _
          simp only [Act.put, List.setIfInBounds_toArray, List.set_cons_zero, List.set_cons_succ, i64_w, i32_w]
          rfl
         refine pureZ HT_ 15 (some 45) (bT 17 16) ?_
         refine pureZ HT_ 16 (some 4) (bT 17 17) ?_
         refine done_ (done_of HT_.out Zj) ?_
         try go_wp2
         go_roundg k1
         case measure => have := HK1.out; omega
         case rel => exact ⟨(ji15), (wrap64 (x5_1 + 1)), (by first | rfl | (simp; done) | (simp only [← hji15] <;> (first | rfl | simp)) | (simp [*]; done)), Za, H', ⟨Zt⟩, ⟨(have z0_ := BK951; Ze)⟩, ⟨(have z0_ := GE951; have z1_ := GE956; Zh)⟩⟩
        ·rw [if_neg c14] at H
         exact absurd H (by simp)
       ·rw [if_neg c11] at H
        exact absurd H (by simp)
      ·rw [if_neg c10] at H
       exact absurd H (by simp)
     ·rw [if_neg c8] at H
      exact absurd H (by simp)
    ·rw [if_neg c7] at H
     have c7b0 : decide (x5_1 < (l0_2.length : Int)) = false := decide_eq_false c7
     clear c7
     simp only [Option.some.injEq, Prod.mk.injEq] at H
     obtain ⟨rfl, rfl⟩ := H
     obtain ⟨hcz34_0, hcz34_1, hcz34_2, hfz34_0, hfz34_1, hfz34_2⟩ := cz3 BK951
     go_wp2
     go_ret2
     exact ⟨Zk, (have z0_ := GE951; Zf)⟩
 ·replace c3 := Bool.eq_false_iff.mpr c3
  subst c3
  have H1 : (some (0, 1)) = some (r1, r2) := by rw [if_neg (show ¬ (false = true) by decide)] at H; exact H
  clear H
  have H := H1
  clear H1
  simp only [Option.some.injEq, Prod.mk.injEq] at H
  obtain ⟨rfl, rfl⟩ := H
  go_enter Try.func38, Try.ntmps38
  go_wp2_with (first | ((with_reducible refine gate_dst (N := 1) rfl ?_); refine box_event ?hg (N := 1) ?hd (cs := #[.slice A0_0 l0_0.length c0_0, .slice A0_1 l0_1.length c0_1, .slice A0_2 l0_2.length c0_2]) (t := 32) ?hr ?_; (case hd => rfl); (case hg => rfl); (case hr => first | (go_simp; done) | (go_simp; rfl)); intro gb951 hg w35 hbox hb; have n0_ := Aside0.mk (below_step Zc hb); have n1_ := Aside0.mk (hbox); have n2_ := Aside0.mk ((Zd : w.heap.size ≤ gb951)); have n3_ := Aside0.mk ((Zd : w.heap.size ≤ gb951)); clear HB; have HB := n0_; have BK951 := n1_; have GW951 := n2_; have GE951 := n3_; clear n0_ n1_ n2_ n3_; clear hb hbox hg; obtain ⟨hcz36_0, hcz36_1, hcz36_2, hfz36_0, hfz36_1, hfz36_2⟩ := cz3 BK951) | ((with_reducible refine gate_callee (f := 36) rfl ?_); refine goesL_ (some 8) rfl rfl Try.func36 Zj rfl #[.agg #[.slice A0_0 l0_0.length c0_0, .slice A0_1 l0_1.length c0_1, .slice A0_2 l0_2.length c0_2]] rfl Zo ?_; (with_reducible refine (spec_IsShow.calls k _ _ l0_0 _ _ l0_1 _ _ l0_2 false _ ?side1 ?side2 ?side3 ?side4 ?side5 ?side6 A2.out).mono ?_); (case side1 => repeat (first | exact (Kd.C_below HR0_0.out HB.out) | (with_reducible refine Kd.C_alloc ?_ _) | (with_reducible refine Kd.C_drewN ?_ _) | (with_reducible refine Kd.C_drew ?_))); (case side2 => exact HC0_0.out); (case side3 => repeat (first | exact (Kd.C_below HR0_1.out HB.out) | (with_reducible refine Kd.C_alloc ?_ _) | (with_reducible refine Kd.C_drewN ?_ _) | (with_reducible refine Kd.C_drew ?_))); (case side4 => exact HC0_1.out); (case side5 => repeat (first | exact (Kd.C_below HR0_2.out HB.out) | (with_reducible refine Kd.C_alloc ?_ _) | (with_reducible refine Kd.C_drewN ?_ _) | (with_reducible refine Kd.C_drew ?_))); (case side6 => exact HC0_2.out); rintro e w37 ⟨rfl, hb⟩; refine ⟨_, rfl, ?_⟩; have n0_ := Aside0.mk (blk_below (g := gb951) (o := .cells #[.slice A0_0 l0_0.length c0_0, .slice A0_1 l0_1.length c0_1, .slice A0_2 l0_2.length c0_2] 32 (0, 0)) (have z0_ := BK951; Ze) hb); have n1_ := Aside0.mk (below_step (have z0_ := GE951; Zf) hb); clear BK951; clear HB; have BK951 := n0_; have HB := n1_; clear n0_ n1_; (try clear hb); (try clear hb2); (try clear hk); (try clear hi)))
  go_ret2
  exact ⟨Zk, (have z0_ := GE951; Zf)⟩
end Go.Proofs.Ytnlbaflbhicooaa.F
namespace Go.Proofs.Ytnlbaflbhicooaa.F
open Go.RowKit Go.Proofs.YtnlbaflbhicooaaW.PrintWords Go.Proofs.YtnlbaflbhicooaaW.PrintLast Go.Proofs.YtnlbaflbhicooaaW.PrintMore
attribute [local go_sem] max2_int min2_int max_two min_two max_three min_three max_four min_four   -- for this text's walks alone
set_option linter.unusedVariables false
set_option linter.unusedSimpArgs false
def impl_articleOf.l0 : Nat → ByteArray → List (S92) → Int → Int → Option (Int)
 | 0, _, _, _, _ => none
 | k + 1, x1, x7, x8, x9 => if x9 < x8 then (if 0 ≤ x9 then (if x9 < (x7.length : Int) then (if ((rd_T92 x7 x9).f0).toList = x1.toList then (some x9) else (impl_articleOf.l0 k x1 x7 x8 (wrap64 (x9 + 1)))) else (none)) else (none)) else (some (-1))
def impl_articleOf.f (k : Nat) (l0 : List (S92)) (a1 : ByteArray) : Option (Int) := impl_articleOf.l0 k a1 l0 (l0.length : Int) 0
set_option maxHeartbeats 8000000 in
set_option maxRecDepth 100000 in
theorem impl_articleOf.calls (k : Nat) (A0 : Option Addr) (c0 : Nat) (l0 : List (S92)) (a1 : ByteArray) (r : Int) (w : World) (hr0 : Kd.C k92 w A0 l0.length l0) (hc0 : l0.length ≤ c0) (h : impl_articleOf.f k l0 a1 = some r) :
  Calls Try.prog 113 #[.slice A0 l0.length c0, .string a1] w fun e w' => e = .returned (.int .i64 r) ∧ Below w.heap.size w w' := by
 have hu92 := Try.underlying92
 have HR0 := Aside0.mk hr0
 have HC0 := Aside0.mk hc0
 clear hr0 hc0
 have HB := Aside0.mk (Below.refl w.heap.size w)
 have H : (impl_articleOf.l0 k a1 l0 (l0.length : Int) 0) = some r := h
 clear h
 have H' := Aside0.mk H
 clear H
 go_enter Try.func113, Try.ntmps113
 go_wp2
 go_loopg [9] k (fun kq v9 w' => ∃ (x9_1 : Int), v9 = .int .i64 x9_1 ∧ Aside0 (impl_articleOf.l0 kq a1 l0 (l0.length : Int) x9_1 = some r) ∧ Aside0 (kq ≤ k) ∧ Aside0 (Below w.heap.size w w'))
 case atStart => exact ⟨(0), Za, H', ⟨Nat.le_refl _⟩, ⟨Zc⟩⟩
 case round =>
  clear H'
  try clear c1
  try clear p2
  obtain ⟨x9_1, rfl, HA, HK1, HB⟩ := hrel
  cases gk with
  | zero => exact absurd HA.out (by simp [impl_articleOf.l0])
  | succ k1 =>
   have H := HA.out
   clear HA
   simp only [impl_articleOf.l0] at H
   by_cases c3 : x9_1 < (l0.length : Int)
   ·rw [if_pos c3] at H
    have c3b0 : decide (x9_1 < (l0.length : Int)) = true := decide_eq_true c3
    clear c3
    by_cases c4 : 0 ≤ x9_1
    ·rw [if_pos c4] at H
     have c4b0 : decide (0 ≤ x9_1) = true := decide_eq_true c4
     clear c4
     by_cases c5 : x9_1 < (l0.length : Int)
     ·rw [if_pos c5] at H
      have c5b0 : decide (x9_1 < (l0.length : Int)) = true := decide_eq_true c5
      clear c5
      by_cases c6 : ((rd_T92 l0 x9_1).f0).toList = a1.toList
      ·rw [if_pos c6] at H
       have c6b0 : (((rd_T92 l0 x9_1).f0).toList == a1.toList) = true := beq_iff_eq.mpr c6
       have c6b1 : (((rd_T92 l0 x9_1).f0).toList != a1.toList) = false := bne_eq_false_iff_eq.mpr c6
       clear c6
       obtain rfl := Option.some.inj H
       have p304 : 0 ≤ (x9_1 : Int) := of_decide_eq_true Zp
       have q304 : x9_1 < (l0.length : Int) := of_decide_eq_true Zp
       obtain ⟨ad304, e304, hx304_0, hx304_1, hx304_2, hx304_3, hx304_4, hx304_5, hx304_6, hx304_7, hx304_8⟩ := at_T92 HR0.out x9_1 p304 q304
       cases e304
       replace hx304_0 := cbH HB hx304_0
       replace hx304_1 := cbH HB hx304_1
       replace hx304_2 := cbH HB hx304_2
       replace hx304_3 := cbH HB hx304_3
       replace hx304_4 := cbH HB hx304_4
       replace hx304_5 := cbH HB hx304_5
       replace hx304_6 := cbH HB hx304_6
       replace hx304_7 := cbH HB hx304_7
       replace hx304_8 := cbH HB hx304_8
       replace p304 := eq_true p304
       replace q304 := eq_true q304
       go_wp2_with (first | ((with_reducible refine gate_dst (N := 6) rfl ?_); refine box_event ?hg (N := 6) ?hd (cs := #[.string (⟨#[]⟩ : ByteArray), .int .i64 0, .int .i64 0, .int .i64 0, .int .i64 0, .int .i64 0, .int .i64 0, .int .i64 0, .int .i64 0]) (t := 92) ?hr ?_; (case hd => rfl); (case hg => rfl); (case hr => first | (go_simp; done) | (go_simp; rfl)); intro gb305 hg w7 hbox hb; have n0_ := Aside0.mk (below_step Zc hb); have n1_ := Aside0.mk (hbox); have n2_ := Aside0.mk ((Zd : w.heap.size ≤ gb305)); have n3_ := Aside0.mk ((Zd : w.heap.size ≤ gb305)); clear HB; have HB := n0_; have BK305 := n1_; have GW305 := n2_; have GE305 := n3_; clear n0_ n1_ n2_ n3_; clear hb hbox hg; obtain ⟨hcz8_0, hcz8_1, hcz8_2, hcz8_3, hcz8_4, hcz8_5, hcz8_6, hcz8_7, hcz8_8, hfz8_0, hfz8_1, hfz8_2, hfz8_3, hfz8_4, hfz8_5, hfz8_6, hfz8_7, hfz8_8⟩ := cz9 BK305))
       go_ret
       exact ⟨Zk, (have z0_ := GE305; Zf)⟩
      ·rw [if_neg c6] at H
       have c6b0 : (((rd_T92 l0 x9_1).f0).toList == a1.toList) = false := beq_eq_false_iff_ne.mpr c6
       have c6b1 : (((rd_T92 l0 x9_1).f0).toList != a1.toList) = true := bne_iff_ne.mpr c6
       have H' := Aside0.mk H
       clear H
       have p304 : 0 ≤ (x9_1 : Int) := of_decide_eq_true Zp
       have q304 : x9_1 < (l0.length : Int) := of_decide_eq_true Zp
       obtain ⟨ad304, e304, hx304_0, hx304_1, hx304_2, hx304_3, hx304_4, hx304_5, hx304_6, hx304_7, hx304_8⟩ := at_T92 HR0.out x9_1 p304 q304
       cases e304
       replace hx304_0 := cbH HB hx304_0
       replace hx304_1 := cbH HB hx304_1
       replace hx304_2 := cbH HB hx304_2
       replace hx304_3 := cbH HB hx304_3
       replace hx304_4 := cbH HB hx304_4
       replace hx304_5 := cbH HB hx304_5
       replace hx304_6 := cbH HB hx304_6
       replace hx304_7 := cbH HB hx304_7
       replace hx304_8 := cbH HB hx304_8
       replace p304 := eq_true p304
       replace q304 := eq_true q304
       go_wp2_with (first | ((with_reducible refine gate_dst (N := 6) rfl ?_); refine box_event ?hg (N := 6) ?hd (cs := #[.string (⟨#[]⟩ : ByteArray), .int .i64 0, .int .i64 0, .int .i64 0, .int .i64 0, .int .i64 0, .int .i64 0, .int .i64 0, .int .i64 0]) (t := 92) ?hr ?_; (case hd => rfl); (case hg => rfl); (case hr => first | (go_simp; done) | (go_simp; rfl)); intro gb305 hg w9 hbox hb; have n0_ := Aside0.mk (below_step Zc hb); have n1_ := Aside0.mk (hbox); have n2_ := Aside0.mk ((Zd : w.heap.size ≤ gb305)); have n3_ := Aside0.mk ((Zd : w.heap.size ≤ gb305)); clear HB; have HB := n0_; have BK305 := n1_; have GW305 := n2_; have GE305 := n3_; clear n0_ n1_ n2_ n3_; clear hb hbox hg; obtain ⟨hcz10_0, hcz10_1, hcz10_2, hcz10_3, hcz10_4, hcz10_5, hcz10_6, hcz10_7, hcz10_8, hfz10_0, hfz10_1, hfz10_2, hfz10_3, hfz10_4, hfz10_5, hfz10_6, hfz10_7, hfz10_8⟩ := cz9 BK305))
       go_roundg k1
       case measure => have := HK1.out; omega
       case rel => exact ⟨(wrap64 (x9_1 + 1)), Za, H', ⟨Zt⟩, ⟨(have z0_ := GE305; Zf)⟩⟩
     ·rw [if_neg c5] at H
      exact absurd H (by simp)
    ·rw [if_neg c4] at H
     exact absurd H (by simp)
   ·rw [if_neg c3] at H
    have c3b0 : decide (x9_1 < (l0.length : Int)) = false := decide_eq_false c3
    clear c3
    obtain rfl := Option.some.inj H
    go_wp2
    go_ret
    exact ⟨Zk, Zc⟩
end Go.Proofs.Ytnlbaflbhicooaa.F
namespace Go.Proofs.Ytnlbaflbhicooaa.F
open Go.RowKit Go.Proofs.YtnlbaflbhicooaaW.PrintWords Go.Proofs.YtnlbaflbhicooaaW.PrintLast Go.Proofs.YtnlbaflbhicooaaW.PrintMore
attribute [local go_sem] max2_int min2_int max_two min_two max_three min_three max_four min_four   -- for this text's walks alone
set_option linter.unusedVariables false
set_option linter.unusedSimpArgs false
def impl_within.f (a0 : Int) (a1 : Int) (a2 : Int) : Option (Bool) := if a1 ≤ a0 then (some (decide (a0 ≤ a2))) else (some false)
set_option maxHeartbeats 8000000 in
set_option maxRecDepth 100000 in
theorem impl_within.calls (a0 : Int) (a1 : Int) (a2 : Int) (r : Bool) (w : World) (h : impl_within.f a0 a1 a2 = some r) :
  Calls Try.prog 89 #[.int .i64 a0, .int .i64 a1, .int .i64 a2] w fun e w' => e = .returned (.bool r) ∧ Drawn0 w w' := by
 have H : (if a1 ≤ a0 then (some (decide (a0 ≤ a2))) else (some false)) = some r := h
 clear h
 by_cases c4 : a1 ≤ a0
 ·rw [if_pos c4] at H
  have c4b0 : decide (a1 ≤ a0) = true := decide_eq_true c4
  clear c4
  obtain rfl := Option.some.inj H
  go_enter Try.func89, Try.ntmps89
  go_wp2
  go_ret
  exact ⟨Za, Zb⟩
 ·rw [if_neg c4] at H
  have c4b0 : decide (a1 ≤ a0) = false := decide_eq_false c4
  clear c4
  obtain rfl := Option.some.inj H
  go_enter Try.func89, Try.ntmps89
  go_wp2
  go_ret
  exact ⟨Za, Zb⟩
end Go.Proofs.Ytnlbaflbhicooaa.F
namespace Go.Proofs.Ytnlbaflbhicooaa.F
open Go.RowKit Go.Proofs.YtnlbaflbhicooaaW.PrintWords Go.Proofs.YtnlbaflbhicooaaW.PrintLast Go.Proofs.YtnlbaflbhicooaaW.PrintMore
attribute [local go_sem] max2_int min2_int max_two min_two max_three min_three max_four min_four   -- for this text's walks alone
set_option linter.unusedVariables false
set_option linter.unusedSimpArgs false
def impl_isIndex.f (a0 : Int) (a1 : Int) : Option (Bool) := (impl_within.f a0 0 (wrap64 (a1 - 1))).bind fun t306 => (some t306)
set_option maxHeartbeats 8000000 in
set_option maxRecDepth 100000 in
theorem impl_isIndex.calls (a0 : Int) (a1 : Int) (r : Bool) (w : World) (h : impl_isIndex.f a0 a1 = some r) :
  Calls Try.prog 73 #[.int .i64 a0, .int .i64 a1] w fun e w' => e = .returned (.bool r) ∧ Drawn0 w w' := by
 have H : ((impl_within.f a0 0 (wrap64 (a1 - 1))).bind fun t306 => (some t306)) = some r := h
 clear h
 replace H := Option.bind_eq_some_iff.mp H
 obtain ⟨t306, A30, H⟩ := H
 replace H : (some t306) = some r := H
 have A3 := Aside0.mk A30
 clear A30
 obtain rfl := Option.some.inj H
 go_enter Try.func73, Try.ntmps73
 go_wp2_with (first | ((with_reducible refine gate_callee (f := 89) rfl ?_); refine goesL_ (some 8) rfl rfl Try.func89 Zj rfl #[.int .i64 a0, .int .i64 0, .int .i64 (wrap64 (a1 - 1))] rfl Zo ?_; (with_reducible refine (impl_within.calls a0 0 (wrap64 (a1 - 1)) t306 _ A3.out).mono ?_); rintro e w' ⟨rfl, ⟨nd, rfl⟩⟩; refine ⟨_, rfl, ?_⟩))
 go_ret
 exact ⟨Za, Zb⟩
end Go.Proofs.Ytnlbaflbhicooaa.F
namespace Go.Proofs.Ytnlbaflbhicooaa.F
open Go.RowKit Go.Proofs.YtnlbaflbhicooaaW.PrintWords Go.Proofs.YtnlbaflbhicooaaW.PrintLast Go.Proofs.YtnlbaflbhicooaaW.PrintMore
attribute [local go_sem] max2_int min2_int max_two min_two max_three min_three max_four min_four   -- for this text's walks alone
set_option linter.unusedVariables false
set_option linter.unusedSimpArgs false
def impl_isBeat.f (l0 : List (S108)) (a1 : Int) (a2 : Int) : Option (Bool) := (impl_isIndex.f a1 (l0.length : Int)).bind fun t307 => (if t307 = true then (if 0 ≤ a1 then (if a1 < (l0.length : Int) then ((impl_within.f a2 0 (wrap64 (((rd_T108 l0 a1).f0) - 1))).bind fun t309 => (some t309)) else (none)) else (none)) else (some false))
set_option maxHeartbeats 8000000 in
set_option maxRecDepth 100000 in
theorem impl_isBeat.calls (A0 : Option Addr) (c0 : Nat) (l0 : List (S108)) (a1 : Int) (a2 : Int) (r : Bool) (w : World) (hr0 : Kd.C k108 w A0 l0.length l0) (hc0 : l0.length ≤ c0) (h : impl_isBeat.f l0 a1 a2 = some r) :
  Calls Try.prog 130 #[.slice A0 l0.length c0, .int .i64 a1, .int .i64 a2] w fun e w' => e = .returned (.bool r) ∧ Drawn0 w w' := by
 have HR0 := Aside0.mk hr0
 have HC0 := Aside0.mk hc0
 clear hr0 hc0
 have H : ((impl_isIndex.f a1 (l0.length : Int)).bind fun t307 => (if t307 = true then (if 0 ≤ a1 then (if a1 < (l0.length : Int) then ((impl_within.f a2 0 (wrap64 (((rd_T108 l0 a1).f0) - 1))).bind fun t309 => (some t309)) else (none)) else (none)) else (some false))) = some r := h
 clear h
 replace H := Option.bind_eq_some_iff.mp H
 obtain ⟨t307, A40, H⟩ := H
 replace H : (if t307 = true then (if 0 ≤ a1 then (if a1 < (l0.length : Int) then ((impl_within.f a2 0 (wrap64 (((rd_T108 l0 a1).f0) - 1))).bind fun t309 => (some t309)) else (none)) else (none)) else (some false)) = some r := H
 have A4 := Aside0.mk A40
 clear A40
 by_cases c5 : t307 = true
 ·subst c5
  have H1 : (if 0 ≤ a1 then (if a1 < (l0.length : Int) then ((impl_within.f a2 0 (wrap64 (((rd_T108 l0 a1).f0) - 1))).bind fun t309 => (some t309)) else (none)) else (none)) = some r := by rw [if_pos rfl] at H; exact H
  clear H
  have H := H1
  clear H1
  by_cases c6 : 0 ≤ a1
  ·rw [if_pos c6] at H
   have c6b0 : decide (0 ≤ a1) = true := decide_eq_true c6
   clear c6
   by_cases c7 : a1 < (l0.length : Int)
   ·rw [if_pos c7] at H
    have c7b0 : decide (a1 < (l0.length : Int)) = true := decide_eq_true c7
    clear c7
    replace H := Option.bind_eq_some_iff.mp H
    obtain ⟨t309, A80, H⟩ := H
    replace H : (some t309) = some r := H
    have A8 := Aside0.mk A80
    clear A80
    obtain rfl := Option.some.inj H
    go_enter Try.func130, Try.ntmps130
    go_wp2_with (first | ((with_reducible refine gate_callee (f := 73) rfl ?_); refine goesL_ (some 10) rfl rfl Try.func73 Zj rfl #[.int .i64 a1, .int .i64 (l0.length : Int)] rfl Zo ?_; (with_reducible refine (impl_isIndex.calls a1 (l0.length : Int) true _ A4.out).mono ?_); rintro e w' ⟨rfl, ⟨nd, rfl⟩⟩; refine ⟨_, rfl, ?_⟩; have p308 : 0 ≤ (a1 : Int) := of_decide_eq_true Zp; have q308 : a1 < (l0.length : Int) := of_decide_eq_true Zp; obtain ⟨ad308, e308, hx308_0, hx308_1⟩ := at_T108 HR0.out a1 p308 q308; cases e308; replace p308 := eq_true p308; replace q308 := eq_true q308) | (go_at_call 89; (with_reducible refine (impl_within.calls a2 0 (wrap64 (((rd_T108 l0 a1).f0) - 1)) t309 _ A8.out).mono ?_); rintro e w' ⟨rfl, ⟨nd, rfl⟩⟩))
    go_ret
    exact ⟨Za, Zb⟩
   ·rw [if_neg c7] at H
    exact absurd H (by simp)
  ·rw [if_neg c6] at H
   exact absurd H (by simp)
 ·replace c5 := Bool.eq_false_iff.mpr c5
  subst c5
  have H1 : (some false) = some r := by rw [if_neg (show ¬ (false = true) by decide)] at H; exact H
  clear H
  have H := H1
  clear H1
  obtain rfl := Option.some.inj H
  go_enter Try.func130, Try.ntmps130
  go_wp2_with (first | ((with_reducible refine gate_callee (f := 73) rfl ?_); refine goesL_ (some 10) rfl rfl Try.func73 Zj rfl #[.int .i64 a1, .int .i64 (l0.length : Int)] rfl Zo ?_; (with_reducible refine (impl_isIndex.calls a1 (l0.length : Int) false _ A4.out).mono ?_); rintro e w' ⟨rfl, ⟨nd, rfl⟩⟩; refine ⟨_, rfl, ?_⟩))
  go_ret
  exact ⟨Za, Zb⟩
end Go.Proofs.Ytnlbaflbhicooaa.F
namespace Go.Proofs.Ytnlbaflbhicooaa.F
open Go.RowKit Go.Proofs.YtnlbaflbhicooaaW.PrintWords Go.Proofs.YtnlbaflbhicooaaW.PrintLast Go.Proofs.YtnlbaflbhicooaaW.PrintMore
attribute [local go_sem] max2_int min2_int max_two min_two max_three min_three max_four min_four   -- for this text's walks alone
set_option linter.unusedVariables false
set_option linter.unusedSimpArgs false
def impl_beatTime.l0 : Nat → List (S108) → Int → Int → Int → List (S108) → Int → Int → Option (Int)
 | 0, _, _, _, _, _, _, _ => none
 | k + 1, x0, x1, x2, x7, x12, x13, x14 => if x14 < x13 then (if 0 ≤ x14 then (if x14 < (x12.length : Int) then (impl_beatTime.l0 k x0 x1 x2 (wrap64 (x7 + (wrap64 (((rd_T108 x12 x14).f0) * ((rd_T108 x12 x14).f1))))) x12 x13 (wrap64 (x14 + 1))) else (none)) else (none)) else (if x2 > 0 then (if 0 ≤ x1 then (if x1 < (x0.length : Int) then (some (wrap64 (x7 + (wrap64 (x2 * ((rd_T108 x0 x1).f1)))))) else (none)) else (none)) else (some x7))
def impl_beatTime.f (k : Nat) (l0 : List (S108)) (a1 : Int) (a2 : Int) : Option (Int) := if 0 ≤ a1 then (if a1 ≤ (l0.length : Int) then ((some (l0.take (a1 : Int).toNat : List (S108))).bind fun y310 => (impl_beatTime.l0 k l0 a1 a2 0 y310 (y310.length : Int) 0)) else (none)) else (none)
set_option maxHeartbeats 8000000 in
set_option maxRecDepth 100000 in
theorem impl_beatTime.calls (k : Nat) (A0 : Option Addr) (c0 : Nat) (l0 : List (S108)) (a1 : Int) (a2 : Int) (r : Int) (w : World) (hr0 : Kd.C k108 w A0 l0.length l0) (hc0 : l0.length ≤ c0) (h : impl_beatTime.f k l0 a1 a2 = some r) :
  Calls Try.prog 131 #[.slice A0 l0.length c0, .int .i64 a1, .int .i64 a2] w fun e w' => e = .returned (.int .i64 r) ∧ Below w.heap.size w w' := by
 have hu108 := Try.underlying108
 have HR0 := Aside0.mk hr0
 have HC0 := Aside0.mk hc0
 clear hr0 hc0
 have HB := Aside0.mk (Below.refl w.heap.size w)
 have H : (if 0 ≤ a1 then (if a1 ≤ (l0.length : Int) then ((some (l0.take (a1 : Int).toNat : List (S108))).bind fun y310 => (impl_beatTime.l0 k l0 a1 a2 0 y310 (y310.length : Int) 0)) else (none)) else (none)) = some r := h
 clear h
 by_cases c4 : 0 ≤ a1
 ·rw [if_pos c4] at H
  have c4b0 := eq_true c4
  have c4b1 : decide (0 ≤ a1) = true := decide_eq_true c4
  clear c4
  by_cases c5 : a1 ≤ (l0.length : Int)
  ·rw [if_pos c5] at H
   have c5b0 := eq_true c5
   have c5b1 : decide (a1 ≤ (l0.length : Int)) = true := decide_eq_true c5
   clear c5
   obtain ⟨y310, hy310⟩ : ∃ y_ : List (S108), y_ = (l0.take (a1 : Int).toNat) := ⟨_, rfl⟩
   replace H : (impl_beatTime.l0 k l0 a1 a2 0 y310 (y310.length : Int) 0) = some r := by first | (rw [hy310]; with_reducible exact H) | (have H2_ := (Option.bind_some _ _).symm.trans H; rw [hy310]; with_reducible exact H2_) | (have H2_ := (Option.bind_some _ _).symm.trans H; with_reducible exact H2_) | with_reducible exact H | (rw [hy310]; exact H) | exact H
   have Ny310 := Aside0.mk hy310
   clear hy310
   have H' := Aside0.mk H
   clear H
   have q6 : (a1 : Int) ≤ ((l0.length : Int) : Int) := of_decide_eq_true Zp
   obtain ⟨i06, hi06, _, hsz6, _⟩ := info_parts info108
   have hroom6 : l0.length ≤ c0 := HC0.out
   have hC6 : Kd.C k108 _ A0 l0.length l0 := HR0.out
   have hcut6 := cut_to (P := Try.prog) 28 108 .i64 Try.underlying28 hi06 A0 l0.length c0 a1 (of_decide_eq_true Zp) q6 hroom6
   have hr6 := Kd.C_take (m := (a1 : Int).toNat) hC6 (by omega)
   have hy6 : y310.length = (a1 : Int).toNat := (by rw [Ny310.out, List.length_take]; omega)
   rw [← Ny310.out] at hr6
   rw [← hy6] at hcut6
   have HR313 := Aside0.mk hr6
   have HC313 := Aside0.mk (show y310.length ≤ c0 from by omega)
   clear hr6 hC6 hroom6 hi06 hsz6
   have KY6 := Aside0.mk hy6
   clear hy6
   replace q6 := eq_true q6
   go_enter Try.func131, Try.ntmps131
   go_wp2
   go_loopg [7, 14] k (fun kq v7 v14 w' => ∃ (x7_1 : Int) (x14_1 : Int), v7 = .int .i64 x7_1 ∧ v14 = .int .i64 x14_1 ∧ Aside0 (impl_beatTime.l0 kq l0 a1 a2 x7_1 y310 (y310.length : Int) x14_1 = some r) ∧ Aside0 (kq ≤ k) ∧ Aside0 (Below w.heap.size w w'))
   case atStart => exact ⟨(0), (0), Za, Za, H', ⟨Nat.le_refl _⟩, ⟨Zc⟩⟩
   case round =>
    clear H'
    try clear c1
    try clear p2
    try clear c4
    try clear c4b0
    try clear c4b1
    try clear c5
    try clear c5b0
    try clear c5b1
    try clear q6
    try clear q6
    obtain ⟨x7_1, x14_1, rfl, rfl, HA, HK1, HB⟩ := hrel
    cases gk with
    | zero => exact absurd HA.out (by simp [impl_beatTime.l0])
    | succ k1 =>
     have H := HA.out
     clear HA
     simp only [impl_beatTime.l0] at H
     by_cases c7 : x14_1 < (y310.length : Int)
     ·rw [if_pos c7] at H
      have c7b0 : decide (x14_1 < (y310.length : Int)) = true := decide_eq_true c7
      clear c7
      by_cases c8 : 0 ≤ x14_1
      ·rw [if_pos c8] at H
       have c8b0 : decide (0 ≤ x14_1) = true := decide_eq_true c8
       clear c8
       by_cases c9 : x14_1 < (y310.length : Int)
       ·rw [if_pos c9] at H
        have c9b0 : decide (x14_1 < (y310.length : Int)) = true := decide_eq_true c9
        clear c9
        have H' := Aside0.mk H
        clear H
        have p314 : 0 ≤ (x14_1 : Int) := of_decide_eq_true Zp
        have q314 : x14_1 < (y310.length : Int) := of_decide_eq_true Zp
        obtain ⟨ad314, e314, hx314_0, hx314_1⟩ := at_T108 HR313.out x14_1 p314 q314
        cases e314
        replace hx314_0 := cbH HB hx314_0
        replace hx314_1 := cbH HB hx314_1
        replace p314 := eq_true p314
        replace q314 := eq_true q314
        go_wp2_with (first | ((with_reducible refine gate_dst (N := 9) rfl ?_); refine box_event ?hg (N := 9) ?hd (cs := #[.int .i64 0, .int .i64 0]) (t := 108) ?hr ?_; (case hd => rfl); (case hg => rfl); (case hr => first | (go_simp; done) | (go_simp; rfl)); intro gb315 hg w10 hbox hb; have n0_ := Aside0.mk (below_step Zc hb); have n1_ := Aside0.mk (hbox); have n2_ := Aside0.mk ((Zd : w.heap.size ≤ gb315)); have n3_ := Aside0.mk ((Zd : w.heap.size ≤ gb315)); clear HB; have HB := n0_; have BK315 := n1_; have GW315 := n2_; have GE315 := n3_; clear n0_ n1_ n2_ n3_; clear hb hbox hg; obtain ⟨hcz11_0, hcz11_1, hfz11_0, hfz11_1⟩ := cz2 BK315))
        go_roundg k1
        case measure => have := HK1.out; omega
        case rel => exact ⟨(wrap64 (x7_1 + (wrap64 (((rd_T108 y310 x14_1).f0) * ((rd_T108 y310 x14_1).f1))))), (wrap64 (x14_1 + 1)), Za, Za, H', ⟨Zt⟩, ⟨(have z0_ := GE315; Zf)⟩⟩
       ·rw [if_neg c9] at H
        exact absurd H (by simp)
      ·rw [if_neg c8] at H
       exact absurd H (by simp)
     ·rw [if_neg c7] at H
      have c7b0 : decide (x14_1 < (y310.length : Int)) = false := decide_eq_false c7
      clear c7
      by_cases c12 : a2 > 0
      ·rw [if_pos c12] at H
       have c12b0 : decide (0 < a2) = true := decide_eq_true c12
       clear c12
       by_cases c13 : 0 ≤ a1
       ·rw [if_pos c13] at H
        have c13b0 : decide (0 ≤ a1) = true := decide_eq_true c13
        clear c13
        by_cases c14 : a1 < (l0.length : Int)
        ·rw [if_pos c14] at H
         have c14b0 : decide (a1 < (l0.length : Int)) = true := decide_eq_true c14
         clear c14
         obtain rfl := Option.some.inj H
         have p316 : 0 ≤ (a1 : Int) := of_decide_eq_true Zp
         have q316 : a1 < (l0.length : Int) := of_decide_eq_true Zp
         obtain ⟨ad316, e316, hx316_0, hx316_1⟩ := at_T108 HR0.out a1 p316 q316
         cases e316
         replace hx316_0 := cbH HB hx316_0
         replace hx316_1 := cbH HB hx316_1
         replace p316 := eq_true p316
         replace q316 := eq_true q316
         go_wp2
         go_ret
         exact ⟨Zk, Zc⟩
        ·rw [if_neg c14] at H
         exact absurd H (by simp)
       ·rw [if_neg c13] at H
        exact absurd H (by simp)
      ·rw [if_neg c12] at H
       have c12b0 : decide (0 < a2) = false := decide_eq_false c12
       clear c12
       obtain rfl := Option.some.inj H
       go_wp2
       go_ret
       exact ⟨Zk, Zc⟩
  ·rw [if_neg c5] at H
   exact absurd H (by simp)
 ·rw [if_neg c4] at H
  exact absurd H (by simp)
end Go.Proofs.Ytnlbaflbhicooaa.F
namespace Go.Proofs.Ytnlbaflbhicooaa.F
open Go.RowKit Go.Proofs.YtnlbaflbhicooaaW.PrintWords Go.Proofs.YtnlbaflbhicooaaW.PrintLast Go.Proofs.YtnlbaflbhicooaaW.PrintMore
attribute [local go_sem] max2_int min2_int max_two min_two max_three min_three max_four min_four   -- for this text's walks alone
set_option linter.unusedVariables false
set_option linter.unusedSimpArgs false
def impl_firedAt.f (k : Nat) (l0_0 : List (S108)) (l0_1 : List (S92)) (l0_2 : List (S43)) (a1_0 : Int) (a1_1 : Int) (a1_2 : ByteArray) (a1_3 : Int) : Option (Int) := (impl_articleOf.f k l0_1 a1_2).bind fun t319 => (if t319 < 0 then (some (-1)) else ((impl_isBeat.f l0_0 a1_0 a1_1).bind fun t320 => (if t320 = true then ((impl_beatTime.f k l0_0 a1_0 a1_1).bind fun t321 => (if 0 ≤ t319 then (if t319 < (l0_1.length : Int) then (some (mx (-1) (wrap64 (t321 - ((rd_T92 l0_1 t319).f3))))) else (none)) else (none))) else (some (-1)))))
def impl_firedAt.T4 : Bool × List (List Nat × List Nat) := (true, [([], []), ([0], [0]), ([], []), ([2], [2]), ([], []), ([4], [4]), ([1, 3, 5], [1, 3, 5]), ([], []), ([7], [7]), ([], []), ([8, 9], [8, 9]), ([10], [10]), ([11], [11]), ([6, 12], [6, 12]), ([13], [13]), ([14, 6, 0, 1, 2, 3, 4, 5, 6, 7, 8, 9, 10, 11, 12, 13, 14], [14])])
def impl_firedAt.B4 : List Nat := [0, 1, 0, 4, 0, 16, 63, 0, 128, 0, 896, 1920, 3968, 8191, 16383, 32767]
theorem impl_firedAt.tab4 : rtab .any (opsOf Try.f98 4) = impl_firedAt.T4 := by kernel_rfl
theorem impl_firedAt.bits4 : waitsOk impl_firedAt.T4.2 impl_firedAt.B4 = true := by kernel_rfl
set_option maxHeartbeats 8000000 in
set_option maxRecDepth 100000 in
theorem impl_firedAt.calls (k : Nat) (A0_0 : Option Addr) (c0_0 : Nat) (l0_0 : List (S108)) (A0_1 : Option Addr) (c0_1 : Nat) (l0_1 : List (S92)) (A0_2 : Option Addr) (c0_2 : Nat) (l0_2 : List (S43)) (a1_0 : Int) (a1_1 : Int) (a1_2 : ByteArray) (a1_3 : Int) (r : Int) (w : World) (hr0_0 : Kd.C k108 w A0_0 l0_0.length l0_0) (hc0_0 : l0_0.length ≤ c0_0) (hr0_1 : Kd.C k92 w A0_1 l0_1.length l0_1) (hc0_1 : l0_1.length ≤ c0_1) (hr0_2 : Kd.C k43 w A0_2 l0_2.length l0_2) (hc0_2 : l0_2.length ≤ c0_2) (h : impl_firedAt.f k l0_0 l0_1 l0_2 a1_0 a1_1 a1_2 a1_3 = some r) :
  Calls Try.prog 98 #[.agg #[.slice A0_0 l0_0.length c0_0, .slice A0_1 l0_1.length c0_1, .slice A0_2 l0_2.length c0_2], .agg #[.int .i64 a1_0, .int .i64 a1_1, .string a1_2, .int .i64 a1_3]] w fun e w' => e = .returned (.int .i64 r) ∧ Below w.heap.size w w' := by
 have hu32 := Try.underlying32
 have hu43 := Try.underlying43
 have HR0_0 := Aside0.mk hr0_0
 have HC0_0 := Aside0.mk hc0_0
 clear hr0_0 hc0_0
 have HR0_1 := Aside0.mk hr0_1
 have HC0_1 := Aside0.mk hc0_1
 clear hr0_1 hc0_1
 have HR0_2 := Aside0.mk hr0_2
 have HC0_2 := Aside0.mk hc0_2
 clear hr0_2 hc0_2
 have HB := Aside0.mk (Below.refl w.heap.size w)
 have H : ((impl_articleOf.f k l0_1 a1_2).bind fun t319 => (if t319 < 0 then (some (-1)) else ((impl_isBeat.f l0_0 a1_0 a1_1).bind fun t320 => (if t320 = true then ((impl_beatTime.f k l0_0 a1_0 a1_1).bind fun t321 => (if 0 ≤ t319 then (if t319 < (l0_1.length : Int) then (some (mx (-1) (wrap64 (t321 - ((rd_T92 l0_1 t319).f3))))) else (none)) else (none))) else (some (-1)))))) = some r := h
 clear h
 replace H := Option.bind_eq_some_iff.mp H
 obtain ⟨t319, A30, H⟩ := H
 replace H : (if t319 < 0 then (some (-1)) else ((impl_isBeat.f l0_0 a1_0 a1_1).bind fun t320 => (if t320 = true then ((impl_beatTime.f k l0_0 a1_0 a1_1).bind fun t321 => (if 0 ≤ t319 then (if t319 < (l0_1.length : Int) then (some (mx (-1) (wrap64 (t321 - ((rd_T92 l0_1 t319).f3))))) else (none)) else (none))) else (some (-1))))) = some r := H
 have A3 := Aside0.mk A30
 clear A30
 by_cases c4 : t319 < 0
 ·rw [if_pos c4] at H
  have c4b0 : decide (t319 < 0) = true := decide_eq_true c4
  clear c4
  obtain rfl := Option.some.inj H
  go_enter Try.func98, Try.ntmps98
  go_wp2_with (first | ((with_reducible refine gate_dst (N := 2) rfl ?_); refine box_event ?hg (N := 2) ?hd (cs := #[.slice A0_0 l0_0.length c0_0, .slice A0_1 l0_1.length c0_1, .slice A0_2 l0_2.length c0_2]) (t := 32) ?hr ?_; (case hd => rfl); (case hg => rfl); (case hr => first | (go_simp; done) | (go_simp; rfl)); intro gb317 hg w5 hbox hb; have n0_ := Aside0.mk (below_step Zc hb); have n1_ := Aside0.mk (hbox); have n2_ := Aside0.mk ((Zd : w.heap.size ≤ gb317)); have n3_ := Aside0.mk ((Zd : w.heap.size ≤ gb317)); clear HB; have HB := n0_; have BK317 := n1_; have GW317 := n2_; have GE317 := n3_; clear n0_ n1_ n2_ n3_; clear hb hbox hg) | ((with_reducible refine gate_dst (N := 3) rfl ?_); refine box_event ?hg (N := 3) ?hd (cs := #[.int .i64 a1_0, .int .i64 a1_1, .string a1_2, .int .i64 a1_3]) (t := 43) ?hr ?_; (case hd => rfl); (case hg => rfl); (case hr => first | (go_simp; done) | (go_simp; rfl)); intro gb318 hg w6 hbox hb; have n0_ := Aside0.mk (blk_below (g := gb317) (o := .cells #[.slice A0_0 l0_0.length c0_0, .slice A0_1 l0_1.length c0_1, .slice A0_2 l0_2.length c0_2] 32 (0, 0)) (have z0_ := BK317; Ze) hb); have n1_ := Aside0.mk (below_step (have z0_ := GE317; Zf) hb); have n2_ := Aside0.mk (hbox); have n3_ := Aside0.mk (((have z0_ := GE317; Zg) : w.heap.size ≤ gb318)); have n4_ := Aside0.mk (((have z0_ := GE317; Zg) : w.heap.size ≤ gb318)); have n5_ := Aside0.mk (((have z0_ := BK317; Zat) : gb317 ≠ gb318)); have n6_ := Aside0.mk (((have z0_ := BK317; Zau) : gb318 ≠ gb317)); clear BK317; clear HB; have BK317 := n0_; have HB := n1_; have BK318 := n2_; have GW318 := n3_; have GE318 := n4_; have NB317_318 := n5_; have NB318_317 := n6_; clear n0_ n1_ n2_ n3_ n4_ n5_ n6_; clear hb hbox hg; have hnb7 := NB317_318.out; have hnc7 := NB318_317.out; obtain ⟨hcz8_0, hcz8_1, hcz8_2, hfz8_0, hfz8_1, hfz8_2⟩ := cz3 BK317; obtain ⟨hcz9_0, hcz9_1, hcz9_2, hcz9_3, hfz9_0, hfz9_1, hfz9_2, hfz9_3⟩ := cz4 BK318) | ((with_reducible refine gate_callee (f := 113) rfl ?_); refine goesL_ (some 10) rfl rfl Try.func113 Zj rfl #[.slice A0_1 l0_1.length c0_1, .string a1_2] rfl Zo ?_; (with_reducible refine (impl_articleOf.calls k _ _ l0_1 a1_2 t319 _ ?side1 ?side2 A3.out).mono ?_); (case side1 => repeat (first | exact (Kd.C_below HR0_1.out HB.out) | (with_reducible refine Kd.C_alloc ?_ _) | (with_reducible refine Kd.C_drewN ?_ _) | (with_reducible refine Kd.C_drew ?_))); (case side2 => exact HC0_1.out); rintro e w10 ⟨rfl, hb⟩; refine ⟨_, rfl, ?_⟩; have n0_ := Aside0.mk (blk_below (g := gb317) (o := .cells #[.slice A0_0 l0_0.length c0_0, .slice A0_1 l0_1.length c0_1, .slice A0_2 l0_2.length c0_2] 32 (0, 0)) (have z0_ := BK317; Ze) hb); have n1_ := Aside0.mk (blk_below (g := gb318) (o := .cells #[.int .i64 a1_0, .int .i64 a1_1, .string a1_2, .int .i64 a1_3] 43 (0, 0)) (have z0_ := BK318; Ze) hb); have n2_ := Aside0.mk (below_step (have z0_ := GE317; have z1_ := GE318; Zh) hb); clear BK317; clear BK318; clear HB; have BK317 := n0_; have BK318 := n1_; have HB := n2_; clear n0_ n1_ n2_; (try clear hb); (try clear hb2); (try clear hk); (try clear hi)))
  go_ret
  exact ⟨Zk, (have z0_ := GE317; have z1_ := GE318; Zh)⟩
 ·rw [if_neg c4] at H
  have c4b0 : decide (t319 < 0) = false := decide_eq_false c4
  clear c4
  replace H := Option.bind_eq_some_iff.mp H
  obtain ⟨t320, A110, H⟩ := H
  replace H : (if t320 = true then ((impl_beatTime.f k l0_0 a1_0 a1_1).bind fun t321 => (if 0 ≤ t319 then (if t319 < (l0_1.length : Int) then (some (mx (-1) (wrap64 (t321 - ((rd_T92 l0_1 t319).f3))))) else (none)) else (none))) else (some (-1))) = some r := H
  have A11 := Aside0.mk A110
  clear A110
  by_cases c12 : t320 = true
  ·subst c12
   have H1 : ((impl_beatTime.f k l0_0 a1_0 a1_1).bind fun t321 => (if 0 ≤ t319 then (if t319 < (l0_1.length : Int) then (some (mx (-1) (wrap64 (t321 - ((rd_T92 l0_1 t319).f3))))) else (none)) else (none))) = some r := by rw [if_pos rfl] at H; exact H
   clear H
   have H := H1
   clear H1
   replace H := Option.bind_eq_some_iff.mp H
   obtain ⟨t321, A130, H⟩ := H
   replace H : (if 0 ≤ t319 then (if t319 < (l0_1.length : Int) then (some (mx (-1) (wrap64 (t321 - ((rd_T92 l0_1 t319).f3))))) else (none)) else (none)) = some r := H
   have A13 := Aside0.mk A130
   clear A130
   by_cases c14 : 0 ≤ t319
   ·rw [if_pos c14] at H
    have c14b0 : decide (0 ≤ t319) = true := decide_eq_true c14
    clear c14
    by_cases c15 : t319 < (l0_1.length : Int)
    ·rw [if_pos c15] at H
     have c15b0 : decide (t319 < (l0_1.length : Int)) = true := decide_eq_true c15
     clear c15
     obtain ⟨ji16, hji16⟩ : ∃ j_ : Int, (mx (-1) (wrap64 (t321 - ((rd_T92 l0_1 t319).f3)))) = j_ := ⟨_, rfl⟩
     replace H : (some ji16) = some r := by first | (rw [hji16] at H; exact H) | (simp only [hji16] at H ⊢; exact H)
     (try rw [hji16] at A3)
     (try rw [hji16] at A11)
     (try rw [hji16] at A13)
     have hji16_ : (if (-1) < (wrap64 (t321 - ((rd_T92 l0_1 t319).f3))) then (wrap64 (t321 - ((rd_T92 l0_1 t319).f3))) else (-1)) = ji16 := hji16
     obtain rfl := Option.some.inj H
     go_enter Try.func98, Try.ntmps98
     try go_wp2_with (first | ((with_reducible refine gate_dst (N := 2) rfl ?_); refine box_event ?hg (N := 2) ?hd (cs := #[.slice A0_0 l0_0.length c0_0, .slice A0_1 l0_1.length c0_1, .slice A0_2 l0_2.length c0_2]) (t := 32) ?hr ?_; (case hd => rfl); (case hg => rfl); (case hr => first | (go_simp; done) | (go_simp; rfl)); intro gb317 hg w17 hbox hb; have n0_ := Aside0.mk (below_step Zc hb); have n1_ := Aside0.mk (hbox); have n2_ := Aside0.mk ((Zd : w.heap.size ≤ gb317)); have n3_ := Aside0.mk ((Zd : w.heap.size ≤ gb317)); clear HB; have HB := n0_; have BK317 := n1_; have GW317 := n2_; have GE317 := n3_; clear n0_ n1_ n2_ n3_; clear hb hbox hg) | ((with_reducible refine gate_dst (N := 3) rfl ?_); refine box_event ?hg (N := 3) ?hd (cs := #[.int .i64 a1_0, .int .i64 a1_1, .string a1_2, .int .i64 a1_3]) (t := 43) ?hr ?_; (case hd => rfl); (case hg => rfl); (case hr => first | (go_simp; done) | (go_simp; rfl)); intro gb318 hg w18 hbox hb; have n0_ := Aside0.mk (blk_below (g := gb317) (o := .cells #[.slice A0_0 l0_0.length c0_0, .slice A0_1 l0_1.length c0_1, .slice A0_2 l0_2.length c0_2] 32 (0, 0)) (have z0_ := BK317; Ze) hb); have n1_ := Aside0.mk (below_step (have z0_ := GE317; Zf) hb); have n2_ := Aside0.mk (hbox); have n3_ := Aside0.mk (((have z0_ := GE317; Zg) : w.heap.size ≤ gb318)); have n4_ := Aside0.mk (((have z0_ := GE317; Zg) : w.heap.size ≤ gb318)); have n5_ := Aside0.mk (((have z0_ := BK317; Zat) : gb317 ≠ gb318)); have n6_ := Aside0.mk (((have z0_ := BK317; Zau) : gb318 ≠ gb317)); clear BK317; clear HB; have BK317 := n0_; have HB := n1_; have BK318 := n2_; have GW318 := n3_; have GE318 := n4_; have NB317_318 := n5_; have NB318_317 := n6_; clear n0_ n1_ n2_ n3_ n4_ n5_ n6_; clear hb hbox hg; have hnb19 := NB317_318.out; have hnc19 := NB318_317.out; obtain ⟨hcz20_0, hcz20_1, hcz20_2, hfz20_0, hfz20_1, hfz20_2⟩ := cz3 BK317; obtain ⟨hcz21_0, hcz21_1, hcz21_2, hcz21_3, hfz21_0, hfz21_1, hfz21_2, hfz21_3⟩ := cz4 BK318) | ((with_reducible refine gate_callee (f := 113) rfl ?_); refine goesL_ (some 10) rfl rfl Try.func113 Zj rfl #[.slice A0_1 l0_1.length c0_1, .string a1_2] rfl Zo ?_; (with_reducible refine (impl_articleOf.calls k _ _ l0_1 a1_2 t319 _ ?side1 ?side2 A3.out).mono ?_); (case side1 => repeat (first | exact (Kd.C_below HR0_1.out HB.out) | (with_reducible refine Kd.C_alloc ?_ _) | (with_reducible refine Kd.C_drewN ?_ _) | (with_reducible refine Kd.C_drew ?_))); (case side2 => exact HC0_1.out); rintro e w22 ⟨rfl, hb⟩; refine ⟨_, rfl, ?_⟩; have n0_ := Aside0.mk (blk_below (g := gb317) (o := .cells #[.slice A0_0 l0_0.length c0_0, .slice A0_1 l0_1.length c0_1, .slice A0_2 l0_2.length c0_2] 32 (0, 0)) (have z0_ := BK317; Ze) hb); have n1_ := Aside0.mk (blk_below (g := gb318) (o := .cells #[.int .i64 a1_0, .int .i64 a1_1, .string a1_2, .int .i64 a1_3] 43 (0, 0)) (have z0_ := BK318; Ze) hb); have n2_ := Aside0.mk (below_step (have z0_ := GE317; have z1_ := GE318; Zh) hb); clear BK317; clear BK318; clear HB; have BK317 := n0_; have BK318 := n1_; have HB := n2_; clear n0_ n1_ n2_; (try clear hb); (try clear hb2); (try clear hk); (try clear hi); obtain ⟨hcz23_0, hcz23_1, hcz23_2, hfz23_0, hfz23_1, hfz23_2⟩ := cz3 BK317; obtain ⟨hcz24_0, hcz24_1, hcz24_2, hcz24_3, hfz24_0, hfz24_1, hfz24_2, hfz24_3⟩ := cz4 BK318) | (go_at_call 130; (with_reducible refine (impl_isBeat.calls _ _ l0_0 a1_0 a1_1 true _ ?side1 ?side2 A11.out).mono ?_); (case side1 => repeat (first | exact (Kd.C_below HR0_0.out HB.out) | (with_reducible refine Kd.C_alloc ?_ _) | (with_reducible refine Kd.C_drewN ?_ _) | (with_reducible refine Kd.C_drew ?_))); (case side2 => exact HC0_0.out); rintro e w' ⟨rfl, ⟨nd, rfl⟩⟩))
     (try (rw [drewN_self w22]; generalize hq_ : World.drewN w22 _ = w22; have n0_ : Aside0 (w22.heap[gb317]? = some (.cells #[.slice A0_0 l0_0.length c0_0, .slice A0_1 l0_1.length c0_1, .slice A0_2 l0_2.length c0_2] 32 (0, 0))) := ⟨by rw [← hq_]; exact (have z0_ := BK317; Ze)⟩; have n1_ : Aside0 (w22.heap[gb318]? = some (.cells #[.int .i64 a1_0, .int .i64 a1_1, .string a1_2, .int .i64 a1_3] 43 (0, 0))) := ⟨by rw [← hq_]; exact (have z0_ := BK318; Ze)⟩; have n2_ : Aside0 (Below w.heap.size w w22) := ⟨by rw [← hq_]; exact (have z0_ := GE317; have z1_ := GE318; Zh)⟩; clear BK317 BK318 HB hq_; have BK317 := n0_; have BK318 := n1_; have HB := n2_; clear n0_ n1_ n2_))
     have n0_ := Aside0.mk (blk_drew BK317.out)
     have n1_ := Aside0.mk (blk_drew BK318.out)
     have n2_ := Aside0.mk (below_drew1 HB.out)
     clear BK317
     clear BK318
     clear HB
     have BK317 := n0_
     have BK318 := n1_
     have HB := n2_
     clear n0_ n1_ n2_
     have p322 : 0 ≤ (t319 : Int) := of_decide_eq_true Zp
     have q322 : t319 < (l0_1.length : Int) := of_decide_eq_true Zp
     obtain ⟨ad322, e322, hx322_0, hx322_1, hx322_2, hx322_3, hx322_4, hx322_5, hx322_6, hx322_7, hx322_8⟩ := at_T92 HR0_1.out t319 p322 q322
     have hw322_8 := hx322_8
     have hw322_7 := hx322_7
     have hw322_6 := hx322_6
     have hw322_5 := hx322_5
     have hw322_4 := hx322_4
     have hw322_3 := hx322_3
     have hw322_2 := hx322_2
     have hw322_1 := hx322_1
     have hw322_0 := hx322_0
     cases e322
     replace hx322_0 := cbH HB hx322_0
     replace hx322_1 := cbH HB hx322_1
     replace hx322_2 := cbH HB hx322_2
     replace hx322_3 := cbH HB hx322_3
     replace hx322_4 := cbH HB hx322_4
     replace hx322_5 := cbH HB hx322_5
     replace hx322_6 := cbH HB hx322_6
     replace hx322_7 := cbH HB hx322_7
     replace hx322_8 := cbH HB hx322_8
     replace p322 := eq_true p322
     replace q322 := eq_true q322
     refine start_ (n := 16) (S := fun w' => w'.cell? ⟨gb317, 0, none⟩ = some (.slice A0_0 l0_0.length c0_0) ∧ w'.cell? ⟨gb317, 1, none⟩ = some (.slice (some ad322) l0_1.length c0_1) ∧ w'.cell? ⟨gb317, 2, none⟩ = some (.slice A0_2 l0_2.length c0_2) ∧ w'.cell? ⟨gb318, 0, none⟩ = some (.int .i64 a1_0) ∧ w'.cell? ⟨gb318, 1, none⟩ = some (.int .i64 a1_1) ∧ w'.cell? ⟨gb318, 2, none⟩ = some (.string a1_2) ∧ w'.cell? ⟨gb318, 3, none⟩ = some (.int .i64 a1_3) ∧ w'.cell? (ad322.add ((t319).toNat * 9)) = some (.string ((rd_T92 l0_1 t319).f0)) ∧ w'.cell? ⟨(ad322.add ((t319).toNat * 9)).block, (ad322.add ((t319).toNat * 9)).off + 1, none⟩ = some (.int .i64 ((rd_T92 l0_1 t319).f1)) ∧ w'.cell? ⟨(ad322.add ((t319).toNat * 9)).block, (ad322.add ((t319).toNat * 9)).off + 2, none⟩ = some (.int .i64 ((rd_T92 l0_1 t319).f2)) ∧ w'.cell? ⟨(ad322.add ((t319).toNat * 9)).block, (ad322.add ((t319).toNat * 9)).off + 3, none⟩ = some (.int .i64 ((rd_T92 l0_1 t319).f3)) ∧ w'.cell? ⟨(ad322.add ((t319).toNat * 9)).block, (ad322.add ((t319).toNat * 9)).off + 4, none⟩ = some (.int .i64 ((rd_T92 l0_1 t319).f4)) ∧ w'.cell? ⟨(ad322.add ((t319).toNat * 9)).block, (ad322.add ((t319).toNat * 9)).off + 5, none⟩ = some (.int .i64 ((rd_T92 l0_1 t319).f5)) ∧ w'.cell? ⟨(ad322.add ((t319).toNat * 9)).block, (ad322.add ((t319).toNat * 9)).off + 6, none⟩ = some (.int .i64 ((rd_T92 l0_1 t319).f6)) ∧ w'.cell? ⟨(ad322.add ((t319).toNat * 9)).block, (ad322.add ((t319).toNat * 9)).off + 7, none⟩ = some (.int .i64 ((rd_T92 l0_1 t319).f7)) ∧ w'.cell? ⟨(ad322.add ((t319).toNat * 9)).block, (ad322.add ((t319).toNat * 9)).off + 8, none⟩ = some (.int .i64 ((rd_T92 l0_1 t319).f8))) (ds := []) (bT 16 0) Zj rfl rfl ⟨(blk_cell BK317.out 0).trans rfl, (blk_cell BK317.out 1).trans rfl, (blk_cell BK317.out 2).trans rfl, (blk_cell BK318.out 0).trans rfl, (blk_cell BK318.out 1).trans rfl, (blk_cell BK318.out 2).trans rfl, (blk_cell BK318.out 3).trans rfl, (cbH HB hw322_0 :), (cbH HB hw322_1 :), (cbH HB hw322_2 :), (cbH HB hw322_3 :), (cbH HB hw322_4 :), (cbH HB hw322_5 :), (cbH HB hw322_6 :), (cbH HB hw322_7 :), (cbH HB hw322_8 :)⟩ (fun hHeld => ?_); refine with_tabW impl_firedAt.tab4 impl_firedAt.bits4 (fun HT_ HW_ => ?_)
     generalize w22.drew = w25 at BK317 BK318 HB hx322_0 hx322_1 hx322_2 hx322_3 hx322_4 hx322_5 hx322_6 hx322_7 hx322_8 hHeld ⊢
     refine pureZ HT_ 0 (some 23) (bT 16 1) ?_
     refine pureZ HT_ 2 (some 25) #[true, false, true, false, false, false, false, false, false, false, false, false, false, false, false, false] ?_
     refine pureZ HT_ 4 (some 27) #[true, false, true, false, true, false, false, false, false, false, false, false, false, false, false, false] ?_
     refine pureZ HT_ 7 (some 30) #[true, false, true, false, true, false, false, true, false, false, false, false, false, false, false, false] ?_
     refine pureZ HT_ 9 (some 32) #[true, false, true, false, true, false, false, true, false, true, false, false, false, false, false, false] ?_
     refine take_ (i := 1) (N := some 24) (v := ?_) (a' := ?_) #[true, true, true, false, true, false, false, true, false, true, false, false, false, false, false, false] rfl rfl (take_ofW HT_.out HW_.out Zj) (fun _ _ _ h => h) (Or.inl ⟨by rfl, ?_⟩) hHeld ?_ ?_
     rotate_left
     ·rintro w' ⟨s0, s1, s2, s3, s4, s5, s6, s7, s8, s9, s10, s11, s12, s13, s14, s15⟩
      go_simp
      with_reducible rfl
     rotate_left
     ·exact Zput
     refine take_ (i := 3) (N := some 26) (v := ?_) (a' := ?_) #[true, true, true, true, true, false, false, true, false, true, false, false, false, false, false, false] rfl rfl (take_ofW HT_.out HW_.out Zj) (fun _ _ _ h => h) (Or.inl ⟨by rfl, ?_⟩) hHeld ?_ ?_
     rotate_left
     ·rintro w' ⟨s0, s1, s2, s3, s4, s5, s6, s7, s8, s9, s10, s11, s12, s13, s14, s15⟩
      go_simp
      with_reducible rfl
     rotate_left
     ·exact Zput
     refine take_ (i := 5) (N := some 28) (v := ?_) (a' := ?_) #[true, true, true, true, true, true, false, true, false, true, false, false, false, false, false, false] rfl rfl (take_ofW HT_.out HW_.out Zj) (fun _ _ _ h => h) (Or.inl ⟨by rfl, ?_⟩) hHeld ?_ ?_
     rotate_left
     ·rintro w' ⟨s0, s1, s2, s3, s4, s5, s6, s7, s8, s9, s10, s11, s12, s13, s14, s15⟩
      go_simp
      with_reducible rfl
     rotate_left
     ·exact Zput
     refine take_ (i := 8) (N := some 31) (v := ?_) (a' := ?_) #[true, true, true, true, true, true, false, true, true, true, false, false, false, false, false, false] rfl rfl (take_ofW HT_.out HW_.out Zj) (fun _ _ _ h => h) (Or.inl ⟨by rfl, ?_⟩) hHeld ?_ ?_
     rotate_left
     ·rintro w' ⟨s0, s1, s2, s3, s4, s5, s6, s7, s8, s9, s10, s11, s12, s13, s14, s15⟩
      go_simp
      with_reducible rfl
     rotate_left
     ·exact Zput
     refine pureZ HT_ 10 (some 33) #[true, true, true, true, true, true, false, true, true, true, true, false, false, false, false, false] ?_
     refine pureZ HT_ 11 (some 34) #[true, true, true, true, true, true, false, true, true, true, true, true, false, false, false, false] ?_
     refine take_ (i := 12) (N := some 35) (v := ?_) (a' := ?_) #[true, true, true, true, true, true, false, true, true, true, true, true, true, false, false, false] rfl rfl (take_ofW HT_.out HW_.out Zj) (fun _ _ _ h => h) (Or.inl ⟨by rfl, ?_⟩) hHeld ?_ ?_
     rotate_left
     ·rintro w' ⟨s0, s1, s2, s3, s4, s5, s6, s7, s8, s9, s10, s11, s12, s13, s14, s15⟩
      go_simp
      with_reducible rfl
     rotate_left
     ·exact Zput
     refine one_ (i := 6) (N := some 29) (bT 16 13) rfl rfl (one_of HT_.out Zj) (by decide) (fun K hK => ?_)
     refine goes_ Try.func131 Zj rfl #[.slice A0_0 l0_0.length c0_0, .int .i64 a1_0, .int .i64 a1_1] (by rfl) rfl rfl Zo ?_
     with_reducible refine (impl_beatTime.calls k _ _ l0_0 a1_0 a1_1 t321 _ ?side1 ?side2 A13.out).mono ?_
     (case side1 => repeat (first | exact (Kd.C_below HR0_0.out HB.out) | (with_reducible refine Kd.C_alloc ?_ _) | (with_reducible refine Kd.C_drewN ?_ _) | (with_reducible refine Kd.C_drew ?_)))
     (case side2 => exact HC0_0.out)
     rintro e w26 ⟨rfl, hb⟩
     refine ⟨_, rfl, ?_⟩
     have n0_ := Aside0.mk (blk_below (g := gb317) (o := .cells #[.slice A0_0 l0_0.length c0_0, .slice (some ad322) l0_1.length c0_1, .slice A0_2 l0_2.length c0_2] 32 (0, 0)) (have z0_ := BK317; Ze) hb)
     have n1_ := Aside0.mk (blk_below (g := gb318) (o := .cells #[.int .i64 a1_0, .int .i64 a1_1, .string a1_2, .int .i64 a1_3] 43 (0, 0)) (have z0_ := BK318; Ze) hb)
     have n2_ := Aside0.mk (below_step (have z0_ := GE317; have z1_ := GE318; Zh) hb)
     clear BK317
     clear BK318
     clear HB
     have BK317 := n0_
     have BK318 := n1_
     have HB := n2_
     clear n0_ n1_ n2_
     (try clear hb)
     (try clear hb2)
     (try clear hk)
     (try clear hi)
     refine hK.out _ _ ⟨(blk_cell BK317.out 0).trans rfl, (blk_cell BK317.out 1).trans rfl, (blk_cell BK317.out 2).trans rfl, (blk_cell BK318.out 0).trans rfl, (blk_cell BK318.out 1).trans rfl, (blk_cell BK318.out 2).trans rfl, (blk_cell BK318.out 3).trans rfl, (cbH HB hw322_0 :), (cbH HB hw322_1 :), (cbH HB hw322_2 :), (cbH HB hw322_3 :), (cbH HB hw322_4 :), (cbH HB hw322_5 :), (cbH HB hw322_6 :), (cbH HB hw322_7 :), (cbH HB hw322_8 :)⟩ (fun hHeld => ?_)
     clear hK K
     refine norm_ (a' := ?_) ?_ ?_
     rotate_left
     ·show Act.put _ (some 29) _ = _
      simp only [Act.put, List.setIfInBounds_toArray, List.set_cons_zero, List.set_cons_succ, i64_w, i32_w]
      rfl
     refine pureZ HT_ 13 (some 36) (bT 16 14) ?_
     refine pureZ HT_ 14 (some 37) (bT 16 15) ?_
     refine pureZ HT_ 15 (some 4) (bT 16 16) ?_
     refine done_ (done_of HT_.out Zj) ?_
     try go_wp2
     go_ret
     exact ⟨by first | rfl | (simp [errW_none, errW_some] <;> rfl) | (simp only [← hji16]; first | rfl | (simp [errW_none, errW_some] <;> rfl)) | (simp [*, errW_none, errW_some] <;> rfl), (have z0_ := GE317; have z1_ := GE318; Zh)⟩
    ·rw [if_neg c15] at H
     exact absurd H (by simp)
   ·rw [if_neg c14] at H
    exact absurd H (by simp)
  ·replace c12 := Bool.eq_false_iff.mpr c12
   subst c12
   have H1 : (some (-1)) = some r := by rw [if_neg (show ¬ (false = true) by decide)] at H; exact H
   clear H
   have H := H1
   clear H1
   obtain rfl := Option.some.inj H
   go_enter Try.func98, Try.ntmps98
   go_wp2_with (first | ((with_reducible refine gate_dst (N := 2) rfl ?_); refine box_event ?hg (N := 2) ?hd (cs := #[.slice A0_0 l0_0.length c0_0, .slice A0_1 l0_1.length c0_1, .slice A0_2 l0_2.length c0_2]) (t := 32) ?hr ?_; (case hd => rfl); (case hg => rfl); (case hr => first | (go_simp; done) | (go_simp; rfl)); intro gb317 hg w27 hbox hb; have n0_ := Aside0.mk (below_step Zc hb); have n1_ := Aside0.mk (hbox); have n2_ := Aside0.mk ((Zd : w.heap.size ≤ gb317)); have n3_ := Aside0.mk ((Zd : w.heap.size ≤ gb317)); clear HB; have HB := n0_; have BK317 := n1_; have GW317 := n2_; have GE317 := n3_; clear n0_ n1_ n2_ n3_; clear hb hbox hg) | ((with_reducible refine gate_dst (N := 3) rfl ?_); refine box_event ?hg (N := 3) ?hd (cs := #[.int .i64 a1_0, .int .i64 a1_1, .string a1_2, .int .i64 a1_3]) (t := 43) ?hr ?_; (case hd => rfl); (case hg => rfl); (case hr => first | (go_simp; done) | (go_simp; rfl)); intro gb318 hg w28 hbox hb; have n0_ := Aside0.mk (blk_below (g := gb317) (o := .cells #[.slice A0_0 l0_0.length c0_0, .slice A0_1 l0_1.length c0_1, .slice A0_2 l0_2.length c0_2] 32 (0, 0)) (have z0_ := BK317; Ze) hb); have n1_ := Aside0.mk (below_step (have z0_ := GE317; Zf) hb); have n2_ := Aside0.mk (hbox); have n3_ := Aside0.mk (((have z0_ := GE317; Zg) : w.heap.size ≤ gb318)); have n4_ := Aside0.mk (((have z0_ := GE317; Zg) : w.heap.size ≤ gb318)); have n5_ := Aside0.mk (((have z0_ := BK317; Zat) : gb317 ≠ gb318)); have n6_ := Aside0.mk (((have z0_ := BK317; Zau) : gb318 ≠ gb317)); clear BK317; clear HB; have BK317 := n0_; have HB := n1_; have BK318 := n2_; have GW318 := n3_; have GE318 := n4_; have NB317_318 := n5_; have NB318_317 := n6_; clear n0_ n1_ n2_ n3_ n4_ n5_ n6_; clear hb hbox hg; have hnb29 := NB317_318.out; have hnc29 := NB318_317.out; obtain ⟨hcz30_0, hcz30_1, hcz30_2, hfz30_0, hfz30_1, hfz30_2⟩ := cz3 BK317; obtain ⟨hcz31_0, hcz31_1, hcz31_2, hcz31_3, hfz31_0, hfz31_1, hfz31_2, hfz31_3⟩ := cz4 BK318) | ((with_reducible refine gate_callee (f := 113) rfl ?_); refine goesL_ (some 10) rfl rfl Try.func113 Zj rfl #[.slice A0_1 l0_1.length c0_1, .string a1_2] rfl Zo ?_; (with_reducible refine (impl_articleOf.calls k _ _ l0_1 a1_2 t319 _ ?side1 ?side2 A3.out).mono ?_); (case side1 => repeat (first | exact (Kd.C_below HR0_1.out HB.out) | (with_reducible refine Kd.C_alloc ?_ _) | (with_reducible refine Kd.C_drewN ?_ _) | (with_reducible refine Kd.C_drew ?_))); (case side2 => exact HC0_1.out); rintro e w32 ⟨rfl, hb⟩; refine ⟨_, rfl, ?_⟩; have n0_ := Aside0.mk (blk_below (g := gb317) (o := .cells #[.slice A0_0 l0_0.length c0_0, .slice A0_1 l0_1.length c0_1, .slice A0_2 l0_2.length c0_2] 32 (0, 0)) (have z0_ := BK317; Ze) hb); have n1_ := Aside0.mk (blk_below (g := gb318) (o := .cells #[.int .i64 a1_0, .int .i64 a1_1, .string a1_2, .int .i64 a1_3] 43 (0, 0)) (have z0_ := BK318; Ze) hb); have n2_ := Aside0.mk (below_step (have z0_ := GE317; have z1_ := GE318; Zh) hb); clear BK317; clear BK318; clear HB; have BK317 := n0_; have BK318 := n1_; have HB := n2_; clear n0_ n1_ n2_; (try clear hb); (try clear hb2); (try clear hk); (try clear hi); obtain ⟨hcz33_0, hcz33_1, hcz33_2, hfz33_0, hfz33_1, hfz33_2⟩ := cz3 BK317; obtain ⟨hcz34_0, hcz34_1, hcz34_2, hcz34_3, hfz34_0, hfz34_1, hfz34_2, hfz34_3⟩ := cz4 BK318) | (go_at_call 130; (with_reducible refine (impl_isBeat.calls _ _ l0_0 a1_0 a1_1 false _ ?side1 ?side2 A11.out).mono ?_); (case side1 => repeat (first | exact (Kd.C_below HR0_0.out HB.out) | (with_reducible refine Kd.C_alloc ?_ _) | (with_reducible refine Kd.C_drewN ?_ _) | (with_reducible refine Kd.C_drew ?_))); (case side2 => exact HC0_0.out); rintro e w' ⟨rfl, ⟨nd, rfl⟩⟩))
   go_ret
   exact ⟨Zk, (have z0_ := GE317; have z1_ := GE318; Zh)⟩
end Go.Proofs.Ytnlbaflbhicooaa.F
namespace Go.Proofs.Ytnlbaflbhicooaa.F
open Go.RowKit Go.Proofs.YtnlbaflbhicooaaW.PrintWords Go.Proofs.YtnlbaflbhicooaaW.PrintLast Go.Proofs.YtnlbaflbhicooaaW.PrintMore
attribute [local go_sem] max2_int min2_int max_two min_two max_three min_three max_four min_four   -- for this text's walks alone
set_option linter.unusedVariables false
set_option linter.unusedSimpArgs false
mutual
def impl_IsScore.j0 : Nat → List (S108) → Bool → Option (Bool)
 | 0, _, _ => none
 | k + 1, x0, x12 => if x12 = true then (some false) else (impl_IsScore.l0 k x0 (x0.length : Int) 0)
def impl_IsScore.l0 : Nat → List (S108) → Int → Int → Option (Bool)
 | 0, _, _, _ => none
 | k + 1, x13, x14, x15 => if x15 < x14 then (if 0 ≤ x15 then (if x15 < (x13.length : Int) then ((impl_within.f ((rd_T108 x13 x15).f0) 1 16).bind fun t288 => (if t288 = true then ((impl_within.f ((rd_T108 x13 x15).f1) 100 5000).bind fun t289 => (if t289 = true then (impl_IsScore.l0 k x13 x14 (wrap64 (x15 + 1))) else (some false))) else (some false))) else (none)) else (none)) else (some true)
end
def impl_IsScore.f (k : Nat) (l0 : List (S108)) : Option (Bool) := if (l0.length : Int) < 1 then (impl_IsScore.j0 k l0 true) else (impl_IsScore.j0 k l0 (decide ((l0.length : Int) > 20)))
set_option maxHeartbeats 8000000 in
set_option maxRecDepth 100000 in
theorem impl_IsScore.calls (k : Nat) (A0 : Option Addr) (c0 : Nat) (l0 : List (S108)) (r : Bool) (w : World) (hr0 : Kd.C k108 w A0 l0.length l0) (hc0 : l0.length ≤ c0) (h : impl_IsScore.f k l0 = some r) :
  Calls Try.prog 96 #[.slice A0 l0.length c0] w fun e w' => e = .returned (.bool r) ∧ Below w.heap.size w w' := by
 have hu108 := Try.underlying108
 have HR0 := Aside0.mk hr0
 have HC0 := Aside0.mk hc0
 clear hr0 hc0
 have HB := Aside0.mk (Below.refl w.heap.size w)
 have H : (if (l0.length : Int) < 1 then (impl_IsScore.j0 k l0 true) else (impl_IsScore.j0 k l0 (decide ((l0.length : Int) > 20)))) = some r := h
 clear h
 have HC2 := Aside0.mk H
 clear H
 go_enter Try.func96, Try.ntmps96
 go_upto_region 1 with (fail)
 go_cut [12] (fun v12 wc => ∃ (kq : Nat) (x12_1 : Bool), v12 = .bool x12_1 ∧ Aside0 (impl_IsScore.j0 kq l0 x12_1 = some r) ∧ Aside0 (kq ≤ k) ∧ Aside0 (Below w.heap.size w wc))
 case first =>
  have H := HC2.out
  clear HC2
  by_cases c3 : (l0.length : Int) < 1
  ·rw [if_pos c3] at H
   have c3b0 : decide ((l0.length : Int) < 1) = true := decide_eq_true c3
   have c3b1 : decide (l0.length < 1) = true := decide_eq_true (by omega)
   clear c3
   (first | rw [c3b0] | (simp only [i64_w, i32_w]; rw [c3b0]) | skip)
   have H' := Aside0.mk H
   clear H
   go_wp2
   go_meet
   case rel => exact ⟨_, (true), Za, H', ⟨Zm⟩, ⟨Zc⟩⟩
  ·rw [if_neg c3] at H
   have c3b0 : decide ((l0.length : Int) < 1) = false := decide_eq_false c3
   have c3b1 : decide (l0.length < 1) = false := decide_eq_false (by omega)
   clear c3
   (first | rw [c3b0] | (simp only [i64_w, i32_w]; rw [c3b0]) | skip)
   have H' := Aside0.mk H
   clear H
   go_wp2
   go_meet
   case rel => exact ⟨_, (decide ((l0.length : Int) > 20)), Za, H', ⟨Zm⟩, ⟨Zc⟩⟩
 case rest =>
  clear HC2
  try clear p2
  try clear c3
  try clear c3b0
  try clear c3b1
  obtain ⟨kq, x12_1, rfl, HA, HJ1, HB⟩ := hcut
  cases kq with
  | zero => exact absurd HA.out (by simp [impl_IsScore.j0])
  | succ kj1 =>
   have H := HA.out
   clear HA
   simp only [impl_IsScore.j0] at H
   by_cases c4 : x12_1 = true
   ·subst c4
    have H1 : (some false) = some r := by rw [if_pos rfl] at H; exact H
    clear H
    have H := H1
    clear H1
    obtain rfl := Option.some.inj H
    go_wp2
    go_ret
    exact ⟨Zk, Zc⟩
   ·replace c4 := Bool.eq_false_iff.mpr c4
    subst c4
    have H1 : (impl_IsScore.l0 kj1 l0 (l0.length : Int) 0) = some r := by rw [if_neg (show ¬ (false = true) by decide)] at H; exact H
    clear H
    have H := H1
    clear H1
    have H' := Aside0.mk H
    clear H
    go_wp2
    go_loopg [15] kj1 (fun kq v15 w' => ∃ (x15_2 : Int), v15 = .int .i64 x15_2 ∧ Aside0 (impl_IsScore.l0 kq l0 (l0.length : Int) x15_2 = some r) ∧ Aside0 (kq ≤ kj1) ∧ Aside0 (Below w.heap.size w w'))
    case atStart => exact ⟨(0), Za, H', ⟨Nat.le_refl _⟩, ⟨Zc⟩⟩
    case round =>
     clear H'
     try clear p2
     try clear c3
     try clear c3b0
     try clear c3b1
     try clear c4
     try clear p2
     obtain ⟨x15_2, rfl, HA, HK2, HB⟩ := hrel
     cases gk with
     | zero => exact absurd HA.out (by simp [impl_IsScore.l0])
     | succ k2 =>
      have H := HA.out
      clear HA
      simp only [impl_IsScore.l0] at H
      by_cases c5 : x15_2 < (l0.length : Int)
      ·rw [if_pos c5] at H
       have c5b0 : decide (x15_2 < (l0.length : Int)) = true := decide_eq_true c5
       clear c5
       by_cases c6 : 0 ≤ x15_2
       ·rw [if_pos c6] at H
        have c6b0 : decide (0 ≤ x15_2) = true := decide_eq_true c6
        clear c6
        by_cases c7 : x15_2 < (l0.length : Int)
        ·rw [if_pos c7] at H
         have c7b0 : decide (x15_2 < (l0.length : Int)) = true := decide_eq_true c7
         clear c7
         replace H := Option.bind_eq_some_iff.mp H
         obtain ⟨t288, A80, H⟩ := H
         replace H : (if t288 = true then ((impl_within.f ((rd_T108 l0 x15_2).f1) 100 5000).bind fun t289 => (if t289 = true then (impl_IsScore.l0 k2 l0 (l0.length : Int) (wrap64 (x15_2 + 1))) else (some false))) else (some false)) = some r := H
         have A8 := Aside0.mk A80
         clear A80
         by_cases c9 : t288 = true
         ·subst c9
          have H1 : ((impl_within.f ((rd_T108 l0 x15_2).f1) 100 5000).bind fun t289 => (if t289 = true then (impl_IsScore.l0 k2 l0 (l0.length : Int) (wrap64 (x15_2 + 1))) else (some false))) = some r := by rw [if_pos rfl] at H; exact H
          clear H
          have H := H1
          clear H1
          replace H := Option.bind_eq_some_iff.mp H
          obtain ⟨t289, A100, H⟩ := H
          replace H : (if t289 = true then (impl_IsScore.l0 k2 l0 (l0.length : Int) (wrap64 (x15_2 + 1))) else (some false)) = some r := H
          have A10 := Aside0.mk A100
          clear A100
          by_cases c11 : t289 = true
          ·subst c11
           have H1 : (impl_IsScore.l0 k2 l0 (l0.length : Int) (wrap64 (x15_2 + 1))) = some r := by rw [if_pos rfl] at H; exact H
           clear H
           have H := H1
           clear H1
           have H' := Aside0.mk H
           clear H
           have p286 : 0 ≤ (x15_2 : Int) := of_decide_eq_true Zp
           have q286 : x15_2 < (l0.length : Int) := of_decide_eq_true Zp
           obtain ⟨ad286, e286, hx286_0, hx286_1⟩ := at_T108 HR0.out x15_2 p286 q286
           cases e286
           replace hx286_0 := cbH HB hx286_0
           replace hx286_1 := cbH HB hx286_1
           replace p286 := eq_true p286
           replace q286 := eq_true q286
           go_wp2_with (first | ((with_reducible refine gate_dst (N := 4) rfl ?_); (try (refine gate_guard (by rfl) ?_; dsimp only)); refine box_event ?hg (N := 4) ?hd (cs := #[.int .i64 0, .int .i64 0]) (t := 108) ?hr ?_; (case hd => rfl); (case hg => rfl); (case hr => first | (go_simp; done) | (go_simp; rfl)); intro gb287 hg w12 hbox hb; have n0_ := Aside0.mk (below_step Zc hb); have n1_ := Aside0.mk (hbox); have n2_ := Aside0.mk ((Zd : w.heap.size ≤ gb287)); have n3_ := Aside0.mk ((Zd : w.heap.size ≤ gb287)); clear HB; have HB := n0_; have BK287 := n1_; have GW287 := n2_; have GE287 := n3_; clear n0_ n1_ n2_ n3_; clear hb hbox hg; obtain ⟨hcz13_0, hcz13_1, hfz13_0, hfz13_1⟩ := cz2 BK287) | ((with_reducible refine gate_callee (f := 89) rfl ?_); refine goesL_ (some 21) rfl rfl Try.func89 Zj rfl #[.int .i64 ((rd_T108 l0 x15_2).f0), .int .i64 1, .int .i64 16] rfl Zo ?_; (with_reducible refine (impl_within.calls ((rd_T108 l0 x15_2).f0) 1 16 true _ A8.out).mono ?_); rintro e w' ⟨rfl, ⟨nd, rfl⟩⟩; refine ⟨_, rfl, ?_⟩) | (go_at_call 89; (with_reducible refine (impl_within.calls ((rd_T108 l0 x15_2).f1) 100 5000 true _ A10.out).mono ?_); rintro e w' ⟨rfl, ⟨nd, rfl⟩⟩))
           go_roundg k2
           case measure => have := HJ1.out; have := HK2.out; omega
           case rel => exact ⟨(wrap64 (x15_2 + 1)), Za, H', ⟨by have := HJ1.out; have := HK2.out; omega⟩, ⟨(have z0_ := GE287; Zf)⟩⟩
          ·replace c11 := Bool.eq_false_iff.mpr c11
           subst c11
           have H1 : (some false) = some r := by rw [if_neg (show ¬ (false = true) by decide)] at H; exact H
           clear H
           have H := H1
           clear H1
           obtain rfl := Option.some.inj H
           have p286 : 0 ≤ (x15_2 : Int) := of_decide_eq_true Zp
           have q286 : x15_2 < (l0.length : Int) := of_decide_eq_true Zp
           obtain ⟨ad286, e286, hx286_0, hx286_1⟩ := at_T108 HR0.out x15_2 p286 q286
           cases e286
           replace hx286_0 := cbH HB hx286_0
           replace hx286_1 := cbH HB hx286_1
           replace p286 := eq_true p286
           replace q286 := eq_true q286
           go_wp2_with (first | ((with_reducible refine gate_dst (N := 4) rfl ?_); (try (refine gate_guard (by rfl) ?_; dsimp only)); refine box_event ?hg (N := 4) ?hd (cs := #[.int .i64 0, .int .i64 0]) (t := 108) ?hr ?_; (case hd => rfl); (case hg => rfl); (case hr => first | (go_simp; done) | (go_simp; rfl)); intro gb287 hg w14 hbox hb; have n0_ := Aside0.mk (below_step Zc hb); have n1_ := Aside0.mk (hbox); have n2_ := Aside0.mk ((Zd : w.heap.size ≤ gb287)); have n3_ := Aside0.mk ((Zd : w.heap.size ≤ gb287)); clear HB; have HB := n0_; have BK287 := n1_; have GW287 := n2_; have GE287 := n3_; clear n0_ n1_ n2_ n3_; clear hb hbox hg; obtain ⟨hcz15_0, hcz15_1, hfz15_0, hfz15_1⟩ := cz2 BK287) | ((with_reducible refine gate_callee (f := 89) rfl ?_); refine goesL_ (some 21) rfl rfl Try.func89 Zj rfl #[.int .i64 ((rd_T108 l0 x15_2).f0), .int .i64 1, .int .i64 16] rfl Zo ?_; (with_reducible refine (impl_within.calls ((rd_T108 l0 x15_2).f0) 1 16 true _ A8.out).mono ?_); rintro e w' ⟨rfl, ⟨nd, rfl⟩⟩; refine ⟨_, rfl, ?_⟩) | (go_at_call 89; (with_reducible refine (impl_within.calls ((rd_T108 l0 x15_2).f1) 100 5000 false _ A10.out).mono ?_); rintro e w' ⟨rfl, ⟨nd, rfl⟩⟩))
           go_ret
           exact ⟨Zk, (have z0_ := GE287; Zf)⟩
         ·replace c9 := Bool.eq_false_iff.mpr c9
          subst c9
          have H1 : (some false) = some r := by rw [if_neg (show ¬ (false = true) by decide)] at H; exact H
          clear H
          have H := H1
          clear H1
          obtain rfl := Option.some.inj H
          have p286 : 0 ≤ (x15_2 : Int) := of_decide_eq_true Zp
          have q286 : x15_2 < (l0.length : Int) := of_decide_eq_true Zp
          obtain ⟨ad286, e286, hx286_0, hx286_1⟩ := at_T108 HR0.out x15_2 p286 q286
          cases e286
          replace hx286_0 := cbH HB hx286_0
          replace hx286_1 := cbH HB hx286_1
          replace p286 := eq_true p286
          replace q286 := eq_true q286
          go_wp2_with (first | ((with_reducible refine gate_dst (N := 4) rfl ?_); (try (refine gate_guard (by rfl) ?_; dsimp only)); refine box_event ?hg (N := 4) ?hd (cs := #[.int .i64 0, .int .i64 0]) (t := 108) ?hr ?_; (case hd => rfl); (case hg => rfl); (case hr => first | (go_simp; done) | (go_simp; rfl)); intro gb287 hg w16 hbox hb; have n0_ := Aside0.mk (below_step Zc hb); have n1_ := Aside0.mk (hbox); have n2_ := Aside0.mk ((Zd : w.heap.size ≤ gb287)); have n3_ := Aside0.mk ((Zd : w.heap.size ≤ gb287)); clear HB; have HB := n0_; have BK287 := n1_; have GW287 := n2_; have GE287 := n3_; clear n0_ n1_ n2_ n3_; clear hb hbox hg; obtain ⟨hcz17_0, hcz17_1, hfz17_0, hfz17_1⟩ := cz2 BK287) | ((with_reducible refine gate_callee (f := 89) rfl ?_); refine goesL_ (some 21) rfl rfl Try.func89 Zj rfl #[.int .i64 ((rd_T108 l0 x15_2).f0), .int .i64 1, .int .i64 16] rfl Zo ?_; (with_reducible refine (impl_within.calls ((rd_T108 l0 x15_2).f0) 1 16 false _ A8.out).mono ?_); rintro e w' ⟨rfl, ⟨nd, rfl⟩⟩; refine ⟨_, rfl, ?_⟩))
          go_ret
          exact ⟨Zk, (have z0_ := GE287; Zf)⟩
        ·rw [if_neg c7] at H
         exact absurd H (by simp)
       ·rw [if_neg c6] at H
        exact absurd H (by simp)
      ·rw [if_neg c5] at H
       have c5b0 : decide (x15_2 < (l0.length : Int)) = false := decide_eq_false c5
       clear c5
       obtain rfl := Option.some.inj H
       go_wp2
       go_ret
       exact ⟨Zk, Zc⟩
end Go.Proofs.Ytnlbaflbhicooaa.F
