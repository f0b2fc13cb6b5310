import Derived.Test.YtnlbaflbhicooaaJFnExactIsShow3
import Derived.Below
import Derived.Deep.Draws
import Derived.Deep.AppendLies
import Derived.Maps.AppendAt
import Derived.OwnWalk
import Derived.Laws.BytesArg
import Derived.Laws.MakeOwn
import Derived.Laws.OwnMore
import Derived.Tactics
import Derived.Lib.ConvBytes
import Derived.Laws.Slices
import Derived.WalkKit
import Derived.KernelRfl
import Derived.RowKit3
import Derived.Deep.LoopGhost
import Derived.Deep.QuietTactic
import Derived.BigQuiet
import Derived.WideLaws
import Derived.Deep.DeepCutAuto
import Derived.Deep.CutBlock
import Derived.Deep.RegionHeld3
import Derived.Lib.AppendStr
import Derived.ArgAppend
import Derived.Laws.IdiomCopy
import Derived.RowKit
import Derived.OrdersHeld
import Derived.Laws.BitsLemmas
import Derived.Laws.StructEq
import Derived.Test.YtnlbaflbhicooaaProg
import Derived.ChangeSlices
import Derived.OpenShut
import Derived.Laws.Cover1
namespace Go.Proofs.Ytnlbaflbhicooaa.F
open Go.RowKit Go.Proofs.YtnlbaflbhicooaaW.PrintWords Go.Proofs.YtnlbaflbhicooaaW.PrintLast Go.Proofs.YtnlbaflbhicooaaW.PrintMore
attribute [local go_sem] max2_int min2_int max_two min_two max_three min_three max_four min_four   -- for this text's walks alone
set_option linter.unusedVariables false
set_option linter.unusedSimpArgs false
def spec_IsArticle.f (k : Nat) (a0_0 : ByteArray) (a0_1 : Int) (a0_2 : Int) (a0_3 : Int) (a0_4 : Int) (a0_5 : Int) (a0_6 : Int) (a0_7 : Int) (a0_8 : Int) : Option (Bool) := (spec_IsWord.f k a0_0).bind fun t118 => (if t118 = true then ((spec_l01In.f a0_1 0 3).bind fun t119 => (if t119 = true then ((spec_l01In.f a0_2 20 300).bind fun t120 => (if t120 = true then ((spec_l01In.f a0_3 0 10000).bind fun t121 => (if t121 = true then ((spec_l01In.f a0_4 0 a0_3).bind fun t122 => (if t122 = true then ((spec_l01In.f a0_5 1 50).bind fun t123 => (if t123 = true then ((spec_l01In.f a0_6 0 10000).bind fun t124 => (if t124 = true then ((spec_l01In.f a0_7 1 100000).bind fun t125 => (if t125 = true then ((spec_l01In.f a0_8 0 3).bind fun t126 => (some t126)) else (some false))) else (some false))) else (some false))) else (some false))) else (some false))) else (some false))) else (some false))) else (some false))
set_option maxHeartbeats 8000000 in
set_option maxRecDepth 100000 in
theorem spec_IsArticle.calls (k : Nat) (a0_0 : ByteArray) (a0_1 : Int) (a0_2 : Int) (a0_3 : Int) (a0_4 : Int) (a0_5 : Int) (a0_6 : Int) (a0_7 : Int) (a0_8 : Int) (r : Bool) (w : World) (h : spec_IsArticle.f k a0_0 a0_1 a0_2 a0_3 a0_4 a0_5 a0_6 a0_7 a0_8 = some r) :
  Calls Try.prog 127 #[.agg #[.string a0_0, .int .i64 a0_1, .int .i64 a0_2, .int .i64 a0_3, .int .i64 a0_4, .int .i64 a0_5, .int .i64 a0_6, .int .i64 a0_7, .int .i64 a0_8]] w fun e w' => e = .returned (.bool r) ∧ Below w.heap.size w w' := by
 have hu92 := Try.underlying92
 have HB := Aside0.mk (Below.refl w.heap.size w)
 have H : ((spec_IsWord.f k a0_0).bind fun t118 => (if t118 = true then ((spec_l01In.f a0_1 0 3).bind fun t119 => (if t119 = true then ((spec_l01In.f a0_2 20 300).bind fun t120 => (if t120 = true then ((spec_l01In.f a0_3 0 10000).bind fun t121 => (if t121 = true then ((spec_l01In.f a0_4 0 a0_3).bind fun t122 => (if t122 = true then ((spec_l01In.f a0_5 1 50).bind fun t123 => (if t123 = true then ((spec_l01In.f a0_6 0 10000).bind fun t124 => (if t124 = true then ((spec_l01In.f a0_7 1 100000).bind fun t125 => (if t125 = true then ((spec_l01In.f a0_8 0 3).bind fun t126 => (some t126)) else (some false))) else (some false))) else (some false))) else (some false))) else (some false))) else (some false))) else (some false))) else (some false))) = some r := h
 clear h
 replace H := Option.bind_eq_some_iff.mp H
 obtain ⟨t118, A20, H⟩ := H
 replace H : (if t118 = true then ((spec_l01In.f a0_1 0 3).bind fun t119 => (if t119 = true then ((spec_l01In.f a0_2 20 300).bind fun t120 => (if t120 = true then ((spec_l01In.f a0_3 0 10000).bind fun t121 => (if t121 = true then ((spec_l01In.f a0_4 0 a0_3).bind fun t122 => (if t122 = true then ((spec_l01In.f a0_5 1 50).bind fun t123 => (if t123 = true then ((spec_l01In.f a0_6 0 10000).bind fun t124 => (if t124 = true then ((spec_l01In.f a0_7 1 100000).bind fun t125 => (if t125 = true then ((spec_l01In.f a0_8 0 3).bind fun t126 => (some t126)) else (some false))) else (some false))) else (some false))) else (some false))) else (some false))) else (some false))) else (some false))) else (some false)) = some r := H
 have A2 := Aside0.mk A20
 clear A20
 by_cases c3 : t118 = true
 ·subst c3
  have H1 : ((spec_l01In.f a0_1 0 3).bind fun t119 => (if t119 = true then ((spec_l01In.f a0_2 20 300).bind fun t120 => (if t120 = true then ((spec_l01In.f a0_3 0 10000).bind fun t121 => (if t121 = true then ((spec_l01In.f a0_4 0 a0_3).bind fun t122 => (if t122 = true then ((spec_l01In.f a0_5 1 50).bind fun t123 => (if t123 = true then ((spec_l01In.f a0_6 0 10000).bind fun t124 => (if t124 = true then ((spec_l01In.f a0_7 1 100000).bind fun t125 => (if t125 = true then ((spec_l01In.f a0_8 0 3).bind fun t126 => (some t126)) else (some false))) else (some false))) else (some false))) else (some false))) else (some false))) else (some false))) else (some false))) = some r := by rw [if_pos rfl] at H; exact H
  clear H
  have H := H1
  clear H1
  replace H := Option.bind_eq_some_iff.mp H
  obtain ⟨t119, A40, H⟩ := H
  replace H : (if t119 = true then ((spec_l01In.f a0_2 20 300).bind fun t120 => (if t120 = true then ((spec_l01In.f a0_3 0 10000).bind fun t121 => (if t121 = true then ((spec_l01In.f a0_4 0 a0_3).bind fun t122 => (if t122 = true then ((spec_l01In.f a0_5 1 50).bind fun t123 => (if t123 = true then ((spec_l01In.f a0_6 0 10000).bind fun t124 => (if t124 = true then ((spec_l01In.f a0_7 1 100000).bind fun t125 => (if t125 = true then ((spec_l01In.f a0_8 0 3).bind fun t126 => (some t126)) else (some false))) else (some false))) else (some false))) else (some false))) else (some false))) else (some false))) else (some false)) = some r := H
  have A4 := Aside0.mk A40
  clear A40
  by_cases c5 : t119 = true
  ·subst c5
   have H1 : ((spec_l01In.f a0_2 20 300).bind fun t120 => (if t120 = true then ((spec_l01In.f a0_3 0 10000).bind fun t121 => (if t121 = true then ((spec_l01In.f a0_4 0 a0_3).bind fun t122 => (if t122 = true then ((spec_l01In.f a0_5 1 50).bind fun t123 => (if t123 = true then ((spec_l01In.f a0_6 0 10000).bind fun t124 => (if t124 = true then ((spec_l01In.f a0_7 1 100000).bind fun t125 => (if t125 = true then ((spec_l01In.f a0_8 0 3).bind fun t126 => (some t126)) else (some false))) else (some false))) else (some false))) else (some false))) else (some false))) else (some false))) = some r := by rw [if_pos rfl] at H; exact H
   clear H
   have H := H1
   clear H1
   replace H := Option.bind_eq_some_iff.mp H
   obtain ⟨t120, A60, H⟩ := H
   replace H : (if t120 = true then ((spec_l01In.f a0_3 0 10000).bind fun t121 => (if t121 = true then ((spec_l01In.f a0_4 0 a0_3).bind fun t122 => (if t122 = true then ((spec_l01In.f a0_5 1 50).bind fun t123 => (if t123 = true then ((spec_l01In.f a0_6 0 10000).bind fun t124 => (if t124 = true then ((spec_l01In.f a0_7 1 100000).bind fun t125 => (if t125 = true then ((spec_l01In.f a0_8 0 3).bind fun t126 => (some t126)) else (some false))) else (some false))) else (some false))) else (some false))) else (some false))) else (some false)) = some r := H
   have A6 := Aside0.mk A60
   clear A60
   by_cases c7 : t120 = true
   ·subst c7
    have H1 : ((spec_l01In.f a0_3 0 10000).bind fun t121 => (if t121 = true then ((spec_l01In.f a0_4 0 a0_3).bind fun t122 => (if t122 = true then ((spec_l01In.f a0_5 1 50).bind fun t123 => (if t123 = true then ((spec_l01In.f a0_6 0 10000).bind fun t124 => (if t124 = true then ((spec_l01In.f a0_7 1 100000).bind fun t125 => (if t125 = true then ((spec_l01In.f a0_8 0 3).bind fun t126 => (some t126)) else (some false))) else (some false))) else (some false))) else (some false))) else (some false))) = some r := by rw [if_pos rfl] at H; exact H
    clear H
    have H := H1
    clear H1
    replace H := Option.bind_eq_some_iff.mp H
    obtain ⟨t121, A80, H⟩ := H
    replace H : (if t121 = true then ((spec_l01In.f a0_4 0 a0_3).bind fun t122 => (if t122 = true then ((spec_l01In.f a0_5 1 50).bind fun t123 => (if t123 = true then ((spec_l01In.f a0_6 0 10000).bind fun t124 => (if t124 = true then ((spec_l01In.f a0_7 1 100000).bind fun t125 => (if t125 = true then ((spec_l01In.f a0_8 0 3).bind fun t126 => (some t126)) else (some false))) else (some false))) else (some false))) else (some false))) else (some false)) = some r := H
    have A8 := Aside0.mk A80
    clear A80
    by_cases c9 : t121 = true
    ·subst c9
     have H1 : ((spec_l01In.f a0_4 0 a0_3).bind fun t122 => (if t122 = true then ((spec_l01In.f a0_5 1 50).bind fun t123 => (if t123 = true then ((spec_l01In.f a0_6 0 10000).bind fun t124 => (if t124 = true then ((spec_l01In.f a0_7 1 100000).bind fun t125 => (if t125 = true then ((spec_l01In.f a0_8 0 3).bind fun t126 => (some t126)) else (some false))) else (some false))) else (some false))) else (some false))) = some r := by rw [if_pos rfl] at H; exact H
     clear H
     have H := H1
     clear H1
     replace H := Option.bind_eq_some_iff.mp H
     obtain ⟨t122, A100, H⟩ := H
     replace H : (if t122 = true then ((spec_l01In.f a0_5 1 50).bind fun t123 => (if t123 = true then ((spec_l01In.f a0_6 0 10000).bind fun t124 => (if t124 = true then ((spec_l01In.f a0_7 1 100000).bind fun t125 => (if t125 = true then ((spec_l01In.f a0_8 0 3).bind fun t126 => (some t126)) else (some false))) else (some false))) else (some false))) else (some false)) = some r := H
     have A10 := Aside0.mk A100
     clear A100
     by_cases c11 : t122 = true
     ·subst c11
      have H1 : ((spec_l01In.f a0_5 1 50).bind fun t123 => (if t123 = true then ((spec_l01In.f a0_6 0 10000).bind fun t124 => (if t124 = true then ((spec_l01In.f a0_7 1 100000).bind fun t125 => (if t125 = true then ((spec_l01In.f a0_8 0 3).bind fun t126 => (some t126)) else (some false))) else (some false))) else (some false))) = some r := by rw [if_pos rfl] at H; exact H
      clear H
      have H := H1
      clear H1
      replace H := Option.bind_eq_some_iff.mp H
      obtain ⟨t123, A120, H⟩ := H
      replace H : (if t123 = true then ((spec_l01In.f a0_6 0 10000).bind fun t124 => (if t124 = true then ((spec_l01In.f a0_7 1 100000).bind fun t125 => (if t125 = true then ((spec_l01In.f a0_8 0 3).bind fun t126 => (some t126)) else (some false))) else (some false))) else (some false)) = some r := H
      have A12 := Aside0.mk A120
      clear A120
      by_cases c13 : t123 = true
      ·subst c13
       have H1 : ((spec_l01In.f a0_6 0 10000).bind fun t124 => (if t124 = true then ((spec_l01In.f a0_7 1 100000).bind fun t125 => (if t125 = true then ((spec_l01In.f a0_8 0 3).bind fun t126 => (some t126)) else (some false))) else (some false))) = some r := by rw [if_pos rfl] at H; exact H
       clear H
       have H := H1
       clear H1
       replace H := Option.bind_eq_some_iff.mp H
       obtain ⟨t124, A140, H⟩ := H
       replace H : (if t124 = true then ((spec_l01In.f a0_7 1 100000).bind fun t125 => (if t125 = true then ((spec_l01In.f a0_8 0 3).bind fun t126 => (some t126)) else (some false))) else (some false)) = some r := H
       have A14 := Aside0.mk A140
       clear A140
       by_cases c15 : t124 = true
       ·subst c15
        have H1 : ((spec_l01In.f a0_7 1 100000).bind fun t125 => (if t125 = true then ((spec_l01In.f a0_8 0 3).bind fun t126 => (some t126)) else (some false))) = some r := by rw [if_pos rfl] at H; exact H
        clear H
        have H := H1
        clear H1
        replace H := Option.bind_eq_some_iff.mp H
        obtain ⟨t125, A160, H⟩ := H
        replace H : (if t125 = true then ((spec_l01In.f a0_8 0 3).bind fun t126 => (some t126)) else (some false)) = some r := H
        have A16 := Aside0.mk A160
        clear A160
        by_cases c17 : t125 = true
        ·subst c17
         have H1 : ((spec_l01In.f a0_8 0 3).bind fun t126 => (some t126)) = some r := by rw [if_pos rfl] at H; exact H
         clear H
         have H := H1
         clear H1
         replace H := Option.bind_eq_some_iff.mp H
         obtain ⟨t126, A180, H⟩ := H
         replace H : (some t126) = some r := H
         have A18 := Aside0.mk A180
         clear A180
         obtain rfl := Option.some.inj H
         go_enter Try.func127, Try.ntmps127
         go_wp2_with (first | ((with_reducible refine gate_dst (N := 1) rfl ?_); refine box_event ?hg (N := 1) ?hd (cs := #[.string a0_0, .int .i64 a0_1, .int .i64 a0_2, .int .i64 a0_3, .int .i64 a0_4, .int .i64 a0_5, .int .i64 a0_6, .int .i64 a0_7, .int .i64 a0_8]) (t := 92) ?hr ?_; (case hd => rfl); (case hg => rfl); (case hr => first | (go_simp; done) | (go_simp; rfl)); intro gb117 hg w19 hbox hb; have n0_ := Aside0.mk (below_step Zc hb); have n1_ := Aside0.mk (hbox); have n2_ := Aside0.mk ((Zd : w.heap.size ≤ gb117)); have n3_ := Aside0.mk ((Zd : w.heap.size ≤ gb117)); clear HB; have HB := n0_; have BK117 := n1_; have GW117 := n2_; have GE117 := n3_; clear n0_ n1_ n2_ n3_; clear hb hbox hg; have hcz20_0 : w19.cell? ⟨gb117, 0, none⟩ = some (.string a0_0) := (blk_cell BK117.out 0).trans rfl; have hcz20_1 : w19.cell? ⟨gb117, 1, none⟩ = some (.int .i64 a0_1) := (blk_cell BK117.out 1).trans rfl; have hcz20_2 : w19.cell? ⟨gb117, 2, none⟩ = some (.int .i64 a0_2) := (blk_cell BK117.out 2).trans rfl; have hcz20_3 : w19.cell? ⟨gb117, 3, none⟩ = some (.int .i64 a0_3) := (blk_cell BK117.out 3).trans rfl; have hcz20_4 : w19.cell? ⟨gb117, 4, none⟩ = some (.int .i64 a0_4) := (blk_cell BK117.out 4).trans rfl; have hcz20_5 : w19.cell? ⟨gb117, 5, none⟩ = some (.int .i64 a0_5) := (blk_cell BK117.out 5).trans rfl; have hcz20_6 : w19.cell? ⟨gb117, 6, none⟩ = some (.int .i64 a0_6) := (blk_cell BK117.out 6).trans rfl; have hcz20_7 : w19.cell? ⟨gb117, 7, none⟩ = some (.int .i64 a0_7) := (blk_cell BK117.out 7).trans rfl; have hcz20_8 : w19.cell? ⟨gb117, 8, none⟩ = some (.int .i64 a0_8) := (blk_cell BK117.out 8).trans rfl; have hfz20_0 := blk_frozen BK117.out 0; have hfz20_1 := blk_frozen BK117.out 1; have hfz20_2 := blk_frozen BK117.out 2; have hfz20_3 := blk_frozen BK117.out 3; have hfz20_4 := blk_frozen BK117.out 4; have hfz20_5 := blk_frozen BK117.out 5; have hfz20_6 := blk_frozen BK117.out 6; have hfz20_7 := blk_frozen BK117.out 7; have hfz20_8 := blk_frozen BK117.out 8) | ((with_reducible refine gate_callee (f := 134) rfl ?_); refine goesL_ (some 5) rfl rfl Try.func134 Zj rfl #[.string a0_0] rfl Zo ?_; (with_reducible refine (spec_IsWord.calls k a0_0 true _ A2.out).mono ?_); rintro e w' ⟨rfl, ⟨nd, rfl⟩⟩; refine ⟨_, rfl, ?_⟩) | (go_at_call 68; (with_reducible refine (spec_l01In.calls a0_1 0 3 true _ A4.out).mono ?_); rintro e w' ⟨rfl, ⟨nd, rfl⟩⟩) | (go_at_call 68; (with_reducible refine (spec_l01In.calls a0_2 20 300 true _ A6.out).mono ?_); rintro e w' ⟨rfl, ⟨nd, rfl⟩⟩) | (go_at_call 68; (with_reducible refine (spec_l01In.calls a0_3 0 10000 true _ A8.out).mono ?_); rintro e w' ⟨rfl, ⟨nd, rfl⟩⟩) | (go_at_call 68; (with_reducible refine (spec_l01In.calls a0_4 0 a0_3 true _ A10.out).mono ?_); rintro e w' ⟨rfl, ⟨nd, rfl⟩⟩) | (go_at_call 68; (with_reducible refine (spec_l01In.calls a0_5 1 50 true _ A12.out).mono ?_); rintro e w' ⟨rfl, ⟨nd, rfl⟩⟩) | (go_at_call 68; (with_reducible refine (spec_l01In.calls a0_6 0 10000 true _ A14.out).mono ?_); rintro e w' ⟨rfl, ⟨nd, rfl⟩⟩) | (go_at_call 68; (with_reducible refine (spec_l01In.calls a0_7 1 100000 true _ A16.out).mono ?_); rintro e w' ⟨rfl, ⟨nd, rfl⟩⟩) | (go_at_call 68; (with_reducible refine (spec_l01In.calls a0_8 0 3 t126 _ A18.out).mono ?_); rintro e w' ⟨rfl, ⟨nd, rfl⟩⟩))
         go_ret
         exact ⟨Zk, (have z0_ := GE117; Zf)⟩
        ·replace c17 := Bool.eq_false_iff.mpr c17
         subst c17
         have H1 : (some false) = some r := by rw [if_neg (show ¬ (false = true) by decide)] at H; exact H
         clear H
         have H := H1
         clear H1
         obtain rfl := Option.some.inj H
         go_enter Try.func127, Try.ntmps127
         go_wp2_with (first | ((with_reducible refine gate_dst (N := 1) rfl ?_); refine box_event ?hg (N := 1) ?hd (cs := #[.string a0_0, .int .i64 a0_1, .int .i64 a0_2, .int .i64 a0_3, .int .i64 a0_4, .int .i64 a0_5, .int .i64 a0_6, .int .i64 a0_7, .int .i64 a0_8]) (t := 92) ?hr ?_; (case hd => rfl); (case hg => rfl); (case hr => first | (go_simp; done) | (go_simp; rfl)); intro gb117 hg w21 hbox hb; have n0_ := Aside0.mk (below_step Zc hb); have n1_ := Aside0.mk (hbox); have n2_ := Aside0.mk ((Zd : w.heap.size ≤ gb117)); have n3_ := Aside0.mk ((Zd : w.heap.size ≤ gb117)); clear HB; have HB := n0_; have BK117 := n1_; have GW117 := n2_; have GE117 := n3_; clear n0_ n1_ n2_ n3_; clear hb hbox hg; have hcz22_0 : w21.cell? ⟨gb117, 0, none⟩ = some (.string a0_0) := (blk_cell BK117.out 0).trans rfl; have hcz22_1 : w21.cell? ⟨gb117, 1, none⟩ = some (.int .i64 a0_1) := (blk_cell BK117.out 1).trans rfl; have hcz22_2 : w21.cell? ⟨gb117, 2, none⟩ = some (.int .i64 a0_2) := (blk_cell BK117.out 2).trans rfl; have hcz22_3 : w21.cell? ⟨gb117, 3, none⟩ = some (.int .i64 a0_3) := (blk_cell BK117.out 3).trans rfl; have hcz22_4 : w21.cell? ⟨gb117, 4, none⟩ = some (.int .i64 a0_4) := (blk_cell BK117.out 4).trans rfl; have hcz22_5 : w21.cell? ⟨gb117, 5, none⟩ = some (.int .i64 a0_5) := (blk_cell BK117.out 5).trans rfl; have hcz22_6 : w21.cell? ⟨gb117, 6, none⟩ = some (.int .i64 a0_6) := (blk_cell BK117.out 6).trans rfl; have hcz22_7 : w21.cell? ⟨gb117, 7, none⟩ = some (.int .i64 a0_7) := (blk_cell BK117.out 7).trans rfl; have hcz22_8 : w21.cell? ⟨gb117, 8, none⟩ = some (.int .i64 a0_8) := (blk_cell BK117.out 8).trans rfl; have hfz22_0 := blk_frozen BK117.out 0; have hfz22_1 := blk_frozen BK117.out 1; have hfz22_2 := blk_frozen BK117.out 2; have hfz22_3 := blk_frozen BK117.out 3; have hfz22_4 := blk_frozen BK117.out 4; have hfz22_5 := blk_frozen BK117.out 5; have hfz22_6 := blk_frozen BK117.out 6; have hfz22_7 := blk_frozen BK117.out 7; have hfz22_8 := blk_frozen BK117.out 8) | ((with_reducible refine gate_callee (f := 134) rfl ?_); refine goesL_ (some 5) rfl rfl Try.func134 Zj rfl #[.string a0_0] rfl Zo ?_; (with_reducible refine (spec_IsWord.calls k a0_0 true _ A2.out).mono ?_); rintro e w' ⟨rfl, ⟨nd, rfl⟩⟩; refine ⟨_, rfl, ?_⟩) | (go_at_call 68; (with_reducible refine (spec_l01In.calls a0_1 0 3 true _ A4.out).mono ?_); rintro e w' ⟨rfl, ⟨nd, rfl⟩⟩) | (go_at_call 68; (with_reducible refine (spec_l01In.calls a0_2 20 300 true _ A6.out).mono ?_); rintro e w' ⟨rfl, ⟨nd, rfl⟩⟩) | (go_at_call 68; (with_reducible refine (spec_l01In.calls a0_3 0 10000 true _ A8.out).mono ?_); rintro e w' ⟨rfl, ⟨nd, rfl⟩⟩) | (go_at_call 68; (with_reducible refine (spec_l01In.calls a0_4 0 a0_3 true _ A10.out).mono ?_); rintro e w' ⟨rfl, ⟨nd, rfl⟩⟩) | (go_at_call 68; (with_reducible refine (spec_l01In.calls a0_5 1 50 true _ A12.out).mono ?_); rintro e w' ⟨rfl, ⟨nd, rfl⟩⟩) | (go_at_call 68; (with_reducible refine (spec_l01In.calls a0_6 0 10000 true _ A14.out).mono ?_); rintro e w' ⟨rfl, ⟨nd, rfl⟩⟩) | (go_at_call 68; (with_reducible refine (spec_l01In.calls a0_7 1 100000 false _ A16.out).mono ?_); rintro e w' ⟨rfl, ⟨nd, rfl⟩⟩))
         go_ret
         exact ⟨Zk, (have z0_ := GE117; Zf)⟩
       ·replace c15 := Bool.eq_false_iff.mpr c15
        subst c15
        have H1 : (some false) = some r := by rw [if_neg (show ¬ (false = true) by decide)] at H; exact H
        clear H
        have H := H1
        clear H1
        obtain rfl := Option.some.inj H
        go_enter Try.func127, Try.ntmps127
        go_wp2_with (first | ((with_reducible refine gate_dst (N := 1) rfl ?_); refine box_event ?hg (N := 1) ?hd (cs := #[.string a0_0, .int .i64 a0_1, .int .i64 a0_2, .int .i64 a0_3, .int .i64 a0_4, .int .i64 a0_5, .int .i64 a0_6, .int .i64 a0_7, .int .i64 a0_8]) (t := 92) ?hr ?_; (case hd => rfl); (case hg => rfl); (case hr => first | (go_simp; done) | (go_simp; rfl)); intro gb117 hg w23 hbox hb; have n0_ := Aside0.mk (below_step Zc hb); have n1_ := Aside0.mk (hbox); have n2_ := Aside0.mk ((Zd : w.heap.size ≤ gb117)); have n3_ := Aside0.mk ((Zd : w.heap.size ≤ gb117)); clear HB; have HB := n0_; have BK117 := n1_; have GW117 := n2_; have GE117 := n3_; clear n0_ n1_ n2_ n3_; clear hb hbox hg; have hcz24_0 : w23.cell? ⟨gb117, 0, none⟩ = some (.string a0_0) := (blk_cell BK117.out 0).trans rfl; have hcz24_1 : w23.cell? ⟨gb117, 1, none⟩ = some (.int .i64 a0_1) := (blk_cell BK117.out 1).trans rfl; have hcz24_2 : w23.cell? ⟨gb117, 2, none⟩ = some (.int .i64 a0_2) := (blk_cell BK117.out 2).trans rfl; have hcz24_3 : w23.cell? ⟨gb117, 3, none⟩ = some (.int .i64 a0_3) := (blk_cell BK117.out 3).trans rfl; have hcz24_4 : w23.cell? ⟨gb117, 4, none⟩ = some (.int .i64 a0_4) := (blk_cell BK117.out 4).trans rfl; have hcz24_5 : w23.cell? ⟨gb117, 5, none⟩ = some (.int .i64 a0_5) := (blk_cell BK117.out 5).trans rfl; have hcz24_6 : w23.cell? ⟨gb117, 6, none⟩ = some (.int .i64 a0_6) := (blk_cell BK117.out 6).trans rfl; have hcz24_7 : w23.cell? ⟨gb117, 7, none⟩ = some (.int .i64 a0_7) := (blk_cell BK117.out 7).trans rfl; have hcz24_8 : w23.cell? ⟨gb117, 8, none⟩ = some (.int .i64 a0_8) := (blk_cell BK117.out 8).trans rfl; have hfz24_0 := blk_frozen BK117.out 0; have hfz24_1 := blk_frozen BK117.out 1; have hfz24_2 := blk_frozen BK117.out 2; have hfz24_3 := blk_frozen BK117.out 3; have hfz24_4 := blk_frozen BK117.out 4; have hfz24_5 := blk_frozen BK117.out 5; have hfz24_6 := blk_frozen BK117.out 6; have hfz24_7 := blk_frozen BK117.out 7; have hfz24_8 := blk_frozen BK117.out 8) | ((with_reducible refine gate_callee (f := 134) rfl ?_); refine goesL_ (some 5) rfl rfl Try.func134 Zj rfl #[.string a0_0] rfl Zo ?_; (with_reducible refine (spec_IsWord.calls k a0_0 true _ A2.out).mono ?_); rintro e w' ⟨rfl, ⟨nd, rfl⟩⟩; refine ⟨_, rfl, ?_⟩) | (go_at_call 68; (with_reducible refine (spec_l01In.calls a0_1 0 3 true _ A4.out).mono ?_); rintro e w' ⟨rfl, ⟨nd, rfl⟩⟩) | (go_at_call 68; (with_reducible refine (spec_l01In.calls a0_2 20 300 true _ A6.out).mono ?_); rintro e w' ⟨rfl, ⟨nd, rfl⟩⟩) | (go_at_call 68; (with_reducible refine (spec_l01In.calls a0_3 0 10000 true _ A8.out).mono ?_); rintro e w' ⟨rfl, ⟨nd, rfl⟩⟩) | (go_at_call 68; (with_reducible refine (spec_l01In.calls a0_4 0 a0_3 true _ A10.out).mono ?_); rintro e w' ⟨rfl, ⟨nd, rfl⟩⟩) | (go_at_call 68; (with_reducible refine (spec_l01In.calls a0_5 1 50 true _ A12.out).mono ?_); rintro e w' ⟨rfl, ⟨nd, rfl⟩⟩) | (go_at_call 68; (with_reducible refine (spec_l01In.calls a0_6 0 10000 false _ A14.out).mono ?_); rintro e w' ⟨rfl, ⟨nd, rfl⟩⟩))
        go_ret
        exact ⟨Zk, (have z0_ := GE117; Zf)⟩
      ·replace c13 := Bool.eq_false_iff.mpr c13
       subst c13
       have H1 : (some false) = some r := by rw [if_neg (show ¬ (false = true) by decide)] at H; exact H
       clear H
       have H := H1
       clear H1
       obtain rfl := Option.some.inj H
       go_enter Try.func127, Try.ntmps127
       go_wp2_with (first | ((with_reducible refine gate_dst (N := 1) rfl ?_); refine box_event ?hg (N := 1) ?hd (cs := #[.string a0_0, .int .i64 a0_1, .int .i64 a0_2, .int .i64 a0_3, .int .i64 a0_4, .int .i64 a0_5, .int .i64 a0_6, .int .i64 a0_7, .int .i64 a0_8]) (t := 92) ?hr ?_; (case hd => rfl); (case hg => rfl); (case hr => first | (go_simp; done) | (go_simp; rfl)); intro gb117 hg w25 hbox hb; have n0_ := Aside0.mk (below_step Zc hb); have n1_ := Aside0.mk (hbox); have n2_ := Aside0.mk ((Zd : w.heap.size ≤ gb117)); have n3_ := Aside0.mk ((Zd : w.heap.size ≤ gb117)); clear HB; have HB := n0_; have BK117 := n1_; have GW117 := n2_; have GE117 := n3_; clear n0_ n1_ n2_ n3_; clear hb hbox hg; have hcz26_0 : w25.cell? ⟨gb117, 0, none⟩ = some (.string a0_0) := (blk_cell BK117.out 0).trans rfl; have hcz26_1 : w25.cell? ⟨gb117, 1, none⟩ = some (.int .i64 a0_1) := (blk_cell BK117.out 1).trans rfl; have hcz26_2 : w25.cell? ⟨gb117, 2, none⟩ = some (.int .i64 a0_2) := (blk_cell BK117.out 2).trans rfl; have hcz26_3 : w25.cell? ⟨gb117, 3, none⟩ = some (.int .i64 a0_3) := (blk_cell BK117.out 3).trans rfl; have hcz26_4 : w25.cell? ⟨gb117, 4, none⟩ = some (.int .i64 a0_4) := (blk_cell BK117.out 4).trans rfl; have hcz26_5 : w25.cell? ⟨gb117, 5, none⟩ = some (.int .i64 a0_5) := (blk_cell BK117.out 5).trans rfl; have hcz26_6 : w25.cell? ⟨gb117, 6, none⟩ = some (.int .i64 a0_6) := (blk_cell BK117.out 6).trans rfl; have hcz26_7 : w25.cell? ⟨gb117, 7, none⟩ = some (.int .i64 a0_7) := (blk_cell BK117.out 7).trans rfl; have hcz26_8 : w25.cell? ⟨gb117, 8, none⟩ = some (.int .i64 a0_8) := (blk_cell BK117.out 8).trans rfl; have hfz26_0 := blk_frozen BK117.out 0; have hfz26_1 := blk_frozen BK117.out 1; have hfz26_2 := blk_frozen BK117.out 2; have hfz26_3 := blk_frozen BK117.out 3; have hfz26_4 := blk_frozen BK117.out 4; have hfz26_5 := blk_frozen BK117.out 5; have hfz26_6 := blk_frozen BK117.out 6; have hfz26_7 := blk_frozen BK117.out 7; have hfz26_8 := blk_frozen BK117.out 8) | ((with_reducible refine gate_callee (f := 134) rfl ?_); refine goesL_ (some 5) rfl rfl Try.func134 Zj rfl #[.string a0_0] rfl Zo ?_; (with_reducible refine (spec_IsWord.calls k a0_0 true _ A2.out).mono ?_); rintro e w' ⟨rfl, ⟨nd, rfl⟩⟩; refine ⟨_, rfl, ?_⟩) | (go_at_call 68; (with_reducible refine (spec_l01In.calls a0_1 0 3 true _ A4.out).mono ?_); rintro e w' ⟨rfl, ⟨nd, rfl⟩⟩) | (go_at_call 68; (with_reducible refine (spec_l01In.calls a0_2 20 300 true _ A6.out).mono ?_); rintro e w' ⟨rfl, ⟨nd, rfl⟩⟩) | (go_at_call 68; (with_reducible refine (spec_l01In.calls a0_3 0 10000 true _ A8.out).mono ?_); rintro e w' ⟨rfl, ⟨nd, rfl⟩⟩) | (go_at_call 68; (with_reducible refine (spec_l01In.calls a0_4 0 a0_3 true _ A10.out).mono ?_); rintro e w' ⟨rfl, ⟨nd, rfl⟩⟩) | (go_at_call 68; (with_reducible refine (spec_l01In.calls a0_5 1 50 false _ A12.out).mono ?_); rintro e w' ⟨rfl, ⟨nd, rfl⟩⟩))
       go_ret
       exact ⟨Zk, (have z0_ := GE117; Zf)⟩
     ·replace c11 := Bool.eq_false_iff.mpr c11
      subst c11
      have H1 : (some false) = some r := by rw [if_neg (show ¬ (false = true) by decide)] at H; exact H
      clear H
      have H := H1
      clear H1
      obtain rfl := Option.some.inj H
      go_enter Try.func127, Try.ntmps127
      go_wp2_with (first | ((with_reducible refine gate_dst (N := 1) rfl ?_); refine box_event ?hg (N := 1) ?hd (cs := #[.string a0_0, .int .i64 a0_1, .int .i64 a0_2, .int .i64 a0_3, .int .i64 a0_4, .int .i64 a0_5, .int .i64 a0_6, .int .i64 a0_7, .int .i64 a0_8]) (t := 92) ?hr ?_; (case hd => rfl); (case hg => rfl); (case hr => first | (go_simp; done) | (go_simp; rfl)); intro gb117 hg w27 hbox hb; have n0_ := Aside0.mk (below_step Zc hb); have n1_ := Aside0.mk (hbox); have n2_ := Aside0.mk ((Zd : w.heap.size ≤ gb117)); have n3_ := Aside0.mk ((Zd : w.heap.size ≤ gb117)); clear HB; have HB := n0_; have BK117 := n1_; have GW117 := n2_; have GE117 := n3_; clear n0_ n1_ n2_ n3_; clear hb hbox hg; have hcz28_0 : w27.cell? ⟨gb117, 0, none⟩ = some (.string a0_0) := (blk_cell BK117.out 0).trans rfl; have hcz28_1 : w27.cell? ⟨gb117, 1, none⟩ = some (.int .i64 a0_1) := (blk_cell BK117.out 1).trans rfl; have hcz28_2 : w27.cell? ⟨gb117, 2, none⟩ = some (.int .i64 a0_2) := (blk_cell BK117.out 2).trans rfl; have hcz28_3 : w27.cell? ⟨gb117, 3, none⟩ = some (.int .i64 a0_3) := (blk_cell BK117.out 3).trans rfl; have hcz28_4 : w27.cell? ⟨gb117, 4, none⟩ = some (.int .i64 a0_4) := (blk_cell BK117.out 4).trans rfl; have hcz28_5 : w27.cell? ⟨gb117, 5, none⟩ = some (.int .i64 a0_5) := (blk_cell BK117.out 5).trans rfl; have hcz28_6 : w27.cell? ⟨gb117, 6, none⟩ = some (.int .i64 a0_6) := (blk_cell BK117.out 6).trans rfl; have hcz28_7 : w27.cell? ⟨gb117, 7, none⟩ = some (.int .i64 a0_7) := (blk_cell BK117.out 7).trans rfl; have hcz28_8 : w27.cell? ⟨gb117, 8, none⟩ = some (.int .i64 a0_8) := (blk_cell BK117.out 8).trans rfl; have hfz28_0 := blk_frozen BK117.out 0; have hfz28_1 := blk_frozen BK117.out 1; have hfz28_2 := blk_frozen BK117.out 2; have hfz28_3 := blk_frozen BK117.out 3; have hfz28_4 := blk_frozen BK117.out 4; have hfz28_5 := blk_frozen BK117.out 5; have hfz28_6 := blk_frozen BK117.out 6; have hfz28_7 := blk_frozen BK117.out 7; have hfz28_8 := blk_frozen BK117.out 8) | ((with_reducible refine gate_callee (f := 134) rfl ?_); refine goesL_ (some 5) rfl rfl Try.func134 Zj rfl #[.string a0_0] rfl Zo ?_; (with_reducible refine (spec_IsWord.calls k a0_0 true _ A2.out).mono ?_); rintro e w' ⟨rfl, ⟨nd, rfl⟩⟩; refine ⟨_, rfl, ?_⟩) | (go_at_call 68; (with_reducible refine (spec_l01In.calls a0_1 0 3 true _ A4.out).mono ?_); rintro e w' ⟨rfl, ⟨nd, rfl⟩⟩) | (go_at_call 68; (with_reducible refine (spec_l01In.calls a0_2 20 300 true _ A6.out).mono ?_); rintro e w' ⟨rfl, ⟨nd, rfl⟩⟩) | (go_at_call 68; (with_reducible refine (spec_l01In.calls a0_3 0 10000 true _ A8.out).mono ?_); rintro e w' ⟨rfl, ⟨nd, rfl⟩⟩) | (go_at_call 68; (with_reducible refine (spec_l01In.calls a0_4 0 a0_3 false _ A10.out).mono ?_); rintro e w' ⟨rfl, ⟨nd, rfl⟩⟩))
      go_ret
      exact ⟨Zk, (have z0_ := GE117; Zf)⟩
    ·replace c9 := Bool.eq_false_iff.mpr c9
     subst c9
     have H1 : (some false) = some r := by rw [if_neg (show ¬ (false = true) by decide)] at H; exact H
     clear H
     have H := H1
     clear H1
     obtain rfl := Option.some.inj H
     go_enter Try.func127, Try.ntmps127
     go_wp2_with (first | ((with_reducible refine gate_dst (N := 1) rfl ?_); refine box_event ?hg (N := 1) ?hd (cs := #[.string a0_0, .int .i64 a0_1, .int .i64 a0_2, .int .i64 a0_3, .int .i64 a0_4, .int .i64 a0_5, .int .i64 a0_6, .int .i64 a0_7, .int .i64 a0_8]) (t := 92) ?hr ?_; (case hd => rfl); (case hg => rfl); (case hr => first | (go_simp; done) | (go_simp; rfl)); intro gb117 hg w29 hbox hb; have n0_ := Aside0.mk (below_step Zc hb); have n1_ := Aside0.mk (hbox); have n2_ := Aside0.mk ((Zd : w.heap.size ≤ gb117)); have n3_ := Aside0.mk ((Zd : w.heap.size ≤ gb117)); clear HB; have HB := n0_; have BK117 := n1_; have GW117 := n2_; have GE117 := n3_; clear n0_ n1_ n2_ n3_; clear hb hbox hg; have hcz30_0 : w29.cell? ⟨gb117, 0, none⟩ = some (.string a0_0) := (blk_cell BK117.out 0).trans rfl; have hcz30_1 : w29.cell? ⟨gb117, 1, none⟩ = some (.int .i64 a0_1) := (blk_cell BK117.out 1).trans rfl; have hcz30_2 : w29.cell? ⟨gb117, 2, none⟩ = some (.int .i64 a0_2) := (blk_cell BK117.out 2).trans rfl; have hcz30_3 : w29.cell? ⟨gb117, 3, none⟩ = some (.int .i64 a0_3) := (blk_cell BK117.out 3).trans rfl; have hcz30_4 : w29.cell? ⟨gb117, 4, none⟩ = some (.int .i64 a0_4) := (blk_cell BK117.out 4).trans rfl; have hcz30_5 : w29.cell? ⟨gb117, 5, none⟩ = some (.int .i64 a0_5) := (blk_cell BK117.out 5).trans rfl; have hcz30_6 : w29.cell? ⟨gb117, 6, none⟩ = some (.int .i64 a0_6) := (blk_cell BK117.out 6).trans rfl; have hcz30_7 : w29.cell? ⟨gb117, 7, none⟩ = some (.int .i64 a0_7) := (blk_cell BK117.out 7).trans rfl; have hcz30_8 : w29.cell? ⟨gb117, 8, none⟩ = some (.int .i64 a0_8) := (blk_cell BK117.out 8).trans rfl; have hfz30_0 := blk_frozen BK117.out 0; have hfz30_1 := blk_frozen BK117.out 1; have hfz30_2 := blk_frozen BK117.out 2; have hfz30_3 := blk_frozen BK117.out 3; have hfz30_4 := blk_frozen BK117.out 4; have hfz30_5 := blk_frozen BK117.out 5; have hfz30_6 := blk_frozen BK117.out 6; have hfz30_7 := blk_frozen BK117.out 7; have hfz30_8 := blk_frozen BK117.out 8) | ((with_reducible refine gate_callee (f := 134) rfl ?_); refine goesL_ (some 5) rfl rfl Try.func134 Zj rfl #[.string a0_0] rfl Zo ?_; (with_reducible refine (spec_IsWord.calls k a0_0 true _ A2.out).mono ?_); rintro e w' ⟨rfl, ⟨nd, rfl⟩⟩; refine ⟨_, rfl, ?_⟩) | (go_at_call 68; (with_reducible refine (spec_l01In.calls a0_1 0 3 true _ A4.out).mono ?_); rintro e w' ⟨rfl, ⟨nd, rfl⟩⟩) | (go_at_call 68; (with_reducible refine (spec_l01In.calls a0_2 20 300 true _ A6.out).mono ?_); rintro e w' ⟨rfl, ⟨nd, rfl⟩⟩) | (go_at_call 68; (with_reducible refine (spec_l01In.calls a0_3 0 10000 false _ A8.out).mono ?_); rintro e w' ⟨rfl, ⟨nd, rfl⟩⟩))
     go_ret
     exact ⟨Zk, (have z0_ := GE117; Zf)⟩
   ·replace c7 := Bool.eq_false_iff.mpr c7
    subst c7
    have H1 : (some false) = some r := by rw [if_neg (show ¬ (false = true) by decide)] at H; exact H
    clear H
    have H := H1
    clear H1
    obtain rfl := Option.some.inj H
    go_enter Try.func127, Try.ntmps127
    go_wp2_with (first | ((with_reducible refine gate_dst (N := 1) rfl ?_); refine box_event ?hg (N := 1) ?hd (cs := #[.string a0_0, .int .i64 a0_1, .int .i64 a0_2, .int .i64 a0_3, .int .i64 a0_4, .int .i64 a0_5, .int .i64 a0_6, .int .i64 a0_7, .int .i64 a0_8]) (t := 92) ?hr ?_; (case hd => rfl); (case hg => rfl); (case hr => first | (go_simp; done) | (go_simp; rfl)); intro gb117 hg w31 hbox hb; have n0_ := Aside0.mk (below_step Zc hb); have n1_ := Aside0.mk (hbox); have n2_ := Aside0.mk ((Zd : w.heap.size ≤ gb117)); have n3_ := Aside0.mk ((Zd : w.heap.size ≤ gb117)); clear HB; have HB := n0_; have BK117 := n1_; have GW117 := n2_; have GE117 := n3_; clear n0_ n1_ n2_ n3_; clear hb hbox hg; have hcz32_0 : w31.cell? ⟨gb117, 0, none⟩ = some (.string a0_0) := (blk_cell BK117.out 0).trans rfl; have hcz32_1 : w31.cell? ⟨gb117, 1, none⟩ = some (.int .i64 a0_1) := (blk_cell BK117.out 1).trans rfl; have hcz32_2 : w31.cell? ⟨gb117, 2, none⟩ = some (.int .i64 a0_2) := (blk_cell BK117.out 2).trans rfl; have hcz32_3 : w31.cell? ⟨gb117, 3, none⟩ = some (.int .i64 a0_3) := (blk_cell BK117.out 3).trans rfl; have hcz32_4 : w31.cell? ⟨gb117, 4, none⟩ = some (.int .i64 a0_4) := (blk_cell BK117.out 4).trans rfl; have hcz32_5 : w31.cell? ⟨gb117, 5, none⟩ = some (.int .i64 a0_5) := (blk_cell BK117.out 5).trans rfl; have hcz32_6 : w31.cell? ⟨gb117, 6, none⟩ = some (.int .i64 a0_6) := (blk_cell BK117.out 6).trans rfl; have hcz32_7 : w31.cell? ⟨gb117, 7, none⟩ = some (.int .i64 a0_7) := (blk_cell BK117.out 7).trans rfl; have hcz32_8 : w31.cell? ⟨gb117, 8, none⟩ = some (.int .i64 a0_8) := (blk_cell BK117.out 8).trans rfl; have hfz32_0 := blk_frozen BK117.out 0; have hfz32_1 := blk_frozen BK117.out 1; have hfz32_2 := blk_frozen BK117.out 2; have hfz32_3 := blk_frozen BK117.out 3; have hfz32_4 := blk_frozen BK117.out 4; have hfz32_5 := blk_frozen BK117.out 5; have hfz32_6 := blk_frozen BK117.out 6; have hfz32_7 := blk_frozen BK117.out 7; have hfz32_8 := blk_frozen BK117.out 8) | ((with_reducible refine gate_callee (f := 134) rfl ?_); refine goesL_ (some 5) rfl rfl Try.func134 Zj rfl #[.string a0_0] rfl Zo ?_; (with_reducible refine (spec_IsWord.calls k a0_0 true _ A2.out).mono ?_); rintro e w' ⟨rfl, ⟨nd, rfl⟩⟩; refine ⟨_, rfl, ?_⟩) | (go_at_call 68; (with_reducible refine (spec_l01In.calls a0_1 0 3 true _ A4.out).mono ?_); rintro e w' ⟨rfl, ⟨nd, rfl⟩⟩) | (go_at_call 68; (with_reducible refine (spec_l01In.calls a0_2 20 300 false _ A6.out).mono ?_); rintro e w' ⟨rfl, ⟨nd, rfl⟩⟩))
    go_ret
    exact ⟨Zk, (have z0_ := GE117; Zf)⟩
  ·replace c5 := Bool.eq_false_iff.mpr c5
   subst c5
   have H1 : (some false) = some r := by rw [if_neg (show ¬ (false = true) by decide)] at H; exact H
   clear H
   have H := H1
   clear H1
   obtain rfl := Option.some.inj H
   go_enter Try.func127, Try.ntmps127
   go_wp2_with (first | ((with_reducible refine gate_dst (N := 1) rfl ?_); refine box_event ?hg (N := 1) ?hd (cs := #[.string a0_0, .int .i64 a0_1, .int .i64 a0_2, .int .i64 a0_3, .int .i64 a0_4, .int .i64 a0_5, .int .i64 a0_6, .int .i64 a0_7, .int .i64 a0_8]) (t := 92) ?hr ?_; (case hd => rfl); (case hg => rfl); (case hr => first | (go_simp; done) | (go_simp; rfl)); intro gb117 hg w33 hbox hb; have n0_ := Aside0.mk (below_step Zc hb); have n1_ := Aside0.mk (hbox); have n2_ := Aside0.mk ((Zd : w.heap.size ≤ gb117)); have n3_ := Aside0.mk ((Zd : w.heap.size ≤ gb117)); clear HB; have HB := n0_; have BK117 := n1_; have GW117 := n2_; have GE117 := n3_; clear n0_ n1_ n2_ n3_; clear hb hbox hg; have hcz34_0 : w33.cell? ⟨gb117, 0, none⟩ = some (.string a0_0) := (blk_cell BK117.out 0).trans rfl; have hcz34_1 : w33.cell? ⟨gb117, 1, none⟩ = some (.int .i64 a0_1) := (blk_cell BK117.out 1).trans rfl; have hcz34_2 : w33.cell? ⟨gb117, 2, none⟩ = some (.int .i64 a0_2) := (blk_cell BK117.out 2).trans rfl; have hcz34_3 : w33.cell? ⟨gb117, 3, none⟩ = some (.int .i64 a0_3) := (blk_cell BK117.out 3).trans rfl; have hcz34_4 : w33.cell? ⟨gb117, 4, none⟩ = some (.int .i64 a0_4) := (blk_cell BK117.out 4).trans rfl; have hcz34_5 : w33.cell? ⟨gb117, 5, none⟩ = some (.int .i64 a0_5) := (blk_cell BK117.out 5).trans rfl; have hcz34_6 : w33.cell? ⟨gb117, 6, none⟩ = some (.int .i64 a0_6) := (blk_cell BK117.out 6).trans rfl; have hcz34_7 : w33.cell? ⟨gb117, 7, none⟩ = some (.int .i64 a0_7) := (blk_cell BK117.out 7).trans rfl; have hcz34_8 : w33.cell? ⟨gb117, 8, none⟩ = some (.int .i64 a0_8) := (blk_cell BK117.out 8).trans rfl; have hfz34_0 := blk_frozen BK117.out 0; have hfz34_1 := blk_frozen BK117.out 1; have hfz34_2 := blk_frozen BK117.out 2; have hfz34_3 := blk_frozen BK117.out 3; have hfz34_4 := blk_frozen BK117.out 4; have hfz34_5 := blk_frozen BK117.out 5; have hfz34_6 := blk_frozen BK117.out 6; have hfz34_7 := blk_frozen BK117.out 7; have hfz34_8 := blk_frozen BK117.out 8) | ((with_reducible refine gate_callee (f := 134) rfl ?_); refine goesL_ (some 5) rfl rfl Try.func134 Zj rfl #[.string a0_0] rfl Zo ?_; (with_reducible refine (spec_IsWord.calls k a0_0 true _ A2.out).mono ?_); rintro e w' ⟨rfl, ⟨nd, rfl⟩⟩; refine ⟨_, rfl, ?_⟩) | (go_at_call 68; (with_reducible refine (spec_l01In.calls a0_1 0 3 false _ A4.out).mono ?_); rintro e w' ⟨rfl, ⟨nd, rfl⟩⟩))
   go_ret
   exact ⟨Zk, (have z0_ := GE117; Zf)⟩
 ·replace c3 := Bool.eq_false_iff.mpr c3
  subst c3
  have H1 : (some false) = some r := by rw [if_neg (show ¬ (false = true) by decide)] at H; exact H
  clear H
  have H := H1
  clear H1
  obtain rfl := Option.some.inj H
  go_enter Try.func127, Try.ntmps127
  go_wp2_with (first | ((with_reducible refine gate_dst (N := 1) rfl ?_); refine box_event ?hg (N := 1) ?hd (cs := #[.string a0_0, .int .i64 a0_1, .int .i64 a0_2, .int .i64 a0_3, .int .i64 a0_4, .int .i64 a0_5, .int .i64 a0_6, .int .i64 a0_7, .int .i64 a0_8]) (t := 92) ?hr ?_; (case hd => rfl); (case hg => rfl); (case hr => first | (go_simp; done) | (go_simp; rfl)); intro gb117 hg w35 hbox hb; have n0_ := Aside0.mk (below_step Zc hb); have n1_ := Aside0.mk (hbox); have n2_ := Aside0.mk ((Zd : w.heap.size ≤ gb117)); have n3_ := Aside0.mk ((Zd : w.heap.size ≤ gb117)); clear HB; have HB := n0_; have BK117 := n1_; have GW117 := n2_; have GE117 := n3_; clear n0_ n1_ n2_ n3_; clear hb hbox hg; have hcz36_0 : w35.cell? ⟨gb117, 0, none⟩ = some (.string a0_0) := (blk_cell BK117.out 0).trans rfl; have hcz36_1 : w35.cell? ⟨gb117, 1, none⟩ = some (.int .i64 a0_1) := (blk_cell BK117.out 1).trans rfl; have hcz36_2 : w35.cell? ⟨gb117, 2, none⟩ = some (.int .i64 a0_2) := (blk_cell BK117.out 2).trans rfl; have hcz36_3 : w35.cell? ⟨gb117, 3, none⟩ = some (.int .i64 a0_3) := (blk_cell BK117.out 3).trans rfl; have hcz36_4 : w35.cell? ⟨gb117, 4, none⟩ = some (.int .i64 a0_4) := (blk_cell BK117.out 4).trans rfl; have hcz36_5 : w35.cell? ⟨gb117, 5, none⟩ = some (.int .i64 a0_5) := (blk_cell BK117.out 5).trans rfl; have hcz36_6 : w35.cell? ⟨gb117, 6, none⟩ = some (.int .i64 a0_6) := (blk_cell BK117.out 6).trans rfl; have hcz36_7 : w35.cell? ⟨gb117, 7, none⟩ = some (.int .i64 a0_7) := (blk_cell BK117.out 7).trans rfl; have hcz36_8 : w35.cell? ⟨gb117, 8, none⟩ = some (.int .i64 a0_8) := (blk_cell BK117.out 8).trans rfl; have hfz36_0 := blk_frozen BK117.out 0; have hfz36_1 := blk_frozen BK117.out 1; have hfz36_2 := blk_frozen BK117.out 2; have hfz36_3 := blk_frozen BK117.out 3; have hfz36_4 := blk_frozen BK117.out 4; have hfz36_5 := blk_frozen BK117.out 5; have hfz36_6 := blk_frozen BK117.out 6; have hfz36_7 := blk_frozen BK117.out 7; have hfz36_8 := blk_frozen BK117.out 8) | ((with_reducible refine gate_callee (f := 134) rfl ?_); refine goesL_ (some 5) rfl rfl Try.func134 Zj rfl #[.string a0_0] rfl Zo ?_; (with_reducible refine (spec_IsWord.calls k a0_0 false _ A2.out).mono ?_); rintro e w' ⟨rfl, ⟨nd, rfl⟩⟩; refine ⟨_, rfl, ?_⟩))
  go_ret
  exact ⟨Zk, (have z0_ := GE117; Zf)⟩
end Go.Proofs.Ytnlbaflbhicooaa.F
namespace Go.Proofs.Ytnlbaflbhicooaa.F
open Go.RowKit Go.Proofs.YtnlbaflbhicooaaW.PrintWords Go.Proofs.YtnlbaflbhicooaaW.PrintLast Go.Proofs.YtnlbaflbhicooaaW.PrintMore
attribute [local go_sem] max2_int min2_int max_two min_two max_three min_three max_four min_four   -- for this text's walks alone
set_option linter.unusedVariables false
set_option linter.unusedSimpArgs false
def spec_AreArticles.l0 : Nat → List (S92) → Int → Option (Bool)
 | 0, _, _ => none
 | k + 1, x0, x3 => if x3 < (x0.length : Int) then (if 0 ≤ x3 then ((spec_IsArticle.f k ((rd_T92 x0 x3).f0) ((rd_T92 x0 x3).f1) ((rd_T92 x0 x3).f2) ((rd_T92 x0 x3).f3) ((rd_T92 x0 x3).f4) ((rd_T92 x0 x3).f5) ((rd_T92 x0 x3).f6) ((rd_T92 x0 x3).f7) ((rd_T92 x0 x3).f8)).bind fun t128 => (if t128 = true then (if x3 > 0 then (if 0 ≤ (wrap64 (x3 - 1)) then (if (wrap64 (x3 - 1)) < (x0.length : Int) then (if ((Op.bytesLess (((rd_T92 x0 (wrap64 (x3 - 1))).f0).toList) (((rd_T92 x0 x3).f0).toList)) = true) then (spec_AreArticles.l0 k x0 (wrap64 (x3 + 1))) else (some false)) else (none)) else (none)) else (spec_AreArticles.l0 k x0 (wrap64 (x3 + 1)))) else (some false))) else (none)) else (some (decide ((x0.length : Int) ≤ 12)))
def spec_AreArticles.f (k : Nat) (l0 : List (S92)) : Option (Bool) := spec_AreArticles.l0 k l0 0
def spec_AreArticles.T4 : Bool × List (List Nat × List Nat) := (true, [([], []), ([], []), ([0, 1], [0, 1]), ([2], [2]), ([3], [3]), ([4], [4]), ([5, 4], [5]), ([6], [6]), ([7, 6], [6, 7]), ([8, 6, 6], [6, 8]), ([9], [9]), ([9], [9]), ([11, 9], [9, 11]), ([10, 12, 9], [9, 10, 12]), ([13, 9], [9, 13]), ([14, 9], [9, 14]), ([9], [9]), ([9], [9]), ([16, 17, 9], [9, 16, 17]), ([18, 9], [9, 18]), ([19, 9], [9, 19]), ([15, 20, 9], [9, 15, 20]), ([9, 21, 6], [6, 9, 21]), ([6, 22], [6, 22])])
def spec_AreArticles.B4 : List Nat := [0, 0, 3, 7, 15, 31, 63, 127, 255, 511, 1023, 1023, 3071, 8191, 16383, 32767, 1023, 1023, 197631, 459775, 984063, 2097151, 4194303, 8388607]
theorem spec_AreArticles.tab4 : rtab .any (opsOf Try.f92 4) = spec_AreArticles.T4 := by kernel_rfl
theorem spec_AreArticles.bits4 : waitsOk spec_AreArticles.T4.2 spec_AreArticles.B4 = true := by kernel_rfl
set_option maxHeartbeats 8000000 in
set_option maxRecDepth 100000 in
theorem spec_AreArticles.calls (k : Nat) (A0 : Option Addr) (c0 : Nat) (l0 : List (S92)) (r : Bool) (w : World) (hr0 : Kd.C k92 w A0 l0.length l0) (hc0 : l0.length ≤ c0) (h : spec_AreArticles.f k l0 = some r) :
  Calls Try.prog 92 #[.slice A0 l0.length c0] w fun e w' => e = .returned (.bool r) ∧ Below w.heap.size w w' := by
 have hu92 := Try.underlying92
 have HR0 := Aside0.mk hr0
 have HC0 := Aside0.mk hc0
 clear hr0 hc0
 have HB := Aside0.mk (Below.refl w.heap.size w)
 have H : (spec_AreArticles.l0 k l0 0) = some r := h
 clear h
 have H' := Aside0.mk H
 clear H
 go_enter Try.func92, Try.ntmps92
 go_wp2
 go_loopg [3] k (fun kq v3 w' => ∃ (x3_1 : Int), v3 = .int .i64 x3_1 ∧ Aside0 (spec_AreArticles.l0 kq l0 x3_1 = some r) ∧ Aside0 (kq ≤ k) ∧ Aside0 (Below w.heap.size w w'))
 case atStart => exact ⟨(0), Za, H', ⟨Nat.le_refl _⟩, ⟨Zc⟩⟩
 case round =>
  clear H'
  obtain ⟨x3_1, rfl, HA, HK1, HB⟩ := hrel
  cases gk with
  | zero => exact absurd HA.out (by simp [spec_AreArticles.l0])
  | succ k1 =>
   have H := HA.out
   clear HA
   simp only [spec_AreArticles.l0] at H
   by_cases c2 : x3_1 < (l0.length : Int)
   ·rw [if_pos c2] at H
    have c2b0 : decide (x3_1 < (l0.length : Int)) = true := decide_eq_true c2
    clear c2
    by_cases c3 : 0 ≤ x3_1
    ·rw [if_pos c3] at H
     have c3b0 : decide (0 ≤ x3_1) = true := decide_eq_true c3
     clear c3
     replace H := Option.bind_eq_some_iff.mp H
     obtain ⟨t128, A40, H⟩ := H
     replace H : (if t128 = true then (if x3_1 > 0 then (if 0 ≤ (wrap64 (x3_1 - 1)) then (if (wrap64 (x3_1 - 1)) < (l0.length : Int) then (if ((Op.bytesLess (((rd_T92 l0 (wrap64 (x3_1 - 1))).f0).toList) (((rd_T92 l0 x3_1).f0).toList)) = true) then (spec_AreArticles.l0 k1 l0 (wrap64 (x3_1 + 1))) else (some false)) else (none)) else (none)) else (spec_AreArticles.l0 k1 l0 (wrap64 (x3_1 + 1)))) else (some false)) = some r := H
     have A4 := Aside0.mk A40
     clear A40
     by_cases c5 : t128 = true
     ·subst c5
      have H1 : (if x3_1 > 0 then (if 0 ≤ (wrap64 (x3_1 - 1)) then (if (wrap64 (x3_1 - 1)) < (l0.length : Int) then (if ((Op.bytesLess (((rd_T92 l0 (wrap64 (x3_1 - 1))).f0).toList) (((rd_T92 l0 x3_1).f0).toList)) = true) then (spec_AreArticles.l0 k1 l0 (wrap64 (x3_1 + 1))) else (some false)) else (none)) else (none)) else (spec_AreArticles.l0 k1 l0 (wrap64 (x3_1 + 1)))) = some r := by rw [if_pos rfl] at H; exact H
      clear H
      have H := H1
      clear H1
      by_cases c6 : x3_1 > 0
      ·rw [if_pos c6] at H
       have c6b0 : decide (0 < x3_1) = true := decide_eq_true c6
       clear c6
       obtain ⟨ji7, hji7⟩ : ∃ j_ : Int, (wrap64 (x3_1 - 1)) = j_ := ⟨_, rfl⟩
       replace H : (if 0 ≤ (ji7) then (if (ji7) < (l0.length : Int) then (if ((Op.bytesLess (((rd_T92 l0 (ji7)).f0).toList) (((rd_T92 l0 x3_1).f0).toList)) = true) then (spec_AreArticles.l0 k1 l0 (wrap64 (x3_1 + 1))) else (some false)) else (none)) else (none)) = some r := by first | (rw [hji7] at H; exact H) | (simp only [hji7] at H ⊢; exact H)
       (try rw [hji7] at A4)
       have hji7w : (IntKind.i64.wrap (x3_1 - 1)) = ji7 := (i64_w _).trans hji7
       by_cases c8 : 0 ≤ (ji7)
       ·rw [if_pos c8] at H
        have c8b0 : decide (0 ≤ (ji7)) = true := decide_eq_true c8
        clear c8
        by_cases c9 : (ji7) < (l0.length : Int)
        ·rw [if_pos c9] at H
         have c9b0 : decide ((ji7) < (l0.length : Int)) = true := decide_eq_true c9
         clear c9
         by_cases c10 : ((Op.bytesLess (((rd_T92 l0 (ji7)).f0).toList) (((rd_T92 l0 x3_1).f0).toList)) = true)
         ·rw [if_pos c10] at H
          have c10b0 : (Op.bytesLess (((rd_T92 l0 (ji7)).f0).toList) (((rd_T92 l0 x3_1).f0).toList)) = true := c10
          clear c10
          have H' := Aside0.mk H
          clear H
          try go_wp2
          have n0_ := Aside0.mk (below_drew1 HB.out)
          clear HB
          have HB := n0_
          clear n0_
          have p127 : 0 ≤ (x3_1 : Int) := of_decide_eq_true Zp
          have q127 : x3_1 < (l0.length : Int) := of_decide_eq_true Zp
          obtain ⟨ad127, e127, hx127_0, hx127_1, hx127_2, hx127_3, hx127_4, hx127_5, hx127_6, hx127_7, hx127_8⟩ := at_T92 HR0.out x3_1 p127 q127
          have hw127_8 := hx127_8
          have hw127_7 := hx127_7
          have hw127_6 := hx127_6
          have hw127_5 := hx127_5
          have hw127_4 := hx127_4
          have hw127_3 := hx127_3
          have hw127_2 := hx127_2
          have hw127_1 := hx127_1
          have hw127_0 := hx127_0
          cases e127
          replace hx127_0 := cbH HB hx127_0
          replace hx127_1 := cbH HB hx127_1
          replace hx127_2 := cbH HB hx127_2
          replace hx127_3 := cbH HB hx127_3
          replace hx127_4 := cbH HB hx127_4
          replace hx127_5 := cbH HB hx127_5
          replace hx127_6 := cbH HB hx127_6
          replace hx127_7 := cbH HB hx127_7
          replace hx127_8 := cbH HB hx127_8
          replace p127 := eq_true p127
          replace q127 := eq_true q127
          have p129 : 0 ≤ ((ji7) : Int) := of_decide_eq_true Zp
          have q129 : (ji7) < (l0.length : Int) := of_decide_eq_true Zp
          obtain ⟨ad129, e129, hx129_0, hx129_1, hx129_2, hx129_3, hx129_4, hx129_5, hx129_6, hx129_7, hx129_8⟩ := at_T92 HR0.out (ji7) p129 q129
          have hw129_8 := hx129_8
          have hw129_7 := hx129_7
          have hw129_6 := hx129_6
          have hw129_5 := hx129_5
          have hw129_4 := hx129_4
          have hw129_3 := hx129_3
          have hw129_2 := hx129_2
          have hw129_1 := hx129_1
          have hw129_0 := hx129_0
          obtain rfl : ad127 = ad129 := (by injection e129)
          replace hx129_0 := cbH HB hx129_0
          replace hx129_1 := cbH HB hx129_1
          replace hx129_2 := cbH HB hx129_2
          replace hx129_3 := cbH HB hx129_3
          replace hx129_4 := cbH HB hx129_4
          replace hx129_5 := cbH HB hx129_5
          replace hx129_6 := cbH HB hx129_6
          replace hx129_7 := cbH HB hx129_7
          replace hx129_8 := cbH HB hx129_8
          replace p129 := eq_true p129
          replace q129 := eq_true q129
          have p130 : 0 ≤ (x3_1 : Int) := of_decide_eq_true Zp
          have q130 : x3_1 < (l0.length : Int) := of_decide_eq_true Zp
          obtain ⟨ad130, e130, hx130_0, hx130_1, hx130_2, hx130_3, hx130_4, hx130_5, hx130_6, hx130_7, hx130_8⟩ := at_T92 HR0.out x3_1 p130 q130
          have hw130_8 := hx130_8
          have hw130_7 := hx130_7
          have hw130_6 := hx130_6
          have hw130_5 := hx130_5
          have hw130_4 := hx130_4
          have hw130_3 := hx130_3
          have hw130_2 := hx130_2
          have hw130_1 := hx130_1
          have hw130_0 := hx130_0
          obtain rfl : ad127 = ad130 := (by injection e130)
          replace hx130_0 := cbH HB hx130_0
          replace hx130_1 := cbH HB hx130_1
          replace hx130_2 := cbH HB hx130_2
          replace hx130_3 := cbH HB hx130_3
          replace hx130_4 := cbH HB hx130_4
          replace hx130_5 := cbH HB hx130_5
          replace hx130_6 := cbH HB hx130_6
          replace hx130_7 := cbH HB hx130_7
          replace hx130_8 := cbH HB hx130_8
          replace p130 := eq_true p130
          replace q130 := eq_true q130
          refine start_ (n := 24) (S := fun w' => w'.cell? (ad127.add ((x3_1).toNat * 9)) = some (.string ((rd_T92 l0 x3_1).f0)) ∧ w'.cell? ⟨(ad127.add ((x3_1).toNat * 9)).block, (ad127.add ((x3_1).toNat * 9)).off + 1, none⟩ = some (.int .i64 ((rd_T92 l0 x3_1).f1)) ∧ w'.cell? ⟨(ad127.add ((x3_1).toNat * 9)).block, (ad127.add ((x3_1).toNat * 9)).off + 2, none⟩ = some (.int .i64 ((rd_T92 l0 x3_1).f2)) ∧ w'.cell? ⟨(ad127.add ((x3_1).toNat * 9)).block, (ad127.add ((x3_1).toNat * 9)).off + 3, none⟩ = some (.int .i64 ((rd_T92 l0 x3_1).f3)) ∧ w'.cell? ⟨(ad127.add ((x3_1).toNat * 9)).block, (ad127.add ((x3_1).toNat * 9)).off + 4, none⟩ = some (.int .i64 ((rd_T92 l0 x3_1).f4)) ∧ w'.cell? ⟨(ad127.add ((x3_1).toNat * 9)).block, (ad127.add ((x3_1).toNat * 9)).off + 5, none⟩ = some (.int .i64 ((rd_T92 l0 x3_1).f5)) ∧ w'.cell? ⟨(ad127.add ((x3_1).toNat * 9)).block, (ad127.add ((x3_1).toNat * 9)).off + 6, none⟩ = some (.int .i64 ((rd_T92 l0 x3_1).f6)) ∧ w'.cell? ⟨(ad127.add ((x3_1).toNat * 9)).block, (ad127.add ((x3_1).toNat * 9)).off + 7, none⟩ = some (.int .i64 ((rd_T92 l0 x3_1).f7)) ∧ w'.cell? ⟨(ad127.add ((x3_1).toNat * 9)).block, (ad127.add ((x3_1).toNat * 9)).off + 8, none⟩ = some (.int .i64 ((rd_T92 l0 x3_1).f8)) ∧ w'.cell? (ad127.add (((ji7)).toNat * 9)) = some (.string ((rd_T92 l0 (ji7)).f0)) ∧ w'.cell? ⟨(ad127.add (((ji7)).toNat * 9)).block, (ad127.add (((ji7)).toNat * 9)).off + 1, none⟩ = some (.int .i64 ((rd_T92 l0 (ji7)).f1)) ∧ w'.cell? ⟨(ad127.add (((ji7)).toNat * 9)).block, (ad127.add (((ji7)).toNat * 9)).off + 2, none⟩ = some (.int .i64 ((rd_T92 l0 (ji7)).f2)) ∧ w'.cell? ⟨(ad127.add (((ji7)).toNat * 9)).block, (ad127.add (((ji7)).toNat * 9)).off + 3, none⟩ = some (.int .i64 ((rd_T92 l0 (ji7)).f3)) ∧ w'.cell? ⟨(ad127.add (((ji7)).toNat * 9)).block, (ad127.add (((ji7)).toNat * 9)).off + 4, none⟩ = some (.int .i64 ((rd_T92 l0 (ji7)).f4)) ∧ w'.cell? ⟨(ad127.add (((ji7)).toNat * 9)).block, (ad127.add (((ji7)).toNat * 9)).off + 5, none⟩ = some (.int .i64 ((rd_T92 l0 (ji7)).f5)) ∧ w'.cell? ⟨(ad127.add (((ji7)).toNat * 9)).block, (ad127.add (((ji7)).toNat * 9)).off + 6, none⟩ = some (.int .i64 ((rd_T92 l0 (ji7)).f6)) ∧ w'.cell? ⟨(ad127.add (((ji7)).toNat * 9)).block, (ad127.add (((ji7)).toNat * 9)).off + 7, none⟩ = some (.int .i64 ((rd_T92 l0 (ji7)).f7)) ∧ w'.cell? ⟨(ad127.add (((ji7)).toNat * 9)).block, (ad127.add (((ji7)).toNat * 9)).off + 8, none⟩ = some (.int .i64 ((rd_T92 l0 (ji7)).f8)) ∧ w'.cell? (ad127.add ((x3_1).toNat * 9)) = some (.string ((rd_T92 l0 x3_1).f0)) ∧ w'.cell? ⟨(ad127.add ((x3_1).toNat * 9)).block, (ad127.add ((x3_1).toNat * 9)).off + 1, none⟩ = some (.int .i64 ((rd_T92 l0 x3_1).f1)) ∧ w'.cell? ⟨(ad127.add ((x3_1).toNat * 9)).block, (ad127.add ((x3_1).toNat * 9)).off + 2, none⟩ = some (.int .i64 ((rd_T92 l0 x3_1).f2)) ∧ w'.cell? ⟨(ad127.add ((x3_1).toNat * 9)).block, (ad127.add ((x3_1).toNat * 9)).off + 3, none⟩ = some (.int .i64 ((rd_T92 l0 x3_1).f3)) ∧ w'.cell? ⟨(ad127.add ((x3_1).toNat * 9)).block, (ad127.add ((x3_1).toNat * 9)).off + 4, none⟩ = some (.int .i64 ((rd_T92 l0 x3_1).f4)) ∧ w'.cell? ⟨(ad127.add ((x3_1).toNat * 9)).block, (ad127.add ((x3_1).toNat * 9)).off + 5, none⟩ = some (.int .i64 ((rd_T92 l0 x3_1).f5)) ∧ w'.cell? ⟨(ad127.add ((x3_1).toNat * 9)).block, (ad127.add ((x3_1).toNat * 9)).off + 6, none⟩ = some (.int .i64 ((rd_T92 l0 x3_1).f6)) ∧ w'.cell? ⟨(ad127.add ((x3_1).toNat * 9)).block, (ad127.add ((x3_1).toNat * 9)).off + 7, none⟩ = some (.int .i64 ((rd_T92 l0 x3_1).f7)) ∧ w'.cell? ⟨(ad127.add ((x3_1).toNat * 9)).block, (ad127.add ((x3_1).toNat * 9)).off + 8, none⟩ = some (.int .i64 ((rd_T92 l0 x3_1).f8))) (ds := []) (bT 24 0) Zj rfl rfl ⟨(cbH HB hw127_0), (cbH HB hw127_1), (cbH HB hw127_2), (cbH HB hw127_3), (cbH HB hw127_4), (cbH HB hw127_5), (cbH HB hw127_6), (cbH HB hw127_7), (cbH HB hw127_8), (cbH HB hw129_0), (cbH HB hw129_1), (cbH HB hw129_2), (cbH HB hw129_3), (cbH HB hw129_4), (cbH HB hw129_5), (cbH HB hw129_6), (cbH HB hw129_7), (cbH HB hw129_8), (cbH HB hw130_0), (cbH HB hw130_1), (cbH HB hw130_2), (cbH HB hw130_3), (cbH HB hw130_4), (cbH HB hw130_5), (cbH HB hw130_6), (cbH HB hw130_7), (cbH HB hw130_8)⟩ (fun hHeld => ?_); refine with_tabW spec_AreArticles.tab4 spec_AreArticles.bits4 (fun HT_ HW_ => ?_)
          generalize wr.drew = w11 at HB hx127_0 hx127_1 hx127_2 hx127_3 hx127_4 hx127_5 hx127_6 hx127_7 hx127_8 hx129_0 hx129_1 hx129_2 hx129_3 hx129_4 hx129_5 hx129_6 hx129_7 hx129_8 hx130_0 hx130_1 hx130_2 hx130_3 hx130_4 hx130_5 hx130_6 hx130_7 hx130_8 hHeld ⊢
          refine pure_ (i := 0) (N := some 10) (bT 24 1) rfl rfl (any_of HT_.out Zj) (fun _ _ _ h => h) (Or.inl ⟨by rfl, Zrun⟩) Zput ?_
          refine pure_ (i := 1) (N := some 11) (bT 24 2) rfl rfl (any_of HT_.out Zj) (fun _ _ _ h => h) (Or.inl ⟨by rfl, Zrun⟩) Zput ?_
          refine pure_ (i := 2) (N := some 12) (bT 24 3) rfl rfl (any_of HT_.out Zj) (fun _ _ _ h => h) (Or.inl ⟨by rfl, Zrun⟩) Zput ?_
          refine take_ (i := 3) (N := some 13) (v := ?_) (a' := ?_) (bT 24 4) rfl rfl (take_ofW HT_.out HW_.out Zj) (fun _ _ _ h => h) (Or.inl ⟨by rfl, ?_⟩) hHeld ?_ ?_
          rotate_left
          ·rintro w' ⟨s0, s1, s2, s3, s4, s5, s6, s7, s8, s9, s10, s11, s12, s13, s14, s15, s16, s17, s18, s19, s20, s21, s22, s23, s24, s25, s26⟩
           go_simp
           with_reducible rfl
          rotate_left
          ·exact Zput
          refine one_ (i := 4) (N := some 14) (bT 24 5) rfl rfl (one_of HT_.out Zj) (by decide) (fun K hK => ?_)
          refine goes_ Try.func127 Zj rfl #[.agg #[.string ((rd_T92 l0 x3_1).f0), .int .i64 ((rd_T92 l0 x3_1).f1), .int .i64 ((rd_T92 l0 x3_1).f2), .int .i64 ((rd_T92 l0 x3_1).f3), .int .i64 ((rd_T92 l0 x3_1).f4), .int .i64 ((rd_T92 l0 x3_1).f5), .int .i64 ((rd_T92 l0 x3_1).f6), .int .i64 ((rd_T92 l0 x3_1).f7), .int .i64 ((rd_T92 l0 x3_1).f8)]] (by rfl) rfl rfl Zo ?_
          with_reducible refine (spec_IsArticle.calls k1 ((rd_T92 l0 x3_1).f0) ((rd_T92 l0 x3_1).f1) ((rd_T92 l0 x3_1).f2) ((rd_T92 l0 x3_1).f3) ((rd_T92 l0 x3_1).f4) ((rd_T92 l0 x3_1).f5) ((rd_T92 l0 x3_1).f6) ((rd_T92 l0 x3_1).f7) ((rd_T92 l0 x3_1).f8) true _ A4.out).mono ?_
          rintro e w12 ⟨rfl, hb⟩
          refine ⟨_, rfl, ?_⟩
          have n0_ := Aside0.mk (below_step Zc hb)
          clear HB
          have HB := n0_
          clear n0_
          (try clear hb)
          (try clear hb2)
          (try clear hk)
          (try clear hi)
          refine hK.out _ _ ⟨(cbH HB hw127_0), (cbH HB hw127_1), (cbH HB hw127_2), (cbH HB hw127_3), (cbH HB hw127_4), (cbH HB hw127_5), (cbH HB hw127_6), (cbH HB hw127_7), (cbH HB hw127_8), (cbH HB hw129_0), (cbH HB hw129_1), (cbH HB hw129_2), (cbH HB hw129_3), (cbH HB hw129_4), (cbH HB hw129_5), (cbH HB hw129_6), (cbH HB hw129_7), (cbH HB hw129_8), (cbH HB hw130_0), (cbH HB hw130_1), (cbH HB hw130_2), (cbH HB hw130_3), (cbH HB hw130_4), (cbH HB hw130_5), (cbH HB hw130_6), (cbH HB hw130_7), (cbH HB hw130_8)⟩ (fun hHeld => ?_)
          clear hK K
          refine norm_ (a' := ?_) ?_ ?_
          rotate_left
          ·show Act.put _ (some 14) _ = _
           simp only [Act.put, List.setIfInBounds_toArray, List.set_cons_zero, List.set_cons_succ, i64_w, i32_w]
           rfl
          refine pure_ (i := 5) (N := some 15) (bT 24 6) rfl rfl (any_of HT_.out Zj) (fun _ _ _ h => h) (Or.inl ⟨by rfl, Zrun⟩) Zput ?_
          refine pure_ (i := 6) (N := some 16) (bT 24 7) rfl rfl (any_of HT_.out Zj) (fun _ _ _ h => h) (Or.inl ⟨by rfl, Zrun⟩) Zput ?_
          refine pure_ (i := 7) (N := some 17) (bT 24 8) rfl rfl (any_of HT_.out Zj) (fun _ _ _ h => h) (Or.inl ⟨by rfl, Zrun⟩) Zput ?_
          refine pure_ (i := 8) (N := some 18) (bT 24 9) rfl rfl (any_of HT_.out Zj) (fun _ _ _ h => h) (Or.inl ⟨by rfl, Zrun⟩) Zput ?_
          refine pure_ (i := 9) (N := some 19) (bT 24 10) rfl rfl (any_of HT_.out Zj) (fun _ _ _ h => h) (Or.inl ⟨by rfl, Zrun⟩) Zput ?_
          refine pure_ (i := 10) (N := some 20) (bT 24 11) rfl rfl (any_of HT_.out Zj) (fun _ _ _ h => h) (Or.inl ⟨by rfl, Zrun⟩) Zput ?_
          refine pure_ (i := 11) (N := some 21) (bT 24 12) rfl rfl (any_of HT_.out Zj) (fun _ _ _ h => h) (Or.inl ⟨by rfl, Zrun⟩) Zput ?_
          refine pure_ (i := 12) (N := some 22) (bT 24 13) rfl rfl (any_of HT_.out Zj) (fun _ _ _ h => h) (Or.inl ⟨by rfl, Zrun⟩) Zput ?_
          refine pure_ (i := 13) (N := some 23) (bT 24 14) rfl rfl (any_of HT_.out Zj) (fun _ _ _ h => h) (Or.inl ⟨by rfl, Zrun⟩) Zput ?_
          refine pure_ (i := 14) (N := some 24) (bT 24 15) rfl rfl (any_of HT_.out Zj) (fun _ _ _ h => h) (Or.inl ⟨by rfl, Zrun⟩) Zput ?_
          refine pure_ (i := 16) (N := some 26) #[true, true, true, true, true, true, true, true, true, true, true, true, true, true, true, false, true, false, false, false, false, false, false, false] rfl rfl (any_of HT_.out Zj) (fun _ _ _ h => h) (Or.inl ⟨by rfl, Zrun⟩) Zput ?_
          refine pure_ (i := 17) (N := some 27) #[true, true, true, true, true, true, true, true, true, true, true, true, true, true, true, false, true, true, false, false, false, false, false, false] rfl rfl (any_of HT_.out Zj) (fun _ _ _ h => h) (Or.inl ⟨by rfl, Zrun⟩) Zput ?_
          refine pure_ (i := 18) (N := some 28) #[true, true, true, true, true, true, true, true, true, true, true, true, true, true, true, false, true, true, true, false, false, false, false, false] rfl rfl (any_of HT_.out Zj) (fun _ _ _ h => h) (Or.inl ⟨by rfl, Zrun⟩) Zput ?_
          refine pure_ (i := 19) (N := some 29) #[true, true, true, true, true, true, true, true, true, true, true, true, true, true, true, false, true, true, true, true, false, false, false, false] rfl rfl (any_of HT_.out Zj) (fun _ _ _ h => h) (Or.inl ⟨by rfl, Zrun⟩) Zput ?_
          refine take_ (i := 15) (N := some 25) (v := ?_) (a' := ?_) (bT 24 20) rfl rfl (take_ofW HT_.out HW_.out Zj) (fun _ _ _ h => h) (Or.inl ⟨by rfl, ?_⟩) hHeld ?_ ?_
          rotate_left
          ·rintro w' ⟨s0, s1, s2, s3, s4, s5, s6, s7, s8, s9, s10, s11, s12, s13, s14, s15, s16, s17, s18, s19, s20, s21, s22, s23, s24, s25, s26⟩
           go_simp
           with_reducible rfl
          rotate_left
          ·exact Zput
          refine take_ (i := 20) (N := some 30) (v := ?_) (a' := ?_) (bT 24 21) rfl rfl (take_ofW HT_.out HW_.out Zj) (fun _ _ _ h => h) (Or.inl ⟨by rfl, ?_⟩) hHeld ?_ ?_
          rotate_left
          ·rintro w' ⟨s0, s1, s2, s3, s4, s5, s6, s7, s8, s9, s10, s11, s12, s13, s14, s15, s16, s17, s18, s19, s20, s21, s22, s23, s24, s25, s26⟩
           go_simp
           with_reducible rfl
          rotate_left
          ·exact Zput
          refine pure_ (i := 21) (N := some 31) (bT 24 22) rfl rfl (any_of HT_.out Zj) (fun _ _ _ h => h) (Or.inl ⟨by rfl, Zrun⟩) Zput ?_
          refine pure_ (i := 22) (N := some 32) (bT 24 23) rfl rfl (any_of HT_.out Zj) (fun _ _ _ h => h) (Or.inl ⟨by rfl, Zrun⟩) Zput ?_
          refine pure_ (i := 23) (N := some 33) (bT 24 24) rfl rfl (any_of HT_.out Zj) (fun _ _ _ h => h) (Or.inl ⟨by rfl, Zrun⟩) Zput ?_
          refine done_ (done_of HT_.out Zj) ?_
          try go_wp2
          go_roundg k1
          case measure => have := HK1.out; omega
          case rel => exact ⟨(wrap64 (x3_1 + 1)), Za, H', ⟨Zt⟩, ⟨Zc⟩⟩
         ·rw [if_neg c10] at H
          have c10b0 : (Op.bytesLess (((rd_T92 l0 (ji7)).f0).toList) (((rd_T92 l0 x3_1).f0).toList)) = false := by simpa using c10
          clear c10
          obtain rfl := Option.some.inj H
          try go_wp2
          have n0_ := Aside0.mk (below_drew1 HB.out)
          clear HB
          have HB := n0_
          clear n0_
          have p127 : 0 ≤ (x3_1 : Int) := of_decide_eq_true Zp
          have q127 : x3_1 < (l0.length : Int) := of_decide_eq_true Zp
          obtain ⟨ad127, e127, hx127_0, hx127_1, hx127_2, hx127_3, hx127_4, hx127_5, hx127_6, hx127_7, hx127_8⟩ := at_T92 HR0.out x3_1 p127 q127
          have hw127_8 := hx127_8
          have hw127_7 := hx127_7
          have hw127_6 := hx127_6
          have hw127_5 := hx127_5
          have hw127_4 := hx127_4
          have hw127_3 := hx127_3
          have hw127_2 := hx127_2
          have hw127_1 := hx127_1
          have hw127_0 := hx127_0
          cases e127
          replace hx127_0 := cbH HB hx127_0
          replace hx127_1 := cbH HB hx127_1
          replace hx127_2 := cbH HB hx127_2
          replace hx127_3 := cbH HB hx127_3
          replace hx127_4 := cbH HB hx127_4
          replace hx127_5 := cbH HB hx127_5
          replace hx127_6 := cbH HB hx127_6
          replace hx127_7 := cbH HB hx127_7
          replace hx127_8 := cbH HB hx127_8
          replace p127 := eq_true p127
          replace q127 := eq_true q127
          have p129 : 0 ≤ ((ji7) : Int) := of_decide_eq_true Zp
          have q129 : (ji7) < (l0.length : Int) := of_decide_eq_true Zp
          obtain ⟨ad129, e129, hx129_0, hx129_1, hx129_2, hx129_3, hx129_4, hx129_5, hx129_6, hx129_7, hx129_8⟩ := at_T92 HR0.out (ji7) p129 q129
          have hw129_8 := hx129_8
          have hw129_7 := hx129_7
          have hw129_6 := hx129_6
          have hw129_5 := hx129_5
          have hw129_4 := hx129_4
          have hw129_3 := hx129_3
          have hw129_2 := hx129_2
          have hw129_1 := hx129_1
          have hw129_0 := hx129_0
          obtain rfl : ad127 = ad129 := (by injection e129)
          replace hx129_0 := cbH HB hx129_0
          replace hx129_1 := cbH HB hx129_1
          replace hx129_2 := cbH HB hx129_2
          replace hx129_3 := cbH HB hx129_3
          replace hx129_4 := cbH HB hx129_4
          replace hx129_5 := cbH HB hx129_5
          replace hx129_6 := cbH HB hx129_6
          replace hx129_7 := cbH HB hx129_7
          replace hx129_8 := cbH HB hx129_8
          replace p129 := eq_true p129
          replace q129 := eq_true q129
          have p130 : 0 ≤ (x3_1 : Int) := of_decide_eq_true Zp
          have q130 : x3_1 < (l0.length : Int) := of_decide_eq_true Zp
          obtain ⟨ad130, e130, hx130_0, hx130_1, hx130_2, hx130_3, hx130_4, hx130_5, hx130_6, hx130_7, hx130_8⟩ := at_T92 HR0.out x3_1 p130 q130
          have hw130_8 := hx130_8
          have hw130_7 := hx130_7
          have hw130_6 := hx130_6
          have hw130_5 := hx130_5
          have hw130_4 := hx130_4
          have hw130_3 := hx130_3
          have hw130_2 := hx130_2
          have hw130_1 := hx130_1
          have hw130_0 := hx130_0
          obtain rfl : ad127 = ad130 := (by injection e130)
          replace hx130_0 := cbH HB hx130_0
          replace hx130_1 := cbH HB hx130_1
          replace hx130_2 := cbH HB hx130_2
          replace hx130_3 := cbH HB hx130_3
          replace hx130_4 := cbH HB hx130_4
          replace hx130_5 := cbH HB hx130_5
          replace hx130_6 := cbH HB hx130_6
          replace hx130_7 := cbH HB hx130_7
          replace hx130_8 := cbH HB hx130_8
          replace p130 := eq_true p130
          replace q130 := eq_true q130
          refine start_ (n := 24) (S := fun w' => w'.cell? (ad127.add ((x3_1).toNat * 9)) = some (.string ((rd_T92 l0 x3_1).f0)) ∧ w'.cell? ⟨(ad127.add ((x3_1).toNat * 9)).block, (ad127.add ((x3_1).toNat * 9)).off + 1, none⟩ = some (.int .i64 ((rd_T92 l0 x3_1).f1)) ∧ w'.cell? ⟨(ad127.add ((x3_1).toNat * 9)).block, (ad127.add ((x3_1).toNat * 9)).off + 2, none⟩ = some (.int .i64 ((rd_T92 l0 x3_1).f2)) ∧ w'.cell? ⟨(ad127.add ((x3_1).toNat * 9)).block, (ad127.add ((x3_1).toNat * 9)).off + 3, none⟩ = some (.int .i64 ((rd_T92 l0 x3_1).f3)) ∧ w'.cell? ⟨(ad127.add ((x3_1).toNat * 9)).block, (ad127.add ((x3_1).toNat * 9)).off + 4, none⟩ = some (.int .i64 ((rd_T92 l0 x3_1).f4)) ∧ w'.cell? ⟨(ad127.add ((x3_1).toNat * 9)).block, (ad127.add ((x3_1).toNat * 9)).off + 5, none⟩ = some (.int .i64 ((rd_T92 l0 x3_1).f5)) ∧ w'.cell? ⟨(ad127.add ((x3_1).toNat * 9)).block, (ad127.add ((x3_1).toNat * 9)).off + 6, none⟩ = some (.int .i64 ((rd_T92 l0 x3_1).f6)) ∧ w'.cell? ⟨(ad127.add ((x3_1).toNat * 9)).block, (ad127.add ((x3_1).toNat * 9)).off + 7, none⟩ = some (.int .i64 ((rd_T92 l0 x3_1).f7)) ∧ w'.cell? ⟨(ad127.add ((x3_1).toNat * 9)).block, (ad127.add ((x3_1).toNat * 9)).off + 8, none⟩ = some (.int .i64 ((rd_T92 l0 x3_1).f8)) ∧ w'.cell? (ad127.add (((ji7)).toNat * 9)) = some (.string ((rd_T92 l0 (ji7)).f0)) ∧ w'.cell? ⟨(ad127.add (((ji7)).toNat * 9)).block, (ad127.add (((ji7)).toNat * 9)).off + 1, none⟩ = some (.int .i64 ((rd_T92 l0 (ji7)).f1)) ∧ w'.cell? ⟨(ad127.add (((ji7)).toNat * 9)).block, (ad127.add (((ji7)).toNat * 9)).off + 2, none⟩ = some (.int .i64 ((rd_T92 l0 (ji7)).f2)) ∧ w'.cell? ⟨(ad127.add (((ji7)).toNat * 9)).block, (ad127.add (((ji7)).toNat * 9)).off + 3, none⟩ = some (.int .i64 ((rd_T92 l0 (ji7)).f3)) ∧ w'.cell? ⟨(ad127.add (((ji7)).toNat * 9)).block, (ad127.add (((ji7)).toNat * 9)).off + 4, none⟩ = some (.int .i64 ((rd_T92 l0 (ji7)).f4)) ∧ w'.cell? ⟨(ad127.add (((ji7)).toNat * 9)).block, (ad127.add (((ji7)).toNat * 9)).off + 5, none⟩ = some (.int .i64 ((rd_T92 l0 (ji7)).f5)) ∧ w'.cell? ⟨(ad127.add (((ji7)).toNat * 9)).block, (ad127.add (((ji7)).toNat * 9)).off + 6, none⟩ = some (.int .i64 ((rd_T92 l0 (ji7)).f6)) ∧ w'.cell? ⟨(ad127.add (((ji7)).toNat * 9)).block, (ad127.add (((ji7)).toNat * 9)).off + 7, none⟩ = some (.int .i64 ((rd_T92 l0 (ji7)).f7)) ∧ w'.cell? ⟨(ad127.add (((ji7)).toNat * 9)).block, (ad127.add (((ji7)).toNat * 9)).off + 8, none⟩ = some (.int .i64 ((rd_T92 l0 (ji7)).f8)) ∧ w'.cell? (ad127.add ((x3_1).toNat * 9)) = some (.string ((rd_T92 l0 x3_1).f0)) ∧ w'.cell? ⟨(ad127.add ((x3_1).toNat * 9)).block, (ad127.add ((x3_1).toNat * 9)).off + 1, none⟩ = some (.int .i64 ((rd_T92 l0 x3_1).f1)) ∧ w'.cell? ⟨(ad127.add ((x3_1).toNat * 9)).block, (ad127.add ((x3_1).toNat * 9)).off + 2, none⟩ = some (.int .i64 ((rd_T92 l0 x3_1).f2)) ∧ w'.cell? ⟨(ad127.add ((x3_1).toNat * 9)).block, (ad127.add ((x3_1).toNat * 9)).off + 3, none⟩ = some (.int .i64 ((rd_T92 l0 x3_1).f3)) ∧ w'.cell? ⟨(ad127.add ((x3_1).toNat * 9)).block, (ad127.add ((x3_1).toNat * 9)).off + 4, none⟩ = some (.int .i64 ((rd_T92 l0 x3_1).f4)) ∧ w'.cell? ⟨(ad127.add ((x3_1).toNat * 9)).block, (ad127.add ((x3_1).toNat * 9)).off + 5, none⟩ = some (.int .i64 ((rd_T92 l0 x3_1).f5)) ∧ w'.cell? ⟨(ad127.add ((x3_1).toNat * 9)).block, (ad127.add ((x3_1).toNat * 9)).off + 6, none⟩ = some (.int .i64 ((rd_T92 l0 x3_1).f6)) ∧ w'.cell? ⟨(ad127.add ((x3_1).toNat * 9)).block, (ad127.add ((x3_1).toNat * 9)).off + 7, none⟩ = some (.int .i64 ((rd_T92 l0 x3_1).f7)) ∧ w'.cell? ⟨(ad127.add ((x3_1).toNat * 9)).block, (ad127.add ((x3_1).toNat * 9)).off + 8, none⟩ = some (.int .i64 ((rd_T92 l0 x3_1).f8))) (ds := []) (bT 24 0) Zj rfl rfl ⟨(cbH HB hw127_0), (cbH HB hw127_1), (cbH HB hw127_2), (cbH HB hw127_3), (cbH HB hw127_4), (cbH HB hw127_5), (cbH HB hw127_6), (cbH HB hw127_7), (cbH HB hw127_8), (cbH HB hw129_0), (cbH HB hw129_1), (cbH HB hw129_2), (cbH HB hw129_3), (cbH HB hw129_4), (cbH HB hw129_5), (cbH HB hw129_6), (cbH HB hw129_7), (cbH HB hw129_8), (cbH HB hw130_0), (cbH HB hw130_1), (cbH HB hw130_2), (cbH HB hw130_3), (cbH HB hw130_4), (cbH HB hw130_5), (cbH HB hw130_6), (cbH HB hw130_7), (cbH HB hw130_8)⟩ (fun hHeld => ?_); refine with_tabW spec_AreArticles.tab4 spec_AreArticles.bits4 (fun HT_ HW_ => ?_)
          generalize wr.drew = w13 at HB hx127_0 hx127_1 hx127_2 hx127_3 hx127_4 hx127_5 hx127_6 hx127_7 hx127_8 hx129_0 hx129_1 hx129_2 hx129_3 hx129_4 hx129_5 hx129_6 hx129_7 hx129_8 hx130_0 hx130_1 hx130_2 hx130_3 hx130_4 hx130_5 hx130_6 hx130_7 hx130_8 hHeld ⊢
          refine pure_ (i := 0) (N := some 10) (bT 24 1) rfl rfl (any_of HT_.out Zj) (fun _ _ _ h => h) (Or.inl ⟨by rfl, Zrun⟩) Zput ?_
          refine pure_ (i := 1) (N := some 11) (bT 24 2) rfl rfl (any_of HT_.out Zj) (fun _ _ _ h => h) (Or.inl ⟨by rfl, Zrun⟩) Zput ?_
          refine pure_ (i := 2) (N := some 12) (bT 24 3) rfl rfl (any_of HT_.out Zj) (fun _ _ _ h => h) (Or.inl ⟨by rfl, Zrun⟩) Zput ?_
          refine take_ (i := 3) (N := some 13) (v := ?_) (a' := ?_) (bT 24 4) rfl rfl (take_ofW HT_.out HW_.out Zj) (fun _ _ _ h => h) (Or.inl ⟨by rfl, ?_⟩) hHeld ?_ ?_
          rotate_left
          ·rintro w' ⟨s0, s1, s2, s3, s4, s5, s6, s7, s8, s9, s10, s11, s12, s13, s14, s15, s16, s17, s18, s19, s20, s21, s22, s23, s24, s25, s26⟩
           go_simp
           with_reducible rfl
          rotate_left
          ·exact Zput
          refine one_ (i := 4) (N := some 14) (bT 24 5) rfl rfl (one_of HT_.out Zj) (by decide) (fun K hK => ?_)
          refine goes_ Try.func127 Zj rfl #[.agg #[.string ((rd_T92 l0 x3_1).f0), .int .i64 ((rd_T92 l0 x3_1).f1), .int .i64 ((rd_T92 l0 x3_1).f2), .int .i64 ((rd_T92 l0 x3_1).f3), .int .i64 ((rd_T92 l0 x3_1).f4), .int .i64 ((rd_T92 l0 x3_1).f5), .int .i64 ((rd_T92 l0 x3_1).f6), .int .i64 ((rd_T92 l0 x3_1).f7), .int .i64 ((rd_T92 l0 x3_1).f8)]] (by rfl) rfl rfl Zo ?_
          with_reducible refine (spec_IsArticle.calls k1 ((rd_T92 l0 x3_1).f0) ((rd_T92 l0 x3_1).f1) ((rd_T92 l0 x3_1).f2) ((rd_T92 l0 x3_1).f3) ((rd_T92 l0 x3_1).f4) ((rd_T92 l0 x3_1).f5) ((rd_T92 l0 x3_1).f6) ((rd_T92 l0 x3_1).f7) ((rd_T92 l0 x3_1).f8) true _ A4.out).mono ?_
          rintro e w14 ⟨rfl, hb⟩
          refine ⟨_, rfl, ?_⟩
          have n0_ := Aside0.mk (below_step Zc hb)
          clear HB
          have HB := n0_
          clear n0_
          (try clear hb)
          (try clear hb2)
          (try clear hk)
          (try clear hi)
          refine hK.out _ _ ⟨(cbH HB hw127_0), (cbH HB hw127_1), (cbH HB hw127_2), (cbH HB hw127_3), (cbH HB hw127_4), (cbH HB hw127_5), (cbH HB hw127_6), (cbH HB hw127_7), (cbH HB hw127_8), (cbH HB hw129_0), (cbH HB hw129_1), (cbH HB hw129_2), (cbH HB hw129_3), (cbH HB hw129_4), (cbH HB hw129_5), (cbH HB hw129_6), (cbH HB hw129_7), (cbH HB hw129_8), (cbH HB hw130_0), (cbH HB hw130_1), (cbH HB hw130_2), (cbH HB hw130_3), (cbH HB hw130_4), (cbH HB hw130_5), (cbH HB hw130_6), (cbH HB hw130_7), (cbH HB hw130_8)⟩ (fun hHeld => ?_)
          clear hK K
          refine norm_ (a' := ?_) ?_ ?_
          rotate_left
          ·show Act.put _ (some 14) _ = _
           simp only [Act.put, List.setIfInBounds_toArray, List.set_cons_zero, List.set_cons_succ, i64_w, i32_w]
           rfl
          refine pure_ (i := 5) (N := some 15) (bT 24 6) rfl rfl (any_of HT_.out Zj) (fun _ _ _ h => h) (Or.inl ⟨by rfl, Zrun⟩) Zput ?_
          refine pure_ (i := 6) (N := some 16) (bT 24 7) rfl rfl (any_of HT_.out Zj) (fun _ _ _ h => h) (Or.inl ⟨by rfl, Zrun⟩) Zput ?_
          refine pure_ (i := 7) (N := some 17) (bT 24 8) rfl rfl (any_of HT_.out Zj) (fun _ _ _ h => h) (Or.inl ⟨by rfl, Zrun⟩) Zput ?_
          refine pure_ (i := 8) (N := some 18) (bT 24 9) rfl rfl (any_of HT_.out Zj) (fun _ _ _ h => h) (Or.inl ⟨by rfl, Zrun⟩) Zput ?_
          refine pure_ (i := 9) (N := some 19) (bT 24 10) rfl rfl (any_of HT_.out Zj) (fun _ _ _ h => h) (Or.inl ⟨by rfl, Zrun⟩) Zput ?_
          refine pure_ (i := 10) (N := some 20) (bT 24 11) rfl rfl (any_of HT_.out Zj) (fun _ _ _ h => h) (Or.inl ⟨by rfl, Zrun⟩) Zput ?_
          refine pure_ (i := 11) (N := some 21) (bT 24 12) rfl rfl (any_of HT_.out Zj) (fun _ _ _ h => h) (Or.inl ⟨by rfl, Zrun⟩) Zput ?_
          refine pure_ (i := 12) (N := some 22) (bT 24 13) rfl rfl (any_of HT_.out Zj) (fun _ _ _ h => h) (Or.inl ⟨by rfl, Zrun⟩) Zput ?_
          refine pure_ (i := 13) (N := some 23) (bT 24 14) rfl rfl (any_of HT_.out Zj) (fun _ _ _ h => h) (Or.inl ⟨by rfl, Zrun⟩) Zput ?_
          refine pure_ (i := 14) (N := some 24) (bT 24 15) rfl rfl (any_of HT_.out Zj) (fun _ _ _ h => h) (Or.inl ⟨by rfl, Zrun⟩) Zput ?_
          refine pure_ (i := 16) (N := some 26) #[true, true, true, true, true, true, true, true, true, true, true, true, true, true, true, false, true, false, false, false, false, false, false, false] rfl rfl (any_of HT_.out Zj) (fun _ _ _ h => h) (Or.inl ⟨by rfl, Zrun⟩) Zput ?_
          refine pure_ (i := 17) (N := some 27) #[true, true, true, true, true, true, true, true, true, true, true, true, true, true, true, false, true, true, false, false, false, false, false, false] rfl rfl (any_of HT_.out Zj) (fun _ _ _ h => h) (Or.inl ⟨by rfl, Zrun⟩) Zput ?_
          refine pure_ (i := 18) (N := some 28) #[true, true, true, true, true, true, true, true, true, true, true, true, true, true, true, false, true, true, true, false, false, false, false, false] rfl rfl (any_of HT_.out Zj) (fun _ _ _ h => h) (Or.inl ⟨by rfl, Zrun⟩) Zput ?_
          refine pure_ (i := 19) (N := some 29) #[true, true, true, true, true, true, true, true, true, true, true, true, true, true, true, false, true, true, true, true, false, false, false, false] rfl rfl (any_of HT_.out Zj) (fun _ _ _ h => h) (Or.inl ⟨by rfl, Zrun⟩) Zput ?_
          refine take_ (i := 15) (N := some 25) (v := ?_) (a' := ?_) (bT 24 20) rfl rfl (take_ofW HT_.out HW_.out Zj) (fun _ _ _ h => h) (Or.inl ⟨by rfl, ?_⟩) hHeld ?_ ?_
          rotate_left
          ·rintro w' ⟨s0, s1, s2, s3, s4, s5, s6, s7, s8, s9, s10, s11, s12, s13, s14, s15, s16, s17, s18, s19, s20, s21, s22, s23, s24, s25, s26⟩
           go_simp
           with_reducible rfl
          rotate_left
          ·exact Zput
          refine take_ (i := 20) (N := some 30) (v := ?_) (a' := ?_) (bT 24 21) rfl rfl (take_ofW HT_.out HW_.out Zj) (fun _ _ _ h => h) (Or.inl ⟨by rfl, ?_⟩) hHeld ?_ ?_
          rotate_left
          ·rintro w' ⟨s0, s1, s2, s3, s4, s5, s6, s7, s8, s9, s10, s11, s12, s13, s14, s15, s16, s17, s18, s19, s20, s21, s22, s23, s24, s25, s26⟩
           go_simp
           with_reducible rfl
          rotate_left
          ·exact Zput
          refine pure_ (i := 21) (N := some 31) (bT 24 22) rfl rfl (any_of HT_.out Zj) (fun _ _ _ h => h) (Or.inl ⟨by rfl, Zrun⟩) Zput ?_
          refine pure_ (i := 22) (N := some 32) (bT 24 23) rfl rfl (any_of HT_.out Zj) (fun _ _ _ h => h) (Or.inl ⟨by rfl, Zrun⟩) Zput ?_
          refine pure_ (i := 23) (N := some 33) (bT 24 24) rfl rfl (any_of HT_.out Zj) (fun _ _ _ h => h) (Or.inl ⟨by rfl, Zrun⟩) Zput ?_
          refine done_ (done_of HT_.out Zj) ?_
          try go_wp2
          go_ret
          exact ⟨Zs, Zc⟩
        ·rw [if_neg c9] at H
         exact absurd H (by simp)
       ·rw [if_neg c8] at H
        exact absurd H (by simp)
      ·rw [if_neg c6] at H
       have c6b0 : decide (0 < x3_1) = false := decide_eq_false c6
       clear c6
       have H' := Aside0.mk H
       clear H
       try go_wp2
       have n0_ := Aside0.mk (below_drew1 HB.out)
       clear HB
       have HB := n0_
       clear n0_
       have p127 : 0 ≤ (x3_1 : Int) := of_decide_eq_true Zp
       have q127 : x3_1 < (l0.length : Int) := of_decide_eq_true Zp
       obtain ⟨ad127, e127, hx127_0, hx127_1, hx127_2, hx127_3, hx127_4, hx127_5, hx127_6, hx127_7, hx127_8⟩ := at_T92 HR0.out x3_1 p127 q127
       have hw127_8 := hx127_8
       have hw127_7 := hx127_7
       have hw127_6 := hx127_6
       have hw127_5 := hx127_5
       have hw127_4 := hx127_4
       have hw127_3 := hx127_3
       have hw127_2 := hx127_2
       have hw127_1 := hx127_1
       have hw127_0 := hx127_0
       cases e127
       replace hx127_0 := cbH HB hx127_0
       replace hx127_1 := cbH HB hx127_1
       replace hx127_2 := cbH HB hx127_2
       replace hx127_3 := cbH HB hx127_3
       replace hx127_4 := cbH HB hx127_4
       replace hx127_5 := cbH HB hx127_5
       replace hx127_6 := cbH HB hx127_6
       replace hx127_7 := cbH HB hx127_7
       replace hx127_8 := cbH HB hx127_8
       replace p127 := eq_true p127
       replace q127 := eq_true q127
       refine start_ (n := 24) (S := fun w' => w'.cell? (ad127.add ((x3_1).toNat * 9)) = some (.string ((rd_T92 l0 x3_1).f0)) ∧ w'.cell? ⟨(ad127.add ((x3_1).toNat * 9)).block, (ad127.add ((x3_1).toNat * 9)).off + 1, none⟩ = some (.int .i64 ((rd_T92 l0 x3_1).f1)) ∧ w'.cell? ⟨(ad127.add ((x3_1).toNat * 9)).block, (ad127.add ((x3_1).toNat * 9)).off + 2, none⟩ = some (.int .i64 ((rd_T92 l0 x3_1).f2)) ∧ w'.cell? ⟨(ad127.add ((x3_1).toNat * 9)).block, (ad127.add ((x3_1).toNat * 9)).off + 3, none⟩ = some (.int .i64 ((rd_T92 l0 x3_1).f3)) ∧ w'.cell? ⟨(ad127.add ((x3_1).toNat * 9)).block, (ad127.add ((x3_1).toNat * 9)).off + 4, none⟩ = some (.int .i64 ((rd_T92 l0 x3_1).f4)) ∧ w'.cell? ⟨(ad127.add ((x3_1).toNat * 9)).block, (ad127.add ((x3_1).toNat * 9)).off + 5, none⟩ = some (.int .i64 ((rd_T92 l0 x3_1).f5)) ∧ w'.cell? ⟨(ad127.add ((x3_1).toNat * 9)).block, (ad127.add ((x3_1).toNat * 9)).off + 6, none⟩ = some (.int .i64 ((rd_T92 l0 x3_1).f6)) ∧ w'.cell? ⟨(ad127.add ((x3_1).toNat * 9)).block, (ad127.add ((x3_1).toNat * 9)).off + 7, none⟩ = some (.int .i64 ((rd_T92 l0 x3_1).f7)) ∧ w'.cell? ⟨(ad127.add ((x3_1).toNat * 9)).block, (ad127.add ((x3_1).toNat * 9)).off + 8, none⟩ = some (.int .i64 ((rd_T92 l0 x3_1).f8))) (ds := []) (bT 24 0) Zj rfl rfl ⟨(cbH HB hw127_0), (cbH HB hw127_1), (cbH HB hw127_2), (cbH HB hw127_3), (cbH HB hw127_4), (cbH HB hw127_5), (cbH HB hw127_6), (cbH HB hw127_7), (cbH HB hw127_8)⟩ (fun hHeld => ?_); refine with_tabW spec_AreArticles.tab4 spec_AreArticles.bits4 (fun HT_ HW_ => ?_)
       generalize wr.drew = w15 at HB hx127_0 hx127_1 hx127_2 hx127_3 hx127_4 hx127_5 hx127_6 hx127_7 hx127_8 hHeld ⊢
       refine pure_ (i := 0) (N := some 10) (bT 24 1) rfl rfl (any_of HT_.out Zj) (fun _ _ _ h => h) (Or.inl ⟨by rfl, Zrun⟩) Zput ?_
       refine pure_ (i := 1) (N := some 11) (bT 24 2) rfl rfl (any_of HT_.out Zj) (fun _ _ _ h => h) (Or.inl ⟨by rfl, Zrun⟩) Zput ?_
       refine pure_ (i := 2) (N := some 12) (bT 24 3) rfl rfl (any_of HT_.out Zj) (fun _ _ _ h => h) (Or.inl ⟨by rfl, Zrun⟩) Zput ?_
       refine take_ (i := 3) (N := some 13) (v := ?_) (a' := ?_) (bT 24 4) rfl rfl (take_ofW HT_.out HW_.out Zj) (fun _ _ _ h => h) (Or.inl ⟨by rfl, ?_⟩) hHeld ?_ ?_
       rotate_left
       ·rintro w' ⟨s0, s1, s2, s3, s4, s5, s6, s7, s8⟩
        go_simp
        with_reducible rfl
       rotate_left
       ·exact Zput
       refine one_ (i := 4) (N := some 14) (bT 24 5) rfl rfl (one_of HT_.out Zj) (by decide) (fun K hK => ?_)
       refine goes_ Try.func127 Zj rfl #[.agg #[.string ((rd_T92 l0 x3_1).f0), .int .i64 ((rd_T92 l0 x3_1).f1), .int .i64 ((rd_T92 l0 x3_1).f2), .int .i64 ((rd_T92 l0 x3_1).f3), .int .i64 ((rd_T92 l0 x3_1).f4), .int .i64 ((rd_T92 l0 x3_1).f5), .int .i64 ((rd_T92 l0 x3_1).f6), .int .i64 ((rd_T92 l0 x3_1).f7), .int .i64 ((rd_T92 l0 x3_1).f8)]] (by rfl) rfl rfl Zo ?_
       with_reducible refine (spec_IsArticle.calls k1 ((rd_T92 l0 x3_1).f0) ((rd_T92 l0 x3_1).f1) ((rd_T92 l0 x3_1).f2) ((rd_T92 l0 x3_1).f3) ((rd_T92 l0 x3_1).f4) ((rd_T92 l0 x3_1).f5) ((rd_T92 l0 x3_1).f6) ((rd_T92 l0 x3_1).f7) ((rd_T92 l0 x3_1).f8) true _ A4.out).mono ?_
       rintro e w16 ⟨rfl, hb⟩
       refine ⟨_, rfl, ?_⟩
       have n0_ := Aside0.mk (below_step Zc hb)
       clear HB
       have HB := n0_
       clear n0_
       (try clear hb)
       (try clear hb2)
       (try clear hk)
       (try clear hi)
       refine hK.out _ _ ⟨(cbH HB hw127_0), (cbH HB hw127_1), (cbH HB hw127_2), (cbH HB hw127_3), (cbH HB hw127_4), (cbH HB hw127_5), (cbH HB hw127_6), (cbH HB hw127_7), (cbH HB hw127_8)⟩ (fun hHeld => ?_)
       clear hK K
       refine norm_ (a' := ?_) ?_ ?_
       rotate_left
       ·show Act.put _ (some 14) _ = _
        simp only [Act.put, List.setIfInBounds_toArray, List.set_cons_zero, List.set_cons_succ, i64_w, i32_w]
        rfl
       refine pure_ (i := 5) (N := some 15) (bT 24 6) rfl rfl (any_of HT_.out Zj) (fun _ _ _ h => h) (Or.inl ⟨by rfl, Zrun⟩) Zput ?_
       refine pure_ (i := 6) (N := some 16) (bT 24 7) rfl rfl (any_of HT_.out Zj) (fun _ _ _ h => h) (Or.inl ⟨by rfl, Zrun⟩) Zput ?_
       refine pure_ (i := 7) (N := some 17) (bT 24 8) rfl rfl (any_of HT_.out Zj) (fun _ _ _ h => h) (Or.inl ⟨by rfl, Zrun⟩) Zput ?_
       refine pure_ (i := 8) (N := some 18) (bT 24 9) rfl rfl (any_of HT_.out Zj) (fun _ _ _ h => h) (Or.inl ⟨by rfl, Zrun⟩) Zput ?_
       refine pure_ (i := 9) (N := some 19) (bT 24 10) rfl rfl (any_of HT_.out Zj) (fun _ _ _ h => h) (Or.inl ⟨by rfl, Zrun⟩) Zput ?_
       refine pure_ (i := 10) (N := some 20) (v := undef) (a' := ?_) (bT 24 11) rfl rfl (any_of HT_.out Zj) (fun _ _ _ h => h) (Or.inr ⟨by rfl, rfl⟩) ?_ ?_
       rotate_left
       ·exact Zput
       refine pure_ (i := 11) (N := some 21) (v := undef) (a' := ?_) (bT 24 12) rfl rfl (any_of HT_.out Zj) (fun _ _ _ h => h) (Or.inr ⟨by rfl, rfl⟩) ?_ ?_
       rotate_left
       ·exact Zput
       refine pure_ (i := 12) (N := some 22) (v := undef) (a' := ?_) (bT 24 13) rfl rfl (any_of HT_.out Zj) (fun _ _ _ h => h) (Or.inr ⟨by rfl, rfl⟩) ?_ ?_
       rotate_left
       ·exact Zput
       refine pure_ (i := 13) (N := some 23) (v := undef) (a' := ?_) (bT 24 14) rfl rfl (any_of HT_.out Zj) (fun _ _ _ h => h) (Or.inr ⟨by rfl, rfl⟩) ?_ ?_
       rotate_left
       ·exact Zput
       refine pure_ (i := 14) (N := some 24) (v := undef) (a' := ?_) (bT 24 15) rfl rfl (any_of HT_.out Zj) (fun _ _ _ h => h) (Or.inr ⟨by rfl, rfl⟩) ?_ ?_
       rotate_left
       ·exact Zput
       refine pure_ (i := 15) (N := some 25) (v := undef) (a' := ?_) (bT 24 16) rfl rfl (any_of HT_.out Zj) (fun _ _ _ h => h) (Or.inr ⟨by rfl, rfl⟩) ?_ ?_
       rotate_left
       ·exact Zput
       refine pure_ (i := 16) (N := some 26) (v := undef) (a' := ?_) (bT 24 17) rfl rfl (any_of HT_.out Zj) (fun _ _ _ h => h) (Or.inr ⟨by rfl, rfl⟩) ?_ ?_
       rotate_left
       ·exact Zput
       refine pure_ (i := 17) (N := some 27) (v := undef) (a' := ?_) (bT 24 18) rfl rfl (any_of HT_.out Zj) (fun _ _ _ h => h) (Or.inr ⟨by rfl, rfl⟩) ?_ ?_
       rotate_left
       ·exact Zput
       refine pure_ (i := 18) (N := some 28) (v := undef) (a' := ?_) (bT 24 19) rfl rfl (any_of HT_.out Zj) (fun _ _ _ h => h) (Or.inr ⟨by rfl, rfl⟩) ?_ ?_
       rotate_left
       ·exact Zput
       refine pure_ (i := 19) (N := some 29) (v := undef) (a' := ?_) (bT 24 20) rfl rfl (any_of HT_.out Zj) (fun _ _ _ h => h) (Or.inr ⟨by rfl, rfl⟩) ?_ ?_
       rotate_left
       ·exact Zput
       refine pure_ (i := 20) (N := some 30) (v := undef) (a' := ?_) (bT 24 21) rfl rfl (any_of HT_.out Zj) (fun _ _ _ h => h) (Or.inr ⟨by rfl, rfl⟩) ?_ ?_
       rotate_left
       ·exact Zput
       refine pure_ (i := 21) (N := some 31) (v := undef) (a' := ?_) (bT 24 22) rfl rfl (any_of HT_.out Zj) (fun _ _ _ h => h) (Or.inr ⟨by rfl, rfl⟩) ?_ ?_
       rotate_left
       ·exact Zput
       refine pure_ (i := 22) (N := some 32) (bT 24 23) rfl rfl (any_of HT_.out Zj) (fun _ _ _ h => h) (Or.inl ⟨by rfl, Zrun⟩) Zput ?_
       refine pure_ (i := 23) (N := some 33) (bT 24 24) rfl rfl (any_of HT_.out Zj) (fun _ _ _ h => h) (Or.inl ⟨by rfl, Zrun⟩) Zput ?_
       refine done_ (done_of HT_.out Zj) ?_
       try go_wp2
       go_roundg k1
       case measure => have := HK1.out; omega
       case rel => exact ⟨(wrap64 (x3_1 + 1)), Za, H', ⟨Zt⟩, ⟨Zc⟩⟩
     ·replace c5 := Bool.eq_false_iff.mpr c5
      subst c5
      have H1 : (some false) = some r := by rw [if_neg (show ¬ (false = true) by decide)] at H; exact H
      clear H
      have H := H1
      clear H1
      obtain rfl := Option.some.inj H
      try go_wp2
      have n0_ := Aside0.mk (below_drew1 HB.out)
      clear HB
      have HB := n0_
      clear n0_
      have p127 : 0 ≤ (x3_1 : Int) := of_decide_eq_true Zp
      have q127 : x3_1 < (l0.length : Int) := of_decide_eq_true Zp
      obtain ⟨ad127, e127, hx127_0, hx127_1, hx127_2, hx127_3, hx127_4, hx127_5, hx127_6, hx127_7, hx127_8⟩ := at_T92 HR0.out x3_1 p127 q127
      have hw127_8 := hx127_8
      have hw127_7 := hx127_7
      have hw127_6 := hx127_6
      have hw127_5 := hx127_5
      have hw127_4 := hx127_4
      have hw127_3 := hx127_3
      have hw127_2 := hx127_2
      have hw127_1 := hx127_1
      have hw127_0 := hx127_0
      cases e127
      replace hx127_0 := cbH HB hx127_0
      replace hx127_1 := cbH HB hx127_1
      replace hx127_2 := cbH HB hx127_2
      replace hx127_3 := cbH HB hx127_3
      replace hx127_4 := cbH HB hx127_4
      replace hx127_5 := cbH HB hx127_5
      replace hx127_6 := cbH HB hx127_6
      replace hx127_7 := cbH HB hx127_7
      replace hx127_8 := cbH HB hx127_8
      replace p127 := eq_true p127
      replace q127 := eq_true q127
      refine start_ (n := 24) (S := fun w' => w'.cell? (ad127.add ((x3_1).toNat * 9)) = some (.string ((rd_T92 l0 x3_1).f0)) ∧ w'.cell? ⟨(ad127.add ((x3_1).toNat * 9)).block, (ad127.add ((x3_1).toNat * 9)).off + 1, none⟩ = some (.int .i64 ((rd_T92 l0 x3_1).f1)) ∧ w'.cell? ⟨(ad127.add ((x3_1).toNat * 9)).block, (ad127.add ((x3_1).toNat * 9)).off + 2, none⟩ = some (.int .i64 ((rd_T92 l0 x3_1).f2)) ∧ w'.cell? ⟨(ad127.add ((x3_1).toNat * 9)).block, (ad127.add ((x3_1).toNat * 9)).off + 3, none⟩ = some (.int .i64 ((rd_T92 l0 x3_1).f3)) ∧ w'.cell? ⟨(ad127.add ((x3_1).toNat * 9)).block, (ad127.add ((x3_1).toNat * 9)).off + 4, none⟩ = some (.int .i64 ((rd_T92 l0 x3_1).f4)) ∧ w'.cell? ⟨(ad127.add ((x3_1).toNat * 9)).block, (ad127.add ((x3_1).toNat * 9)).off + 5, none⟩ = some (.int .i64 ((rd_T92 l0 x3_1).f5)) ∧ w'.cell? ⟨(ad127.add ((x3_1).toNat * 9)).block, (ad127.add ((x3_1).toNat * 9)).off + 6, none⟩ = some (.int .i64 ((rd_T92 l0 x3_1).f6)) ∧ w'.cell? ⟨(ad127.add ((x3_1).toNat * 9)).block, (ad127.add ((x3_1).toNat * 9)).off + 7, none⟩ = some (.int .i64 ((rd_T92 l0 x3_1).f7)) ∧ w'.cell? ⟨(ad127.add ((x3_1).toNat * 9)).block, (ad127.add ((x3_1).toNat * 9)).off + 8, none⟩ = some (.int .i64 ((rd_T92 l0 x3_1).f8))) (ds := []) (bT 24 0) Zj rfl rfl ⟨(cbH HB hw127_0), (cbH HB hw127_1), (cbH HB hw127_2), (cbH HB hw127_3), (cbH HB hw127_4), (cbH HB hw127_5), (cbH HB hw127_6), (cbH HB hw127_7), (cbH HB hw127_8)⟩ (fun hHeld => ?_); refine with_tabW spec_AreArticles.tab4 spec_AreArticles.bits4 (fun HT_ HW_ => ?_)
      generalize wr.drew = w17 at HB hx127_0 hx127_1 hx127_2 hx127_3 hx127_4 hx127_5 hx127_6 hx127_7 hx127_8 hHeld ⊢
      refine pure_ (i := 0) (N := some 10) (bT 24 1) rfl rfl (any_of HT_.out Zj) (fun _ _ _ h => h) (Or.inl ⟨by rfl, Zrun⟩) Zput ?_
      refine pure_ (i := 1) (N := some 11) (bT 24 2) rfl rfl (any_of HT_.out Zj) (fun _ _ _ h => h) (Or.inl ⟨by rfl, Zrun⟩) Zput ?_
      refine pure_ (i := 2) (N := some 12) (bT 24 3) rfl rfl (any_of HT_.out Zj) (fun _ _ _ h => h) (Or.inl ⟨by rfl, Zrun⟩) Zput ?_
      refine take_ (i := 3) (N := some 13) (v := ?_) (a' := ?_) (bT 24 4) rfl rfl (take_ofW HT_.out HW_.out Zj) (fun _ _ _ h => h) (Or.inl ⟨by rfl, ?_⟩) hHeld ?_ ?_
      rotate_left
      ·rintro w' ⟨s0, s1, s2, s3, s4, s5, s6, s7, s8⟩
       go_simp
       with_reducible rfl
      rotate_left
      ·exact Zput
      refine one_ (i := 4) (N := some 14) (bT 24 5) rfl rfl (one_of HT_.out Zj) (by decide) (fun K hK => ?_)
      refine goes_ Try.func127 Zj rfl #[.agg #[.string ((rd_T92 l0 x3_1).f0), .int .i64 ((rd_T92 l0 x3_1).f1), .int .i64 ((rd_T92 l0 x3_1).f2), .int .i64 ((rd_T92 l0 x3_1).f3), .int .i64 ((rd_T92 l0 x3_1).f4), .int .i64 ((rd_T92 l0 x3_1).f5), .int .i64 ((rd_T92 l0 x3_1).f6), .int .i64 ((rd_T92 l0 x3_1).f7), .int .i64 ((rd_T92 l0 x3_1).f8)]] (by rfl) rfl rfl Zo ?_
      with_reducible refine (spec_IsArticle.calls k1 ((rd_T92 l0 x3_1).f0) ((rd_T92 l0 x3_1).f1) ((rd_T92 l0 x3_1).f2) ((rd_T92 l0 x3_1).f3) ((rd_T92 l0 x3_1).f4) ((rd_T92 l0 x3_1).f5) ((rd_T92 l0 x3_1).f6) ((rd_T92 l0 x3_1).f7) ((rd_T92 l0 x3_1).f8) false _ A4.out).mono ?_
      rintro e w18 ⟨rfl, hb⟩
      refine ⟨_, rfl, ?_⟩
      have n0_ := Aside0.mk (below_step Zc hb)
      clear HB
      have HB := n0_
      clear n0_
      (try clear hb)
      (try clear hb2)
      (try clear hk)
      (try clear hi)
      refine hK.out _ _ ⟨(cbH HB hw127_0), (cbH HB hw127_1), (cbH HB hw127_2), (cbH HB hw127_3), (cbH HB hw127_4), (cbH HB hw127_5), (cbH HB hw127_6), (cbH HB hw127_7), (cbH HB hw127_8)⟩ (fun hHeld => ?_)
      clear hK K
      refine norm_ (a' := ?_) ?_ ?_
      rotate_left
      ·show Act.put _ (some 14) _ = _
       simp only [Act.put, List.setIfInBounds_toArray, List.set_cons_zero, List.set_cons_succ, i64_w, i32_w]
       rfl
      refine pure_ (i := 5) (N := some 15) (bT 24 6) rfl rfl (any_of HT_.out Zj) (fun _ _ _ h => h) (Or.inl ⟨by rfl, Zrun⟩) Zput ?_
      refine pure_ (i := 6) (N := some 16) (bT 24 7) rfl rfl (any_of HT_.out Zj) (fun _ _ _ h => h) (Or.inl ⟨by rfl, Zrun⟩) Zput ?_
      refine pure_ (i := 7) (N := some 17) (v := undef) (a' := ?_) (bT 24 8) rfl rfl (any_of HT_.out Zj) (fun _ _ _ h => h) (Or.inr ⟨by rfl, rfl⟩) ?_ ?_
      rotate_left
      ·exact Zput
      refine pure_ (i := 8) (N := some 18) (v := undef) (a' := ?_) (bT 24 9) rfl rfl (any_of HT_.out Zj) (fun _ _ _ h => h) (Or.inr ⟨by rfl, rfl⟩) ?_ ?_
      rotate_left
      ·exact Zput
      refine pure_ (i := 9) (N := some 19) (v := undef) (a' := ?_) (bT 24 10) rfl rfl (any_of HT_.out Zj) (fun _ _ _ h => h) (Or.inr ⟨by rfl, rfl⟩) ?_ ?_
      rotate_left
      ·exact Zput
      refine pure_ (i := 10) (N := some 20) (v := undef) (a' := ?_) (bT 24 11) rfl rfl (any_of HT_.out Zj) (fun _ _ _ h => h) (Or.inr ⟨by rfl, rfl⟩) ?_ ?_
      rotate_left
      ·exact Zput
      refine pure_ (i := 11) (N := some 21) (v := undef) (a' := ?_) (bT 24 12) rfl rfl (any_of HT_.out Zj) (fun _ _ _ h => h) (Or.inr ⟨by rfl, rfl⟩) ?_ ?_
      rotate_left
      ·exact Zput
      refine pure_ (i := 12) (N := some 22) (v := undef) (a' := ?_) (bT 24 13) rfl rfl (any_of HT_.out Zj) (fun _ _ _ h => h) (Or.inr ⟨by rfl, rfl⟩) ?_ ?_
      rotate_left
      ·exact Zput
      refine pure_ (i := 13) (N := some 23) (v := undef) (a' := ?_) (bT 24 14) rfl rfl (any_of HT_.out Zj) (fun _ _ _ h => h) (Or.inr ⟨by rfl, rfl⟩) ?_ ?_
      rotate_left
      ·exact Zput
      refine pure_ (i := 14) (N := some 24) (v := undef) (a' := ?_) (bT 24 15) rfl rfl (any_of HT_.out Zj) (fun _ _ _ h => h) (Or.inr ⟨by rfl, rfl⟩) ?_ ?_
      rotate_left
      ·exact Zput
      refine pure_ (i := 15) (N := some 25) (v := undef) (a' := ?_) (bT 24 16) rfl rfl (any_of HT_.out Zj) (fun _ _ _ h => h) (Or.inr ⟨by rfl, rfl⟩) ?_ ?_
      rotate_left
      ·exact Zput
      refine pure_ (i := 16) (N := some 26) (v := undef) (a' := ?_) (bT 24 17) rfl rfl (any_of HT_.out Zj) (fun _ _ _ h => h) (Or.inr ⟨by rfl, rfl⟩) ?_ ?_
      rotate_left
      ·exact Zput
      refine pure_ (i := 17) (N := some 27) (v := undef) (a' := ?_) (bT 24 18) rfl rfl (any_of HT_.out Zj) (fun _ _ _ h => h) (Or.inr ⟨by rfl, rfl⟩) ?_ ?_
      rotate_left
      ·exact Zput
      refine pure_ (i := 18) (N := some 28) (v := undef) (a' := ?_) (bT 24 19) rfl rfl (any_of HT_.out Zj) (fun _ _ _ h => h) (Or.inr ⟨by rfl, rfl⟩) ?_ ?_
      rotate_left
      ·exact Zput
      refine pure_ (i := 19) (N := some 29) (v := undef) (a' := ?_) (bT 24 20) rfl rfl (any_of HT_.out Zj) (fun _ _ _ h => h) (Or.inr ⟨by rfl, rfl⟩) ?_ ?_
      rotate_left
      ·exact Zput
      refine pure_ (i := 20) (N := some 30) (v := undef) (a' := ?_) (bT 24 21) rfl rfl (any_of HT_.out Zj) (fun _ _ _ h => h) (Or.inr ⟨by rfl, rfl⟩) ?_ ?_
      rotate_left
      ·exact Zput
      refine pure_ (i := 21) (N := some 31) (v := undef) (a' := ?_) (bT 24 22) rfl rfl (any_of HT_.out Zj) (fun _ _ _ h => h) (Or.inr ⟨by rfl, rfl⟩) ?_ ?_
      rotate_left
      ·exact Zput
      refine pure_ (i := 22) (N := some 32) (v := undef) (a' := ?_) (bT 24 23) rfl rfl (any_of HT_.out Zj) (fun _ _ _ h => h) (Or.inr ⟨by rfl, rfl⟩) ?_ ?_
      rotate_left
      ·exact Zput
      refine pure_ (i := 23) (N := some 33) (bT 24 24) rfl rfl (any_of HT_.out Zj) (fun _ _ _ h => h) (Or.inl ⟨by rfl, Zrun⟩) Zput ?_
      refine done_ (done_of HT_.out Zj) ?_
      try go_wp2
      go_ret
      exact ⟨Zk, Zc⟩
    ·rw [if_neg c3] at H
     exact absurd H (by simp)
   ·rw [if_neg c2] at H
    have c2b0 : decide (x3_1 < (l0.length : Int)) = false := decide_eq_false c2
    clear c2
    obtain rfl := Option.some.inj H
    go_wp2
    go_ret
    exact ⟨Zk, Zc⟩
end Go.Proofs.Ytnlbaflbhicooaa.F
namespace Go.Proofs.Ytnlbaflbhicooaa.F
open Go.RowKit Go.Proofs.YtnlbaflbhicooaaW.PrintWords Go.Proofs.YtnlbaflbhicooaaW.PrintLast Go.Proofs.YtnlbaflbhicooaaW.PrintMore
attribute [local go_sem] max2_int min2_int max_two min_two max_three min_three max_four min_four   -- for this text's walks alone
set_option linter.unusedVariables false
set_option linter.unusedSimpArgs false
def spec_l07Has.f (l0 : List (S108)) (a1 : Int) (a2 : Int) : Option (Bool) := (spec_l01In.f a1 0 (wrap64 ((l0.length : Int) - 1))).bind fun t131 => (if t131 = true then (if 0 ≤ a1 then (if a1 < (l0.length : Int) then ((spec_l01In.f a2 0 (wrap64 (((rd_T108 l0 a1).f0) - 1))).bind fun t133 => (some t133)) else (none)) else (none)) else (some false))
set_option maxHeartbeats 8000000 in
set_option maxRecDepth 100000 in
theorem spec_l07Has.calls (A0 : Option Addr) (c0 : Nat) (l0 : List (S108)) (a1 : Int) (a2 : Int) (r : Bool) (w : World) (hr0 : Kd.C k108 w A0 l0.length l0) (hc0 : l0.length ≤ c0) (h : spec_l07Has.f l0 a1 a2 = some r) :
  Calls Try.prog 93 #[.slice A0 l0.length c0, .int .i64 a1, .int .i64 a2] w fun e w' => e = .returned (.bool r) ∧ Drawn0 w w' := by
 have HR0 := Aside0.mk hr0
 have HC0 := Aside0.mk hc0
 clear hr0 hc0
 have H : ((spec_l01In.f a1 0 (wrap64 ((l0.length : Int) - 1))).bind fun t131 => (if t131 = true then (if 0 ≤ a1 then (if a1 < (l0.length : Int) then ((spec_l01In.f a2 0 (wrap64 (((rd_T108 l0 a1).f0) - 1))).bind fun t133 => (some t133)) else (none)) else (none)) else (some false))) = some r := h
 clear h
 replace H := Option.bind_eq_some_iff.mp H
 obtain ⟨t131, A40, H⟩ := H
 replace H : (if t131 = true then (if 0 ≤ a1 then (if a1 < (l0.length : Int) then ((spec_l01In.f a2 0 (wrap64 (((rd_T108 l0 a1).f0) - 1))).bind fun t133 => (some t133)) else (none)) else (none)) else (some false)) = some r := H
 have A4 := Aside0.mk A40
 clear A40
 by_cases c5 : t131 = true
 ·subst c5
  have H1 : (if 0 ≤ a1 then (if a1 < (l0.length : Int) then ((spec_l01In.f a2 0 (wrap64 (((rd_T108 l0 a1).f0) - 1))).bind fun t133 => (some t133)) else (none)) else (none)) = some r := by rw [if_pos rfl] at H; exact H
  clear H
  have H := H1
  clear H1
  by_cases c6 : 0 ≤ a1
  ·rw [if_pos c6] at H
   have c6b0 : decide (0 ≤ a1) = true := decide_eq_true c6
   clear c6
   by_cases c7 : a1 < (l0.length : Int)
   ·rw [if_pos c7] at H
    have c7b0 : decide (a1 < (l0.length : Int)) = true := decide_eq_true c7
    clear c7
    replace H := Option.bind_eq_some_iff.mp H
    obtain ⟨t133, A80, H⟩ := H
    replace H : (some t133) = some r := H
    have A8 := Aside0.mk A80
    clear A80
    obtain rfl := Option.some.inj H
    go_enter Try.func93, Try.ntmps93
    go_wp2_with (first | ((with_reducible refine gate_callee (f := 68) rfl ?_); refine goesL_ (some 11) rfl rfl Try.func68 Zj rfl #[.int .i64 a1, .int .i64 0, .int .i64 (wrap64 ((l0.length : Int) - 1))] rfl Zo ?_; (with_reducible refine (spec_l01In.calls a1 0 (wrap64 ((l0.length : Int) - 1)) true _ A4.out).mono ?_); rintro e w' ⟨rfl, ⟨nd, rfl⟩⟩; refine ⟨_, rfl, ?_⟩; have p132 : 0 ≤ (a1 : Int) := of_decide_eq_true Zp; have q132 : a1 < (l0.length : Int) := of_decide_eq_true Zp; obtain ⟨ad132, e132, hx132_0, hx132_1⟩ := at_T108 HR0.out a1 p132 q132; cases e132; replace p132 := eq_true p132; replace q132 := eq_true q132) | (go_at_call 68; (with_reducible refine (spec_l01In.calls a2 0 (wrap64 (((rd_T108 l0 a1).f0) - 1)) t133 _ A8.out).mono ?_); rintro e w' ⟨rfl, ⟨nd, rfl⟩⟩))
    go_ret
    exact ⟨Za, Zb⟩
   ·rw [if_neg c7] at H
    exact absurd H (by simp)
  ·rw [if_neg c6] at H
   exact absurd H (by simp)
 ·replace c5 := Bool.eq_false_iff.mpr c5
  subst c5
  have H1 : (some false) = some r := by rw [if_neg (show ¬ (false = true) by decide)] at H; exact H
  clear H
  have H := H1
  clear H1
  obtain rfl := Option.some.inj H
  go_enter Try.func93, Try.ntmps93
  go_wp2_with (first | ((with_reducible refine gate_callee (f := 68) rfl ?_); refine goesL_ (some 11) rfl rfl Try.func68 Zj rfl #[.int .i64 a1, .int .i64 0, .int .i64 (wrap64 ((l0.length : Int) - 1))] rfl Zo ?_; (with_reducible refine (spec_l01In.calls a1 0 (wrap64 ((l0.length : Int) - 1)) false _ A4.out).mono ?_); rintro e w' ⟨rfl, ⟨nd, rfl⟩⟩; refine ⟨_, rfl, ?_⟩))
  go_ret
  exact ⟨Za, Zb⟩
end Go.Proofs.Ytnlbaflbhicooaa.F
namespace Go.Proofs.Ytnlbaflbhicooaa.F
open Go.RowKit Go.Proofs.YtnlbaflbhicooaaW.PrintWords Go.Proofs.YtnlbaflbhicooaaW.PrintLast Go.Proofs.YtnlbaflbhicooaaW.PrintMore
attribute [local go_sem] max2_int min2_int max_two min_two max_three min_three max_four min_four   -- for this text's walks alone
set_option linter.unusedVariables false
set_option linter.unusedSimpArgs false
def spec_l03Find.l0 : Nat → List (S92) → ByteArray → Int → Option (Int)
 | 0, _, _, _ => none
 | k + 1, x0, x1, x5 => if x5 < (x0.length : Int) then (if 0 ≤ x5 then (if ((rd_T92 x0 x5).f0).toList = x1.toList then (some x5) else (spec_l03Find.l0 k x0 x1 (wrap64 (x5 + 1)))) else (none)) else (some (-1))
def spec_l03Find.f (k : Nat) (l0 : List (S92)) (a1 : ByteArray) : Option (Int) := spec_l03Find.l0 k l0 a1 0
set_option maxHeartbeats 8000000 in
set_option maxRecDepth 100000 in
theorem spec_l03Find.calls (k : Nat) (A0 : Option Addr) (c0 : Nat) (l0 : List (S92)) (a1 : ByteArray) (r : Int) (w : World) (hr0 : Kd.C k92 w A0 l0.length l0) (hc0 : l0.length ≤ c0) (h : spec_l03Find.f k l0 a1 = some r) :
  Calls Try.prog 94 #[.slice A0 l0.length c0, .string a1] w fun e w' => e = .returned (.int .i64 r) ∧ Drawn0 w w' := by
 have HR0 := Aside0.mk hr0
 have HC0 := Aside0.mk hc0
 clear hr0 hc0
 have H : (spec_l03Find.l0 k l0 a1 0) = some r := h
 clear h
 have H' := Aside0.mk H
 clear H
 go_enter Try.func94, Try.ntmps94
 go_wp2
 go_loopg [5] k (fun kq v5 w' => ∃ (x5_1 : Int), v5 = .int .i64 x5_1 ∧ Aside0 (spec_l03Find.l0 kq l0 a1 x5_1 = some r) ∧ Aside0 (kq ≤ k) ∧ Drawn0 w w')
 case atStart => exact ⟨(0), Za, H', ⟨Nat.le_refl _⟩, Zb⟩
 case round =>
  clear H'
  try clear p2
  obtain ⟨x5_1, rfl, HA, HK1, ⟨m1, rfl⟩⟩ := hrel
  cases gk with
  | zero => exact absurd HA.out (by simp [spec_l03Find.l0])
  | succ k1 =>
   have H := HA.out
   clear HA
   simp only [spec_l03Find.l0] at H
   by_cases c3 : x5_1 < (l0.length : Int)
   ·rw [if_pos c3] at H
    have c3b0 : decide (x5_1 < (l0.length : Int)) = true := decide_eq_true c3
    clear c3
    by_cases c4 : 0 ≤ x5_1
    ·rw [if_pos c4] at H
     have c4b0 : decide (0 ≤ x5_1) = true := decide_eq_true c4
     clear c4
     by_cases c5 : ((rd_T92 l0 x5_1).f0).toList = a1.toList
     ·rw [if_pos c5] at H
      have c5b0 : (((rd_T92 l0 x5_1).f0).toList == a1.toList) = true := beq_iff_eq.mpr c5
      have c5b1 : (((rd_T92 l0 x5_1).f0).toList != a1.toList) = false := bne_eq_false_iff_eq.mpr c5
      clear c5
      obtain rfl := Option.some.inj H
      have p134 : 0 ≤ (x5_1 : Int) := of_decide_eq_true Zp
      have q134 : x5_1 < (l0.length : Int) := of_decide_eq_true Zp
      obtain ⟨ad134, e134, hx134_0, hx134_1, hx134_2, hx134_3, hx134_4, hx134_5, hx134_6, hx134_7, hx134_8⟩ := at_T92 HR0.out x5_1 p134 q134
      cases e134
      replace p134 := eq_true p134
      replace q134 := eq_true q134
      go_wp2
      go_ret
      exact ⟨Za, Zb⟩
     ·rw [if_neg c5] at H
      have c5b0 : (((rd_T92 l0 x5_1).f0).toList == a1.toList) = false := beq_eq_false_iff_ne.mpr c5
      have c5b1 : (((rd_T92 l0 x5_1).f0).toList != a1.toList) = true := bne_iff_ne.mpr c5
      have H' := Aside0.mk H
      clear H
      have p134 : 0 ≤ (x5_1 : Int) := of_decide_eq_true Zp
      have q134 : x5_1 < (l0.length : Int) := of_decide_eq_true Zp
      obtain ⟨ad134, e134, hx134_0, hx134_1, hx134_2, hx134_3, hx134_4, hx134_5, hx134_6, hx134_7, hx134_8⟩ := at_T92 HR0.out x5_1 p134 q134
      cases e134
      replace p134 := eq_true p134
      replace q134 := eq_true q134
      go_wp2
      go_roundg k1
      case measure => have := HK1.out; omega
      case rel => exact ⟨(wrap64 (x5_1 + 1)), Za, H', ⟨Zt⟩, Zb⟩
    ·rw [if_neg c4] at H
     exact absurd H (by simp)
   ·rw [if_neg c3] at H
    have c3b0 : decide (x5_1 < (l0.length : Int)) = false := decide_eq_false c3
    clear c3
    obtain rfl := Option.some.inj H
    go_wp2
    go_ret
    exact ⟨Za, Zb⟩
end Go.Proofs.Ytnlbaflbhicooaa.F
namespace Go.Proofs.Ytnlbaflbhicooaa.F
open Go.RowKit Go.Proofs.YtnlbaflbhicooaaW.PrintWords Go.Proofs.YtnlbaflbhicooaaW.PrintLast Go.Proofs.YtnlbaflbhicooaaW.PrintMore
attribute [local go_sem] max2_int min2_int max_two min_two max_three min_three max_four min_four   -- for this text's walks alone
set_option linter.unusedVariables false
set_option linter.unusedSimpArgs false
def spec_l07Time.l0 : Nat → List (S108) → Int → Int → Int → Int → Option (Int)
 | 0, _, _, _, _, _ => none
 | k + 1, x0, x1, x2, x7, x8 => if x8 < x1 then (if 0 ≤ x8 then (if x8 < (x0.length : Int) then (spec_l07Time.l0 k x0 x1 x2 (wrap64 (x7 + (wrap64 (((rd_T108 x0 x8).f0) * ((rd_T108 x0 x8).f1))))) (wrap64 (x8 + 1))) else (none)) else (none)) else (if 0 ≤ x1 then (if x1 < (x0.length : Int) then (some (wrap64 (x7 + (wrap64 (x2 * ((rd_T108 x0 x1).f1)))))) else (none)) else (none))
def spec_l07Time.f (k : Nat) (l0 : List (S108)) (a1 : Int) (a2 : Int) : Option (Int) := spec_l07Time.l0 k l0 a1 a2 0 0
set_option maxHeartbeats 8000000 in
set_option maxRecDepth 100000 in
theorem spec_l07Time.calls (k : Nat) (A0 : Option Addr) (c0 : Nat) (l0 : List (S108)) (a1 : Int) (a2 : Int) (r : Int) (w : World) (hr0 : Kd.C k108 w A0 l0.length l0) (hc0 : l0.length ≤ c0) (h : spec_l07Time.f k l0 a1 a2 = some r) :
  Calls Try.prog 128 #[.slice A0 l0.length c0, .int .i64 a1, .int .i64 a2] w fun e w' => e = .returned (.int .i64 r) ∧ Drawn0 w w' := by
 have HR0 := Aside0.mk hr0
 have HC0 := Aside0.mk hc0
 clear hr0 hc0
 have H : (spec_l07Time.l0 k l0 a1 a2 0 0) = some r := h
 clear h
 have H' := Aside0.mk H
 clear H
 go_enter Try.func128, Try.ntmps128
 go_wp2
 repeat (go_quiet (fail); try go_wp2)
 go_loopg [7, 8] k (fun kq v7 v8 w' => ∃ (x7_1 : Int) (x8_1 : Int), v7 = .int .i64 x7_1 ∧ v8 = .int .i64 x8_1 ∧ Aside0 (spec_l07Time.l0 kq l0 a1 a2 x7_1 x8_1 = some r) ∧ Aside0 (kq ≤ k) ∧ Drawn0 w w')
 case atStart => exact ⟨(0), (0), Za, Za, H', ⟨Nat.le_refl _⟩, Zb⟩
 case round =>
  clear H'
  try clear c1
  try clear p2
  obtain ⟨x7_1, x8_1, rfl, rfl, HA, HK1, ⟨m1, rfl⟩⟩ := hrel
  cases gk with
  | zero => exact absurd HA.out (by simp [spec_l07Time.l0])
  | succ k1 =>
   have H := HA.out
   clear HA
   simp only [spec_l07Time.l0] at H
   by_cases c4 : x8_1 < a1
   ·rw [if_pos c4] at H
    have c4b0 : decide (x8_1 < a1) = true := decide_eq_true c4
    clear c4
    by_cases c5 : 0 ≤ x8_1
    ·rw [if_pos c5] at H
     have c5b0 : decide (0 ≤ x8_1) = true := decide_eq_true c5
     clear c5
     by_cases c6 : x8_1 < (l0.length : Int)
     ·rw [if_pos c6] at H
      have c6b0 : decide (x8_1 < (l0.length : Int)) = true := decide_eq_true c6
      clear c6
      have H' := Aside0.mk H
      clear H
      have p135 : 0 ≤ (x8_1 : Int) := of_decide_eq_true Zp
      have q135 : x8_1 < (l0.length : Int) := of_decide_eq_true Zp
      obtain ⟨ad135, e135, hx135_0, hx135_1⟩ := at_T108 HR0.out x8_1 p135 q135
      cases e135
      replace p135 := eq_true p135
      replace q135 := eq_true q135
      have p136 : 0 ≤ (x8_1 : Int) := of_decide_eq_true Zp
      have q136 : x8_1 < (l0.length : Int) := of_decide_eq_true Zp
      obtain ⟨ad136, e136, hx136_0, hx136_1⟩ := at_T108 HR0.out x8_1 p136 q136
      obtain rfl : ad135 = ad136 := (by injection e136)
      replace p136 := eq_true p136
      replace q136 := eq_true q136
      go_wp2
      repeat (go_quiet (fail); try go_wp2)
      go_roundg k1
      case measure => have := HK1.out; omega
      case rel => exact ⟨(wrap64 (x7_1 + (wrap64 (((rd_T108 l0 x8_1).f0) * ((rd_T108 l0 x8_1).f1))))), (wrap64 (x8_1 + 1)), Za, Za, H', ⟨Zt⟩, Zb⟩
     ·rw [if_neg c6] at H
      exact absurd H (by simp)
    ·rw [if_neg c5] at H
     exact absurd H (by simp)
   ·rw [if_neg c4] at H
    have c4b0 : decide (x8_1 < a1) = false := decide_eq_false c4
    clear c4
    by_cases c7 : 0 ≤ a1
    ·rw [if_pos c7] at H
     have c7b0 : decide (0 ≤ a1) = true := decide_eq_true c7
     clear c7
     by_cases c8 : a1 < (l0.length : Int)
     ·rw [if_pos c8] at H
      have c8b0 : decide (a1 < (l0.length : Int)) = true := decide_eq_true c8
      clear c8
      obtain rfl := Option.some.inj H
      have p137 : 0 ≤ (a1 : Int) := of_decide_eq_true Zp
      have q137 : a1 < (l0.length : Int) := of_decide_eq_true Zp
      obtain ⟨ad137, e137, hx137_0, hx137_1⟩ := at_T108 HR0.out a1 p137 q137
      cases e137
      replace p137 := eq_true p137
      replace q137 := eq_true q137
      go_wp2
      repeat (go_quiet (fail); try go_wp2)
      go_ret
      exact ⟨Za, Zb⟩
     ·rw [if_neg c8] at H
      exact absurd H (by simp)
    ·rw [if_neg c7] at H
     exact absurd H (by simp)
end Go.Proofs.Ytnlbaflbhicooaa.F
namespace Go.Proofs.Ytnlbaflbhicooaa.F
open Go.RowKit Go.Proofs.YtnlbaflbhicooaaW.PrintWords Go.Proofs.YtnlbaflbhicooaaW.PrintLast Go.Proofs.YtnlbaflbhicooaaW.PrintMore
attribute [local go_sem] max2_int min2_int max_two min_two max_three min_three max_four min_four   -- for this text's walks alone
set_option linter.unusedVariables false
set_option linter.unusedSimpArgs false
def spec_l08Time.f (k : Nat) (l0_0 : List (S108)) (l0_1 : List (S92)) (l0_2 : List (S43)) (a1_0 : Int) (a1_1 : Int) (a1_2 : ByteArray) (a1_3 : Int) : Option (Int) := (spec_l07Time.f k l0_0 a1_0 a1_1).bind fun t140 => ((spec_l03Find.f k l0_1 a1_2).bind fun t141 => (if 0 ≤ t141 then (if t141 < (l0_1.length : Int) then (some (wrap64 (t140 - ((rd_T92 l0_1 t141).f3)))) else (none)) else (none)))
set_option maxHeartbeats 8000000 in
set_option maxRecDepth 100000 in
theorem spec_l08Time.calls (k : Nat) (A0_0 : Option Addr) (c0_0 : Nat) (l0_0 : List (S108)) (A0_1 : Option Addr) (c0_1 : Nat) (l0_1 : List (S92)) (A0_2 : Option Addr) (c0_2 : Nat) (l0_2 : List (S43)) (a1_0 : Int) (a1_1 : Int) (a1_2 : ByteArray) (a1_3 : Int) (r : Int) (w : World) (hr0_0 : Kd.C k108 w A0_0 l0_0.length l0_0) (hc0_0 : l0_0.length ≤ c0_0) (hr0_1 : Kd.C k92 w A0_1 l0_1.length l0_1) (hc0_1 : l0_1.length ≤ c0_1) (hr0_2 : Kd.C k43 w A0_2 l0_2.length l0_2) (hc0_2 : l0_2.length ≤ c0_2) (h : spec_l08Time.f k l0_0 l0_1 l0_2 a1_0 a1_1 a1_2 a1_3 = some r) :
  Calls Try.prog 95 #[.agg #[.slice A0_0 l0_0.length c0_0, .slice A0_1 l0_1.length c0_1, .slice A0_2 l0_2.length c0_2], .agg #[.int .i64 a1_0, .int .i64 a1_1, .string a1_2, .int .i64 a1_3]] w fun e w' => e = .returned (.int .i64 r) ∧ Below w.heap.size w w' := by
 have hu32 := Try.underlying32
 have hu43 := Try.underlying43
 have HR0_0 := Aside0.mk hr0_0
 have HC0_0 := Aside0.mk hc0_0
 clear hr0_0 hc0_0
 have HR0_1 := Aside0.mk hr0_1
 have HC0_1 := Aside0.mk hc0_1
 clear hr0_1 hc0_1
 have HR0_2 := Aside0.mk hr0_2
 have HC0_2 := Aside0.mk hc0_2
 clear hr0_2 hc0_2
 have HB := Aside0.mk (Below.refl w.heap.size w)
 have H : ((spec_l07Time.f k l0_0 a1_0 a1_1).bind fun t140 => ((spec_l03Find.f k l0_1 a1_2).bind fun t141 => (if 0 ≤ t141 then (if t141 < (l0_1.length : Int) then (some (wrap64 (t140 - ((rd_T92 l0_1 t141).f3)))) else (none)) else (none)))) = some r := h
 clear h
 replace H := Option.bind_eq_some_iff.mp H
 obtain ⟨t140, A30, H⟩ := H
 replace H : ((spec_l03Find.f k l0_1 a1_2).bind fun t141 => (if 0 ≤ t141 then (if t141 < (l0_1.length : Int) then (some (wrap64 (t140 - ((rd_T92 l0_1 t141).f3)))) else (none)) else (none))) = some r := H
 have A3 := Aside0.mk A30
 clear A30
 replace H := Option.bind_eq_some_iff.mp H
 obtain ⟨t141, A40, H⟩ := H
 replace H : (if 0 ≤ t141 then (if t141 < (l0_1.length : Int) then (some (wrap64 (t140 - ((rd_T92 l0_1 t141).f3)))) else (none)) else (none)) = some r := H
 have A4 := Aside0.mk A40
 clear A40
 by_cases c5 : 0 ≤ t141
 ·rw [if_pos c5] at H
  have c5b0 : decide (0 ≤ t141) = true := decide_eq_true c5
  clear c5
  by_cases c6 : t141 < (l0_1.length : Int)
  ·rw [if_pos c6] at H
   have c6b0 : decide (t141 < (l0_1.length : Int)) = true := decide_eq_true c6
   clear c6
   obtain rfl := Option.some.inj H
   go_enter Try.func95, Try.ntmps95
   go_wp2_with (first | ((with_reducible refine gate_dst (N := 2) rfl ?_); refine box_event ?hg (N := 2) ?hd (cs := #[.slice A0_0 l0_0.length c0_0, .slice A0_1 l0_1.length c0_1, .slice A0_2 l0_2.length c0_2]) (t := 32) ?hr ?_; (case hd => rfl); (case hg => rfl); (case hr => first | (go_simp; done) | (go_simp; rfl)); intro gb138 hg w7 hbox hb; have n0_ := Aside0.mk (below_step Zc hb); have n1_ := Aside0.mk (hbox); have n2_ := Aside0.mk ((Zd : w.heap.size ≤ gb138)); have n3_ := Aside0.mk ((Zd : w.heap.size ≤ gb138)); clear HB; have HB := n0_; have BK138 := n1_; have GW138 := n2_; have GE138 := n3_; clear n0_ n1_ n2_ n3_; clear hb hbox hg) | ((with_reducible refine gate_dst (N := 3) rfl ?_); refine box_event ?hg (N := 3) ?hd (cs := #[.int .i64 a1_0, .int .i64 a1_1, .string a1_2, .int .i64 a1_3]) (t := 43) ?hr ?_; (case hd => rfl); (case hg => rfl); (case hr => first | (go_simp; done) | (go_simp; rfl)); intro gb139 hg w8 hbox hb; have n0_ := Aside0.mk (blk_below (g := gb138) (o := .cells #[.slice A0_0 l0_0.length c0_0, .slice A0_1 l0_1.length c0_1, .slice A0_2 l0_2.length c0_2] 32 (0, 0)) (have z0_ := BK138; Ze) hb); have n1_ := Aside0.mk (below_step (have z0_ := GE138; Zf) hb); have n2_ := Aside0.mk (hbox); have n3_ := Aside0.mk (((have z0_ := GE138; Zg) : w.heap.size ≤ gb139)); have n4_ := Aside0.mk (((have z0_ := GE138; Zg) : w.heap.size ≤ gb139)); have n5_ := Aside0.mk (((have z0_ := BK138; Zak) : gb138 ≠ gb139)); have n6_ := Aside0.mk (((have z0_ := BK138; Zal) : gb139 ≠ gb138)); clear BK138; clear HB; have BK138 := n0_; have HB := n1_; have BK139 := n2_; have GW139 := n3_; have GE139 := n4_; have NB138_139 := n5_; have NB139_138 := n6_; clear n0_ n1_ n2_ n3_ n4_ n5_ n6_; clear hb hbox hg; have hnb9 := NB138_139.out; have hnc9 := NB139_138.out; have hcz10_0 : w8.cell? ⟨gb138, 0, none⟩ = some (.slice A0_0 l0_0.length c0_0) := (blk_cell BK138.out 0).trans rfl; have hcz10_1 : w8.cell? ⟨gb138, 1, none⟩ = some (.slice A0_1 l0_1.length c0_1) := (blk_cell BK138.out 1).trans rfl; have hcz10_2 : w8.cell? ⟨gb138, 2, none⟩ = some (.slice A0_2 l0_2.length c0_2) := (blk_cell BK138.out 2).trans rfl; have hfz10_0 := blk_frozen BK138.out 0; have hfz10_1 := blk_frozen BK138.out 1; have hfz10_2 := blk_frozen BK138.out 2; have hcz11_0 : w8.cell? ⟨gb139, 0, none⟩ = some (.int .i64 a1_0) := (blk_cell BK139.out 0).trans rfl; have hcz11_1 : w8.cell? ⟨gb139, 1, none⟩ = some (.int .i64 a1_1) := (blk_cell BK139.out 1).trans rfl; have hcz11_2 : w8.cell? ⟨gb139, 2, none⟩ = some (.string a1_2) := (blk_cell BK139.out 2).trans rfl; have hcz11_3 : w8.cell? ⟨gb139, 3, none⟩ = some (.int .i64 a1_3) := (blk_cell BK139.out 3).trans rfl; have hfz11_0 := blk_frozen BK139.out 0; have hfz11_1 := blk_frozen BK139.out 1; have hfz11_2 := blk_frozen BK139.out 2; have hfz11_3 := blk_frozen BK139.out 3) | (go_at_call 128; (with_reducible refine (spec_l07Time.calls k _ _ l0_0 a1_0 a1_1 t140 _ ?side1 ?side2 A3.out).mono ?_); (case side1 => repeat (first | exact (Kd.C_below HR0_0.out HB.out) | (with_reducible refine Kd.C_alloc ?_ _) | (with_reducible refine Kd.C_drewN ?_ _) | (with_reducible refine Kd.C_drew ?_))); (case side2 => exact HC0_0.out); rintro e w' ⟨rfl, ⟨nd, rfl⟩⟩; (try first | exact ⟨rfl, _, World.drewN_drewN _ _ _⟩ | exact ⟨rfl, _, Eq.trans (World.drewN_drewN _ _ _) (congrArg (World.drewN _) (Nat.add_assoc _ _ _))⟩)) | (go_at_call 94; (with_reducible refine (spec_l03Find.calls k _ _ l0_1 a1_2 t141 _ ?side1 ?side2 A4.out).mono ?_); (case side1 => repeat (first | exact (Kd.C_below HR0_1.out (have z0_ := GE138; have z1_ := GE139; Zh)) | (with_reducible refine Kd.C_alloc ?_ _) | (with_reducible refine Kd.C_drewN ?_ _) | (with_reducible refine Kd.C_drew ?_))); (case side2 => exact HC0_1.out); rintro e w' ⟨rfl, ⟨nd, rfl⟩⟩; (try first | exact ⟨rfl, _, World.drewN_drewN _ _ _⟩ | exact ⟨rfl, _, Eq.trans (World.drewN_drewN _ _ _) (congrArg (World.drewN _) (Nat.add_assoc _ _ _))⟩); have p142 : 0 ≤ (t141 : Int) := of_decide_eq_true Zp; have q142 : t141 < (l0_1.length : Int) := of_decide_eq_true Zp; obtain ⟨ad142, e142, hx142_0, hx142_1, hx142_2, hx142_3, hx142_4, hx142_5, hx142_6, hx142_7, hx142_8⟩ := at_T92 HR0_1.out t141 p142 q142; cases e142; replace hx142_0 := cbH HB hx142_0; replace hx142_1 := cbH HB hx142_1; replace hx142_2 := cbH HB hx142_2; replace hx142_3 := cbH HB hx142_3; replace hx142_4 := cbH HB hx142_4; replace hx142_5 := cbH HB hx142_5; replace hx142_6 := cbH HB hx142_6; replace hx142_7 := cbH HB hx142_7; replace hx142_8 := cbH HB hx142_8; replace p142 := eq_true p142; replace q142 := eq_true q142))
   repeat (go_quiet (first | ((with_reducible refine gate_dst (N := 2) rfl ?_); refine box_event ?hg (N := 2) ?hd (cs := #[.slice A0_0 l0_0.length c0_0, .slice A0_1 l0_1.length c0_1, .slice A0_2 l0_2.length c0_2]) (t := 32) ?hr ?_; (case hd => rfl); (case hg => rfl); (case hr => first | (go_simp; done) | (go_simp; rfl)); intro gb138 hg w7 hbox hb; have n0_ := Aside0.mk (below_step Zc hb); have n1_ := Aside0.mk (hbox); have n2_ := Aside0.mk ((Zd : w.heap.size ≤ gb138)); have n3_ := Aside0.mk ((Zd : w.heap.size ≤ gb138)); clear HB; have HB := n0_; have BK138 := n1_; have GW138 := n2_; have GE138 := n3_; clear n0_ n1_ n2_ n3_; clear hb hbox hg) | ((with_reducible refine gate_dst (N := 3) rfl ?_); refine box_event ?hg (N := 3) ?hd (cs := #[.int .i64 a1_0, .int .i64 a1_1, .string a1_2, .int .i64 a1_3]) (t := 43) ?hr ?_; (case hd => rfl); (case hg => rfl); (case hr => first | (go_simp; done) | (go_simp; rfl)); intro gb139 hg w8 hbox hb; have n0_ := Aside0.mk (blk_below (g := gb138) (o := .cells #[.slice A0_0 l0_0.length c0_0, .slice A0_1 l0_1.length c0_1, .slice A0_2 l0_2.length c0_2] 32 (0, 0)) (have z0_ := BK138; Ze) hb); have n1_ := Aside0.mk (below_step (have z0_ := GE138; Zf) hb); have n2_ := Aside0.mk (hbox); have n3_ := Aside0.mk (((have z0_ := GE138; Zg) : w.heap.size ≤ gb139)); have n4_ := Aside0.mk (((have z0_ := GE138; Zg) : w.heap.size ≤ gb139)); have n5_ := Aside0.mk (((have z0_ := BK138; Zak) : gb138 ≠ gb139)); have n6_ := Aside0.mk (((have z0_ := BK138; Zal) : gb139 ≠ gb138)); clear BK138; clear HB; have BK138 := n0_; have HB := n1_; have BK139 := n2_; have GW139 := n3_; have GE139 := n4_; have NB138_139 := n5_; have NB139_138 := n6_; clear n0_ n1_ n2_ n3_ n4_ n5_ n6_; clear hb hbox hg; have hnb9 := NB138_139.out; have hnc9 := NB139_138.out; have hcz10_0 : w8.cell? ⟨gb138, 0, none⟩ = some (.slice A0_0 l0_0.length c0_0) := (blk_cell BK138.out 0).trans rfl; have hcz10_1 : w8.cell? ⟨gb138, 1, none⟩ = some (.slice A0_1 l0_1.length c0_1) := (blk_cell BK138.out 1).trans rfl; have hcz10_2 : w8.cell? ⟨gb138, 2, none⟩ = some (.slice A0_2 l0_2.length c0_2) := (blk_cell BK138.out 2).trans rfl; have hfz10_0 := blk_frozen BK138.out 0; have hfz10_1 := blk_frozen BK138.out 1; have hfz10_2 := blk_frozen BK138.out 2; have hcz11_0 : w8.cell? ⟨gb139, 0, none⟩ = some (.int .i64 a1_0) := (blk_cell BK139.out 0).trans rfl; have hcz11_1 : w8.cell? ⟨gb139, 1, none⟩ = some (.int .i64 a1_1) := (blk_cell BK139.out 1).trans rfl; have hcz11_2 : w8.cell? ⟨gb139, 2, none⟩ = some (.string a1_2) := (blk_cell BK139.out 2).trans rfl; have hcz11_3 : w8.cell? ⟨gb139, 3, none⟩ = some (.int .i64 a1_3) := (blk_cell BK139.out 3).trans rfl; have hfz11_0 := blk_frozen BK139.out 0; have hfz11_1 := blk_frozen BK139.out 1; have hfz11_2 := blk_frozen BK139.out 2; have hfz11_3 := blk_frozen BK139.out 3) | (go_at_call 128; (with_reducible refine (spec_l07Time.calls k _ _ l0_0 a1_0 a1_1 t140 _ ?side1 ?side2 A3.out).mono ?_); (case side1 => repeat (first | exact (Kd.C_below HR0_0.out HB.out) | (with_reducible refine Kd.C_alloc ?_ _) | (with_reducible refine Kd.C_drewN ?_ _) | (with_reducible refine Kd.C_drew ?_))); (case side2 => exact HC0_0.out); rintro e w' ⟨rfl, ⟨nd, rfl⟩⟩; (try first | exact ⟨rfl, _, World.drewN_drewN _ _ _⟩ | exact ⟨rfl, _, Eq.trans (World.drewN_drewN _ _ _) (congrArg (World.drewN _) (Nat.add_assoc _ _ _))⟩)) | (go_at_call 94; (with_reducible refine (spec_l03Find.calls k _ _ l0_1 a1_2 t141 _ ?side1 ?side2 A4.out).mono ?_); (case side1 => repeat (first | exact (Kd.C_below HR0_1.out (have z0_ := GE138; have z1_ := GE139; Zh)) | (with_reducible refine Kd.C_alloc ?_ _) | (with_reducible refine Kd.C_drewN ?_ _) | (with_reducible refine Kd.C_drew ?_))); (case side2 => exact HC0_1.out); rintro e w' ⟨rfl, ⟨nd, rfl⟩⟩; (try first | exact ⟨rfl, _, World.drewN_drewN _ _ _⟩ | exact ⟨rfl, _, Eq.trans (World.drewN_drewN _ _ _) (congrArg (World.drewN _) (Nat.add_assoc _ _ _))⟩); have p142 : 0 ≤ (t141 : Int) := of_decide_eq_true Zp; have q142 : t141 < (l0_1.length : Int) := of_decide_eq_true Zp; obtain ⟨ad142, e142, hx142_0, hx142_1, hx142_2, hx142_3, hx142_4, hx142_5, hx142_6, hx142_7, hx142_8⟩ := at_T92 HR0_1.out t141 p142 q142; cases e142; replace hx142_0 := cbH HB hx142_0; replace hx142_1 := cbH HB hx142_1; replace hx142_2 := cbH HB hx142_2; replace hx142_3 := cbH HB hx142_3; replace hx142_4 := cbH HB hx142_4; replace hx142_5 := cbH HB hx142_5; replace hx142_6 := cbH HB hx142_6; replace hx142_7 := cbH HB hx142_7; replace hx142_8 := cbH HB hx142_8; replace p142 := eq_true p142; replace q142 := eq_true q142)); try go_wp2_with (first | ((with_reducible refine gate_dst (N := 2) rfl ?_); refine box_event ?hg (N := 2) ?hd (cs := #[.slice A0_0 l0_0.length c0_0, .slice A0_1 l0_1.length c0_1, .slice A0_2 l0_2.length c0_2]) (t := 32) ?hr ?_; (case hd => rfl); (case hg => rfl); (case hr => first | (go_simp; done) | (go_simp; rfl)); intro gb138 hg w7 hbox hb; have n0_ := Aside0.mk (below_step Zc hb); have n1_ := Aside0.mk (hbox); have n2_ := Aside0.mk ((Zd : w.heap.size ≤ gb138)); have n3_ := Aside0.mk ((Zd : w.heap.size ≤ gb138)); clear HB; have HB := n0_; have BK138 := n1_; have GW138 := n2_; have GE138 := n3_; clear n0_ n1_ n2_ n3_; clear hb hbox hg) | ((with_reducible refine gate_dst (N := 3) rfl ?_); refine box_event ?hg (N := 3) ?hd (cs := #[.int .i64 a1_0, .int .i64 a1_1, .string a1_2, .int .i64 a1_3]) (t := 43) ?hr ?_; (case hd => rfl); (case hg => rfl); (case hr => first | (go_simp; done) | (go_simp; rfl)); intro gb139 hg w8 hbox hb; have n0_ := Aside0.mk (blk_below (g := gb138) (o := .cells #[.slice A0_0 l0_0.length c0_0, .slice A0_1 l0_1.length c0_1, .slice A0_2 l0_2.length c0_2] 32 (0, 0)) (have z0_ := BK138; Ze) hb); have n1_ := Aside0.mk (below_step (have z0_ := GE138; Zf) hb); have n2_ := Aside0.mk (hbox); have n3_ := Aside0.mk (((have z0_ := GE138; Zg) : w.heap.size ≤ gb139)); have n4_ := Aside0.mk (((have z0_ := GE138; Zg) : w.heap.size ≤ gb139)); have n5_ := Aside0.mk (((have z0_ := BK138; Zak) : gb138 ≠ gb139)); have n6_ := Aside0.mk (((have z0_ := BK138; Zal) : gb139 ≠ gb138)); clear BK138; clear HB; have BK138 := n0_; have HB := n1_; have BK139 := n2_; have GW139 := n3_; have GE139 := n4_; have NB138_139 := n5_; have NB139_138 := n6_; clear n0_ n1_ n2_ n3_ n4_ n5_ n6_; clear hb hbox hg; have hnb9 := NB138_139.out; have hnc9 := NB139_138.out; have hcz10_0 : w8.cell? ⟨gb138, 0, none⟩ = some (.slice A0_0 l0_0.length c0_0) := (blk_cell BK138.out 0).trans rfl; have hcz10_1 : w8.cell? ⟨gb138, 1, none⟩ = some (.slice A0_1 l0_1.length c0_1) := (blk_cell BK138.out 1).trans rfl; have hcz10_2 : w8.cell? ⟨gb138, 2, none⟩ = some (.slice A0_2 l0_2.length c0_2) := (blk_cell BK138.out 2).trans rfl; have hfz10_0 := blk_frozen BK138.out 0; have hfz10_1 := blk_frozen BK138.out 1; have hfz10_2 := blk_frozen BK138.out 2; have hcz11_0 : w8.cell? ⟨gb139, 0, none⟩ = some (.int .i64 a1_0) := (blk_cell BK139.out 0).trans rfl; have hcz11_1 : w8.cell? ⟨gb139, 1, none⟩ = some (.int .i64 a1_1) := (blk_cell BK139.out 1).trans rfl; have hcz11_2 : w8.cell? ⟨gb139, 2, none⟩ = some (.string a1_2) := (blk_cell BK139.out 2).trans rfl; have hcz11_3 : w8.cell? ⟨gb139, 3, none⟩ = some (.int .i64 a1_3) := (blk_cell BK139.out 3).trans rfl; have hfz11_0 := blk_frozen BK139.out 0; have hfz11_1 := blk_frozen BK139.out 1; have hfz11_2 := blk_frozen BK139.out 2; have hfz11_3 := blk_frozen BK139.out 3) | (go_at_call 128; (with_reducible refine (spec_l07Time.calls k _ _ l0_0 a1_0 a1_1 t140 _ ?side1 ?side2 A3.out).mono ?_); (case side1 => repeat (first | exact (Kd.C_below HR0_0.out HB.out) | (with_reducible refine Kd.C_alloc ?_ _) | (with_reducible refine Kd.C_drewN ?_ _) | (with_reducible refine Kd.C_drew ?_))); (case side2 => exact HC0_0.out); rintro e w' ⟨rfl, ⟨nd, rfl⟩⟩; (try first | exact ⟨rfl, _, World.drewN_drewN _ _ _⟩ | exact ⟨rfl, _, Eq.trans (World.drewN_drewN _ _ _) (congrArg (World.drewN _) (Nat.add_assoc _ _ _))⟩)) | (go_at_call 94; (with_reducible refine (spec_l03Find.calls k _ _ l0_1 a1_2 t141 _ ?side1 ?side2 A4.out).mono ?_); (case side1 => repeat (first | exact (Kd.C_below HR0_1.out (have z0_ := GE138; have z1_ := GE139; Zh)) | (with_reducible refine Kd.C_alloc ?_ _) | (with_reducible refine Kd.C_drewN ?_ _) | (with_reducible refine Kd.C_drew ?_))); (case side2 => exact HC0_1.out); rintro e w' ⟨rfl, ⟨nd, rfl⟩⟩; (try first | exact ⟨rfl, _, World.drewN_drewN _ _ _⟩ | exact ⟨rfl, _, Eq.trans (World.drewN_drewN _ _ _) (congrArg (World.drewN _) (Nat.add_assoc _ _ _))⟩); have p142 : 0 ≤ (t141 : Int) := of_decide_eq_true Zp; have q142 : t141 < (l0_1.length : Int) := of_decide_eq_true Zp; obtain ⟨ad142, e142, hx142_0, hx142_1, hx142_2, hx142_3, hx142_4, hx142_5, hx142_6, hx142_7, hx142_8⟩ := at_T92 HR0_1.out t141 p142 q142; cases e142; replace hx142_0 := cbH HB hx142_0; replace hx142_1 := cbH HB hx142_1; replace hx142_2 := cbH HB hx142_2; replace hx142_3 := cbH HB hx142_3; replace hx142_4 := cbH HB hx142_4; replace hx142_5 := cbH HB hx142_5; replace hx142_6 := cbH HB hx142_6; replace hx142_7 := cbH HB hx142_7; replace hx142_8 := cbH HB hx142_8; replace p142 := eq_true p142; replace q142 := eq_true q142)))
   go_ret
   exact ⟨by first | rfl | (simp only [i64_w]; done) | (simp only [i64_w]; rfl) | (simp [errW_none, errW_some] <;> rfl) | (simp [*, errW_none, errW_some] <;> rfl), (have z0_ := GE138; have z1_ := GE139; Zh)⟩
  ·rw [if_neg c6] at H
   exact absurd H (by simp)
 ·rw [if_neg c5] at H
  exact absurd H (by simp)
end Go.Proofs.Ytnlbaflbhicooaa.F
namespace Go.Proofs.Ytnlbaflbhicooaa.F
open Go.RowKit Go.Proofs.YtnlbaflbhicooaaW.PrintWords Go.Proofs.YtnlbaflbhicooaaW.PrintLast Go.Proofs.YtnlbaflbhicooaaW.PrintMore
attribute [local go_sem] max2_int min2_int max_two min_two max_three min_three max_four min_four   -- for this text's walks alone
set_option linter.unusedVariables false
set_option linter.unusedSimpArgs false
mutual
def spec_IsShow.j0 : Nat → Bool → List (S108) → List (S92) → List (S43) → Option (Bool)
 | 0, _, _, _, _ => none
 | k + 1, x20, x144000, x144001, x144002 => if x20 = true then (some false) else (spec_IsShow.l0 k 0 x144000 x144001 x144002)
def spec_IsShow.l0 : Nat → Int → List (S108) → List (S92) → List (S43) → Option (Bool)
 | 0, _, _, _, _ => none
 | k + 1, x3, x144000, x144001, x144002 => if x3 < (x144002.length : Int) then (if 0 ≤ x3 then ((spec_l07Has.f x144000 ((rd_T43 x144002 x3).f0) ((rd_T43 x144002 x3).f1)).bind fun t148 => (if t148 = true then ((spec_l03Find.f k x144001 ((rd_T43 x144002 x3).f2)).bind fun t149 => (if t149 < 0 then (some false) else ((spec_l01In.f ((rd_T43 x144002 x3).f3) 0 11).bind fun t150 => (if t150 = true then ((spec_l08Time.f k x144000 x144001 x144002 ((rd_T43 x144002 x3).f0) ((rd_T43 x144002 x3).f1) ((rd_T43 x144002 x3).f2) ((rd_T43 x144002 x3).f3)).bind fun t151 => (if t151 < 0 then (some false) else (spec_IsShow.l0 k (wrap64 (x3 + 1)) x144000 x144001 x144002))) else (some false))))) else (some false))) else (none)) else (some true)
end
def spec_IsShow.f (k : Nat) (l0_0 : List (S108)) (l0_1 : List (S92)) (l0_2 : List (S43)) : Option (Bool) := (spec_IsScore.f k l0_0).bind fun t144 => (if t144 = true then ((spec_AreArticles.f k l0_1).bind fun t145 => (if t145 = true then (spec_IsShow.j0 k (decide ((l0_2.length : Int) > 20)) l0_0 l0_1 l0_2) else (spec_IsShow.j0 k true l0_0 l0_1 l0_2))) else (spec_IsShow.j0 k true l0_0 l0_1 l0_2))
set_option maxHeartbeats 8000000 in
set_option maxRecDepth 100000 in
theorem spec_IsShow.calls (k : Nat) (A0_0 : Option Addr) (c0_0 : Nat) (l0_0 : List (S108)) (A0_1 : Option Addr) (c0_1 : Nat) (l0_1 : List (S92)) (A0_2 : Option Addr) (c0_2 : Nat) (l0_2 : List (S43)) (r : Bool) (w : World) (hr0_0 : Kd.C k108 w A0_0 l0_0.length l0_0) (hc0_0 : l0_0.length ≤ c0_0) (hr0_1 : Kd.C k92 w A0_1 l0_1.length l0_1) (hc0_1 : l0_1.length ≤ c0_1) (hr0_2 : Kd.C k43 w A0_2 l0_2.length l0_2) (hc0_2 : l0_2.length ≤ c0_2) (h : spec_IsShow.f k l0_0 l0_1 l0_2 = some r) :
  Calls Try.prog 36 #[.agg #[.slice A0_0 l0_0.length c0_0, .slice A0_1 l0_1.length c0_1, .slice A0_2 l0_2.length c0_2]] w fun e w' => e = .returned (.bool r) ∧ Below w.heap.size w w' := by
 have hu32 := Try.underlying32
 have hu43 := Try.underlying43
 have HR0_0 := Aside0.mk hr0_0
 have HC0_0 := Aside0.mk hc0_0
 clear hr0_0 hc0_0
 have HR0_1 := Aside0.mk hr0_1
 have HC0_1 := Aside0.mk hc0_1
 clear hr0_1 hc0_1
 have HR0_2 := Aside0.mk hr0_2
 have HC0_2 := Aside0.mk hc0_2
 clear hr0_2 hc0_2
 have HB := Aside0.mk (Below.refl w.heap.size w)
 have H : ((spec_IsScore.f k l0_0).bind fun t144 => (if t144 = true then ((spec_AreArticles.f k l0_1).bind fun t145 => (if t145 = true then (spec_IsShow.j0 k (decide ((l0_2.length : Int) > 20)) l0_0 l0_1 l0_2) else (spec_IsShow.j0 k true l0_0 l0_1 l0_2))) else (spec_IsShow.j0 k true l0_0 l0_1 l0_2))) = some r := h
 clear h
 have HC2 := Aside0.mk H
 clear H
 go_enter Try.func36, Try.ntmps36
 go_upto_region 1 with (first | ((with_reducible refine gate_dst (N := 1) rfl ?_); (try (refine gate_guard (by rfl) ?_; dsimp only)); refine box_event ?hg (N := 1) ?hd (cs := #[.slice A0_0 l0_0.length c0_0, .slice A0_1 l0_1.length c0_1, .slice A0_2 l0_2.length c0_2]) (t := 32) ?hr ?_; (case hd => rfl); (case hg => rfl); (case hr => first | (go_simp; done) | (go_simp; rfl)); intro gb143 hg w3 hbox hb; have n0_ := Aside0.mk (below_step Zc hb); have n1_ := Aside0.mk (hbox); have n2_ := Aside0.mk ((Zd : w.heap.size ≤ gb143)); have n3_ := Aside0.mk ((Zd : w.heap.size ≤ gb143)); clear HB; have HB := n0_; have BK143 := n1_; have GW143 := n2_; have GE143 := n3_; clear n0_ n1_ n2_ n3_; clear hb hbox hg))
 (try simp only [Act.put, List.setIfInBounds_toArray, List.set_cons_zero, List.set_cons_succ])
 go_cut [20] (fun v20 wc => ∃ (kq : Nat) (x20_1 : Bool), v20 = .bool x20_1 ∧ Aside0 (spec_IsShow.j0 kq x20_1 l0_0 l0_1 l0_2 = some r) ∧ Aside0 (kq ≤ k) ∧ Aside0 (wc.heap[gb143]? = some (.cells #[(.slice A0_0 l0_0.length c0_0), (.slice A0_1 l0_1.length c0_1), (.slice A0_2 l0_2.length c0_2)] 32 (0, 0))) ∧ Aside0 (Below w.heap.size w wc))
 case first =>
  have H := HC2.out
  clear HC2
  replace H := Option.bind_eq_some_iff.mp H
  obtain ⟨t144, A40, H⟩ := H
  replace H : (if t144 = true then ((spec_AreArticles.f k l0_1).bind fun t145 => (if t145 = true then (spec_IsShow.j0 k (decide ((l0_2.length : Int) > 20)) l0_0 l0_1 l0_2) else (spec_IsShow.j0 k true l0_0 l0_1 l0_2))) else (spec_IsShow.j0 k true l0_0 l0_1 l0_2)) = some r := H
  have A4 := Aside0.mk A40
  clear A40
  by_cases c5 : t144 = true
  ·subst c5
   have H1 : ((spec_AreArticles.f k l0_1).bind fun t145 => (if t145 = true then (spec_IsShow.j0 k (decide ((l0_2.length : Int) > 20)) l0_0 l0_1 l0_2) else (spec_IsShow.j0 k true l0_0 l0_1 l0_2))) = some r := by rw [if_pos rfl] at H; exact H
   clear H
   have H := H1
   clear H1
   replace H := Option.bind_eq_some_iff.mp H
   obtain ⟨t145, A60, H⟩ := H
   replace H : (if t145 = true then (spec_IsShow.j0 k (decide ((l0_2.length : Int) > 20)) l0_0 l0_1 l0_2) else (spec_IsShow.j0 k true l0_0 l0_1 l0_2)) = some r := H
   have A6 := Aside0.mk A60
   clear A60
   by_cases c7 : t145 = true
   ·subst c7
    have H1 : (spec_IsShow.j0 k (decide ((l0_2.length : Int) > 20)) l0_0 l0_1 l0_2) = some r := by rw [if_pos rfl] at H; exact H
    clear H
    have H := H1
    clear H1
    have H' := Aside0.mk H
    clear H
    have hcz8_0 : w3.cell? ⟨gb143, 0, none⟩ = some (.slice A0_0 l0_0.length c0_0) := (blk_cell BK143.out 0).trans rfl
    have hcz8_1 : w3.cell? ⟨gb143, 1, none⟩ = some (.slice A0_1 l0_1.length c0_1) := (blk_cell BK143.out 1).trans rfl
    have hcz8_2 : w3.cell? ⟨gb143, 2, none⟩ = some (.slice A0_2 l0_2.length c0_2) := (blk_cell BK143.out 2).trans rfl
    have hfz8_0 := blk_frozen BK143.out 0
    have hfz8_1 := blk_frozen BK143.out 1
    have hfz8_2 := blk_frozen BK143.out 2
    go_wp2_with (first | ((with_reducible refine gate_callee (f := 91) rfl ?_); refine goesL_ (some 7) rfl rfl Try.func91 Zj rfl #[.slice A0_0 l0_0.length c0_0] rfl Zo ?_; (with_reducible refine (spec_IsScore.calls k _ _ l0_0 true _ ?side1 ?side2 A4.out).mono ?_); (case side1 => repeat (first | exact (Kd.C_below HR0_0.out HB.out) | (with_reducible refine Kd.C_alloc ?_ _) | (with_reducible refine Kd.C_drewN ?_ _) | (with_reducible refine Kd.C_drew ?_))); (case side2 => exact HC0_0.out); rintro e w' ⟨rfl, ⟨nd, rfl⟩⟩; refine ⟨_, rfl, ?_⟩) | (go_at_call 92; (with_reducible refine (spec_AreArticles.calls k _ _ l0_1 true _ ?side1 ?side2 A6.out).mono ?_); (case side1 => repeat (first | exact (Kd.C_below HR0_1.out (have z0_ := GE143; Zf)) | (with_reducible refine Kd.C_alloc ?_ _) | (with_reducible refine Kd.C_drewN ?_ _) | (with_reducible refine Kd.C_drew ?_))); (case side2 => exact HC0_1.out); rintro e w9 ⟨rfl, hb⟩; have n0_ := Aside0.mk (blk_below (g := gb143) (o := .cells #[.slice A0_0 l0_0.length c0_0, .slice A0_1 l0_1.length c0_1, .slice A0_2 l0_2.length c0_2] 32 (0, 0)) (have z0_ := BK143; Ze) hb); have n1_ := Aside0.mk (below_step (have z0_ := GE143; Zf) hb); clear BK143; clear HB; have BK143 := n0_; have HB := n1_; clear n0_ n1_; (try clear hb); (try clear hb2); (try clear hk); (try clear hi); have hcz10_0 : w9.cell? ⟨gb143, 0, none⟩ = some (.slice A0_0 l0_0.length c0_0) := (blk_cell BK143.out 0).trans rfl; have hcz10_1 : w9.cell? ⟨gb143, 1, none⟩ = some (.slice A0_1 l0_1.length c0_1) := (blk_cell BK143.out 1).trans rfl; have hcz10_2 : w9.cell? ⟨gb143, 2, none⟩ = some (.slice A0_2 l0_2.length c0_2) := (blk_cell BK143.out 2).trans rfl; have hfz10_0 := blk_frozen BK143.out 0; have hfz10_1 := blk_frozen BK143.out 1; have hfz10_2 := blk_frozen BK143.out 2))
    go_meet
    case rel => exact ⟨_, (decide ((l0_2.length : Int) > 20)), Za, H', ⟨Zm⟩, ⟨(have z0_ := BK143; Ze)⟩, ⟨(have z0_ := GE143; Zf)⟩⟩
   ·replace c7 := Bool.eq_false_iff.mpr c7
    subst c7
    have H1 : (spec_IsShow.j0 k true l0_0 l0_1 l0_2) = some r := by rw [if_neg (show ¬ (false = true) by decide)] at H; exact H
    clear H
    have H := H1
    clear H1
    have H' := Aside0.mk H
    clear H
    have hcz11_0 : w3.cell? ⟨gb143, 0, none⟩ = some (.slice A0_0 l0_0.length c0_0) := (blk_cell BK143.out 0).trans rfl
    have hcz11_1 : w3.cell? ⟨gb143, 1, none⟩ = some (.slice A0_1 l0_1.length c0_1) := (blk_cell BK143.out 1).trans rfl
    have hcz11_2 : w3.cell? ⟨gb143, 2, none⟩ = some (.slice A0_2 l0_2.length c0_2) := (blk_cell BK143.out 2).trans rfl
    have hfz11_0 := blk_frozen BK143.out 0
    have hfz11_1 := blk_frozen BK143.out 1
    have hfz11_2 := blk_frozen BK143.out 2
    go_wp2_with (first | ((with_reducible refine gate_callee (f := 91) rfl ?_); refine goesL_ (some 7) rfl rfl Try.func91 Zj rfl #[.slice A0_0 l0_0.length c0_0] rfl Zo ?_; (with_reducible refine (spec_IsScore.calls k _ _ l0_0 true _ ?side1 ?side2 A4.out).mono ?_); (case side1 => repeat (first | exact (Kd.C_below HR0_0.out HB.out) | (with_reducible refine Kd.C_alloc ?_ _) | (with_reducible refine Kd.C_drewN ?_ _) | (with_reducible refine Kd.C_drew ?_))); (case side2 => exact HC0_0.out); rintro e w' ⟨rfl, ⟨nd, rfl⟩⟩; refine ⟨_, rfl, ?_⟩) | (go_at_call 92; (with_reducible refine (spec_AreArticles.calls k _ _ l0_1 false _ ?side1 ?side2 A6.out).mono ?_); (case side1 => repeat (first | exact (Kd.C_below HR0_1.out (have z0_ := GE143; Zf)) | (with_reducible refine Kd.C_alloc ?_ _) | (with_reducible refine Kd.C_drewN ?_ _) | (with_reducible refine Kd.C_drew ?_))); (case side2 => exact HC0_1.out); rintro e w12 ⟨rfl, hb⟩; have n0_ := Aside0.mk (blk_below (g := gb143) (o := .cells #[.slice A0_0 l0_0.length c0_0, .slice A0_1 l0_1.length c0_1, .slice A0_2 l0_2.length c0_2] 32 (0, 0)) (have z0_ := BK143; Ze) hb); have n1_ := Aside0.mk (below_step (have z0_ := GE143; Zf) hb); clear BK143; clear HB; have BK143 := n0_; have HB := n1_; clear n0_ n1_; (try clear hb); (try clear hb2); (try clear hk); (try clear hi)))
    go_meet
    case rel => exact ⟨_, (true), Za, H', ⟨Zm⟩, ⟨(have z0_ := BK143; Ze)⟩, ⟨(have z0_ := GE143; Zf)⟩⟩
  ·replace c5 := Bool.eq_false_iff.mpr c5
   subst c5
   have H1 : (spec_IsShow.j0 k true l0_0 l0_1 l0_2) = some r := by rw [if_neg (show ¬ (false = true) by decide)] at H; exact H
   clear H
   have H := H1
   clear H1
   have H' := Aside0.mk H
   clear H
   have hcz13_0 : w3.cell? ⟨gb143, 0, none⟩ = some (.slice A0_0 l0_0.length c0_0) := (blk_cell BK143.out 0).trans rfl
   have hcz13_1 : w3.cell? ⟨gb143, 1, none⟩ = some (.slice A0_1 l0_1.length c0_1) := (blk_cell BK143.out 1).trans rfl
   have hcz13_2 : w3.cell? ⟨gb143, 2, none⟩ = some (.slice A0_2 l0_2.length c0_2) := (blk_cell BK143.out 2).trans rfl
   have hfz13_0 := blk_frozen BK143.out 0
   have hfz13_1 := blk_frozen BK143.out 1
   have hfz13_2 := blk_frozen BK143.out 2
   go_wp2_with (first | ((with_reducible refine gate_callee (f := 91) rfl ?_); refine goesL_ (some 7) rfl rfl Try.func91 Zj rfl #[.slice A0_0 l0_0.length c0_0] rfl Zo ?_; (with_reducible refine (spec_IsScore.calls k _ _ l0_0 false _ ?side1 ?side2 A4.out).mono ?_); (case side1 => repeat (first | exact (Kd.C_below HR0_0.out HB.out) | (with_reducible refine Kd.C_alloc ?_ _) | (with_reducible refine Kd.C_drewN ?_ _) | (with_reducible refine Kd.C_drew ?_))); (case side2 => exact HC0_0.out); rintro e w' ⟨rfl, ⟨nd, rfl⟩⟩; refine ⟨_, rfl, ?_⟩))
   go_meet
   case rel => exact ⟨_, (true), Za, H', ⟨Zm⟩, ⟨(have z0_ := BK143; Ze)⟩, ⟨(have z0_ := GE143; Zf)⟩⟩
 case rest =>
  clear HC2
  try clear p2
  try clear c3
  try clear c5
  try clear c7
  try clear c9
  try clear hcz10_0
  try clear hcz10_1
  try clear hcz10_2
  try clear hcz11_0
  try clear hcz11_1
  try clear hcz11_2
  try clear hcz13_0
  try clear hcz13_1
  try clear hcz13_2
  try clear hcz8_0
  try clear hcz8_1
  try clear hcz8_2
  try clear hfz10_0
  try clear hfz10_1
  try clear hfz10_2
  try clear hfz11_0
  try clear hfz11_1
  try clear hfz11_2
  try clear hfz13_0
  try clear hfz13_1
  try clear hfz13_2
  try clear hfz8_0
  try clear hfz8_1
  try clear hfz8_2
  obtain ⟨kq, x20_1, rfl, HA, HJ1, BK143, HB⟩ := hcut
  cases kq with
  | zero => exact absurd HA.out (by simp [spec_IsShow.j0])
  | succ kj1 =>
   have H := HA.out
   clear HA
   simp only [spec_IsShow.j0] at H
   by_cases c14 : x20_1 = true
   ·subst c14
    have H1 : (some false) = some r := by rw [if_pos rfl] at H; exact H
    clear H
    have H := H1
    clear H1
    obtain rfl := Option.some.inj H
    go_wp2
    go_ret
    exact ⟨Zk, (have z0_ := GE143; Zf)⟩
   ·replace c14 := Bool.eq_false_iff.mpr c14
    subst c14
    have H1 : (spec_IsShow.l0 kj1 0 l0_0 l0_1 l0_2) = some r := by rw [if_neg (show ¬ (false = true) by decide)] at H; exact H
    clear H
    have H := H1
    clear H1
    have H' := Aside0.mk H
    clear H
    go_wp2
    go_loopg [3] kj1 (fun kq v3 w' => ∃ (x3_2 : Int), v3 = .int .i64 x3_2 ∧ Aside0 (spec_IsShow.l0 kq x3_2 l0_0 l0_1 l0_2 = some r) ∧ Aside0 (kq ≤ kj1) ∧ Aside0 (w'.heap[gb143]? = some (.cells #[(.slice A0_0 l0_0.length c0_0), (.slice A0_1 l0_1.length c0_1), (.slice A0_2 l0_2.length c0_2)] 32 (0, 0))) ∧ Aside0 (Below w.heap.size w w'))
    case atStart => exact ⟨(0), Za, H', ⟨Nat.le_refl _⟩, ⟨(have z0_ := BK143; Ze)⟩, ⟨(have z0_ := GE143; Zf)⟩⟩
    case round =>
     clear H'
     try clear c1
     try clear p2
     try clear c3
     try clear c5
     try clear c7
     try clear c9
     try clear c14
     try clear hcz10_0
     try clear hcz10_1
     try clear hcz10_2
     try clear hcz11_0
     try clear hcz11_1
     try clear hcz11_2
     try clear hcz13_0
     try clear hcz13_1
     try clear hcz13_2
     try clear hcz8_0
     try clear hcz8_1
     try clear hcz8_2
     try clear hfz10_0
     try clear hfz10_1
     try clear hfz10_2
     try clear hfz11_0
     try clear hfz11_1
     try clear hfz11_2
     try clear hfz13_0
     try clear hfz13_1
     try clear hfz13_2
     try clear hfz8_0
     try clear hfz8_1
     try clear hfz8_2
     try clear p2
     obtain ⟨x3_2, rfl, HA, HK2, BK143, HB⟩ := hrel
     cases gk with
     | zero => exact absurd HA.out (by simp [spec_IsShow.l0])
     | succ k2 =>
      have H := HA.out
      clear HA
      simp only [spec_IsShow.l0] at H
      by_cases c15 : x3_2 < (l0_2.length : Int)
      ·rw [if_pos c15] at H
       have c15b0 : decide (x3_2 < (l0_2.length : Int)) = true := decide_eq_true c15
       clear c15
       by_cases c16 : 0 ≤ x3_2
       ·rw [if_pos c16] at H
        have c16b0 : decide (0 ≤ x3_2) = true := decide_eq_true c16
        clear c16
        replace H := Option.bind_eq_some_iff.mp H
        obtain ⟨t148, A170, H⟩ := H
        replace H : (if t148 = true then ((spec_l03Find.f k2 l0_1 ((rd_T43 l0_2 x3_2).f2)).bind fun t149 => (if t149 < 0 then (some false) else ((spec_l01In.f ((rd_T43 l0_2 x3_2).f3) 0 11).bind fun t150 => (if t150 = true then ((spec_l08Time.f k2 l0_0 l0_1 l0_2 ((rd_T43 l0_2 x3_2).f0) ((rd_T43 l0_2 x3_2).f1) ((rd_T43 l0_2 x3_2).f2) ((rd_T43 l0_2 x3_2).f3)).bind fun t151 => (if t151 < 0 then (some false) else (spec_IsShow.l0 k2 (wrap64 (x3_2 + 1)) l0_0 l0_1 l0_2))) else (some false))))) else (some false)) = some r := H
        have A17 := Aside0.mk A170
        clear A170
        by_cases c18 : t148 = true
        ·subst c18
         have H1 : ((spec_l03Find.f k2 l0_1 ((rd_T43 l0_2 x3_2).f2)).bind fun t149 => (if t149 < 0 then (some false) else ((spec_l01In.f ((rd_T43 l0_2 x3_2).f3) 0 11).bind fun t150 => (if t150 = true then ((spec_l08Time.f k2 l0_0 l0_1 l0_2 ((rd_T43 l0_2 x3_2).f0) ((rd_T43 l0_2 x3_2).f1) ((rd_T43 l0_2 x3_2).f2) ((rd_T43 l0_2 x3_2).f3)).bind fun t151 => (if t151 < 0 then (some false) else (spec_IsShow.l0 k2 (wrap64 (x3_2 + 1)) l0_0 l0_1 l0_2))) else (some false))))) = some r := by rw [if_pos rfl] at H; exact H
         clear H
         have H := H1
         clear H1
         replace H := Option.bind_eq_some_iff.mp H
         obtain ⟨t149, A190, H⟩ := H
         replace H : (if t149 < 0 then (some false) else ((spec_l01In.f ((rd_T43 l0_2 x3_2).f3) 0 11).bind fun t150 => (if t150 = true then ((spec_l08Time.f k2 l0_0 l0_1 l0_2 ((rd_T43 l0_2 x3_2).f0) ((rd_T43 l0_2 x3_2).f1) ((rd_T43 l0_2 x3_2).f2) ((rd_T43 l0_2 x3_2).f3)).bind fun t151 => (if t151 < 0 then (some false) else (spec_IsShow.l0 k2 (wrap64 (x3_2 + 1)) l0_0 l0_1 l0_2))) else (some false)))) = some r := H
         have A19 := Aside0.mk A190
         clear A190
         by_cases c20 : t149 < 0
         ·rw [if_pos c20] at H
          have c20b0 : decide (t149 < 0) = true := decide_eq_true c20
          clear c20
          obtain rfl := Option.some.inj H
          have hcz21_0 : wr.cell? ⟨gb143, 0, none⟩ = some (.slice A0_0 l0_0.length c0_0) := (blk_cell BK143.out 0).trans rfl
          have hcz21_1 : wr.cell? ⟨gb143, 1, none⟩ = some (.slice A0_1 l0_1.length c0_1) := (blk_cell BK143.out 1).trans rfl
          have hcz21_2 : wr.cell? ⟨gb143, 2, none⟩ = some (.slice A0_2 l0_2.length c0_2) := (blk_cell BK143.out 2).trans rfl
          have hfz21_0 := blk_frozen BK143.out 0
          have hfz21_1 := blk_frozen BK143.out 1
          have hfz21_2 := blk_frozen BK143.out 2
          have p146 : 0 ≤ (x3_2 : Int) := of_decide_eq_true Zp
          have q146 : x3_2 < (l0_2.length : Int) := of_decide_eq_true Zp
          obtain ⟨ad146, e146, hx146_0, hx146_1, hx146_2, hx146_3⟩ := at_T43 HR0_2.out x3_2 p146 q146
          cases e146
          replace hx146_0 := cbH HB hx146_0
          replace hx146_1 := cbH HB hx146_1
          replace hx146_2 := cbH HB hx146_2
          replace hx146_3 := cbH HB hx146_3
          replace p146 := eq_true p146
          replace q146 := eq_true q146
          go_wp2_with (first | ((with_reducible refine gate_dst (N := 4) rfl ?_); (try (refine gate_guard (by rfl) ?_; dsimp only)); refine box_event ?hg (N := 4) ?hd (cs := #[.int .i64 0, .int .i64 0, .string (⟨#[]⟩ : ByteArray), .int .i64 0]) (t := 43) ?hr ?_; (case hd => rfl); (case hg => rfl); (case hr => first | (go_simp; done) | (go_simp; rfl)); intro gb147 hg w22 hbox hb; have n0_ := Aside0.mk (blk_below (g := gb143) (o := .cells #[.slice A0_0 l0_0.length c0_0, .slice A0_1 l0_1.length c0_1, .slice (some ad146) l0_2.length c0_2] 32 (0, 0)) (have z0_ := BK143; Ze) hb); have n1_ := Aside0.mk (below_step (have z0_ := GE143; Zf) hb); have n2_ := Aside0.mk (hbox); have n3_ := Aside0.mk (((have z0_ := GE143; Zg) : w.heap.size ≤ gb147)); have n4_ := Aside0.mk (((have z0_ := GE143; Zg) : w.heap.size ≤ gb147)); have n5_ := Aside0.mk (((have z0_ := BK143; Zam) : gb143 ≠ gb147)); have n6_ := Aside0.mk (((have z0_ := BK143; Zan) : gb147 ≠ gb143)); clear BK143; clear HB; have BK143 := n0_; have HB := n1_; have BK147 := n2_; have GW147 := n3_; have GE147 := n4_; have NB143_147 := n5_; have NB147_143 := n6_; clear n0_ n1_ n2_ n3_ n4_ n5_ n6_; clear hb hbox hg; have hnb23 := NB147_143.out; have hnc23 := NB143_147.out; have hcz24_0 : w22.cell? ⟨gb147, 0, none⟩ = some (.int .i64 0) := (blk_cell BK147.out 0).trans rfl; have hcz24_1 : w22.cell? ⟨gb147, 1, none⟩ = some (.int .i64 0) := (blk_cell BK147.out 1).trans rfl; have hcz24_2 : w22.cell? ⟨gb147, 2, none⟩ = some (.string (⟨#[]⟩ : ByteArray)) := (blk_cell BK147.out 2).trans rfl; have hcz24_3 : w22.cell? ⟨gb147, 3, none⟩ = some (.int .i64 0) := (blk_cell BK147.out 3).trans rfl; have hfz24_0 := blk_frozen BK147.out 0; have hfz24_1 := blk_frozen BK147.out 1; have hfz24_2 := blk_frozen BK147.out 2; have hfz24_3 := blk_frozen BK147.out 3; have hcz25_0 : w22.cell? ⟨gb143, 0, none⟩ = some (.slice A0_0 l0_0.length c0_0) := (blk_cell BK143.out 0).trans rfl; have hcz25_1 : w22.cell? ⟨gb143, 1, none⟩ = some (.slice A0_1 l0_1.length c0_1) := (blk_cell BK143.out 1).trans rfl; have hcz25_2 : w22.cell? ⟨gb143, 2, none⟩ = some (.slice (some ad146) l0_2.length c0_2) := (blk_cell BK143.out 2).trans rfl; have hfz25_0 := blk_frozen BK143.out 0; have hfz25_1 := blk_frozen BK143.out 1; have hfz25_2 := blk_frozen BK143.out 2) | ((with_reducible refine gate_callee (f := 93) rfl ?_); refine goesL_ (some 39) rfl rfl Try.func93 Zj rfl #[.slice A0_0 l0_0.length c0_0, .int .i64 ((rd_T43 l0_2 x3_2).f0), .int .i64 ((rd_T43 l0_2 x3_2).f1)] rfl Zo ?_; (with_reducible refine (spec_l07Has.calls _ _ l0_0 ((rd_T43 l0_2 x3_2).f0) ((rd_T43 l0_2 x3_2).f1) true _ ?side1 ?side2 A17.out).mono ?_); (case side1 => exact Kd.C_below HR0_0.out (have z0_ := GE143; have z1_ := GE147; Zh)); (case side2 => exact HC0_0.out); rintro e w' ⟨rfl, ⟨nd, rfl⟩⟩; refine ⟨_, rfl, ?_⟩) | (go_at_call 94; (with_reducible refine (spec_l03Find.calls k2 _ _ l0_1 ((rd_T43 l0_2 x3_2).f2) t149 _ ?side1 ?side2 A19.out).mono ?_); (case side1 => exact Kd.C_below HR0_1.out (have z0_ := GE143; have z1_ := GE147; Zh)); (case side2 => exact HC0_1.out); rintro e w' ⟨rfl, ⟨nd, rfl⟩⟩))
          go_ret
          exact ⟨Zk, (have z0_ := GE143; have z1_ := GE147; Zh)⟩
         ·rw [if_neg c20] at H
          have c20b0 : decide (t149 < 0) = false := decide_eq_false c20
          clear c20
          replace H := Option.bind_eq_some_iff.mp H
          obtain ⟨t150, A260, H⟩ := H
          replace H : (if t150 = true then ((spec_l08Time.f k2 l0_0 l0_1 l0_2 ((rd_T43 l0_2 x3_2).f0) ((rd_T43 l0_2 x3_2).f1) ((rd_T43 l0_2 x3_2).f2) ((rd_T43 l0_2 x3_2).f3)).bind fun t151 => (if t151 < 0 then (some false) else (spec_IsShow.l0 k2 (wrap64 (x3_2 + 1)) l0_0 l0_1 l0_2))) else (some false)) = some r := H
          have A26 := Aside0.mk A260
          clear A260
          by_cases c27 : t150 = true
          ·subst c27
           have H1 : ((spec_l08Time.f k2 l0_0 l0_1 l0_2 ((rd_T43 l0_2 x3_2).f0) ((rd_T43 l0_2 x3_2).f1) ((rd_T43 l0_2 x3_2).f2) ((rd_T43 l0_2 x3_2).f3)).bind fun t151 => (if t151 < 0 then (some false) else (spec_IsShow.l0 k2 (wrap64 (x3_2 + 1)) l0_0 l0_1 l0_2))) = some r := by rw [if_pos rfl] at H; exact H
           clear H
           have H := H1
           clear H1
           replace H := Option.bind_eq_some_iff.mp H
           obtain ⟨t151, A280, H⟩ := H
           replace H : (if t151 < 0 then (some false) else (spec_IsShow.l0 k2 (wrap64 (x3_2 + 1)) l0_0 l0_1 l0_2)) = some r := H
           have A28 := Aside0.mk A280
           clear A280
           by_cases c29 : t151 < 0
           ·rw [if_pos c29] at H
            have c29b0 : decide (t151 < 0) = true := decide_eq_true c29
            clear c29
            obtain rfl := Option.some.inj H
            have hcz30_0 : wr.cell? ⟨gb143, 0, none⟩ = some (.slice A0_0 l0_0.length c0_0) := (blk_cell BK143.out 0).trans rfl
            have hcz30_1 : wr.cell? ⟨gb143, 1, none⟩ = some (.slice A0_1 l0_1.length c0_1) := (blk_cell BK143.out 1).trans rfl
            have hcz30_2 : wr.cell? ⟨gb143, 2, none⟩ = some (.slice A0_2 l0_2.length c0_2) := (blk_cell BK143.out 2).trans rfl
            have hfz30_0 := blk_frozen BK143.out 0
            have hfz30_1 := blk_frozen BK143.out 1
            have hfz30_2 := blk_frozen BK143.out 2
            have p146 : 0 ≤ (x3_2 : Int) := of_decide_eq_true Zp
            have q146 : x3_2 < (l0_2.length : Int) := of_decide_eq_true Zp
            obtain ⟨ad146, e146, hx146_0, hx146_1, hx146_2, hx146_3⟩ := at_T43 HR0_2.out x3_2 p146 q146
            cases e146
            replace hx146_0 := cbH HB hx146_0
            replace hx146_1 := cbH HB hx146_1
            replace hx146_2 := cbH HB hx146_2
            replace hx146_3 := cbH HB hx146_3
            replace p146 := eq_true p146
            replace q146 := eq_true q146
            go_wp2_with (first | ((with_reducible refine gate_dst (N := 4) rfl ?_); (try (refine gate_guard (by rfl) ?_; dsimp only)); refine box_event ?hg (N := 4) ?hd (cs := #[.int .i64 0, .int .i64 0, .string (⟨#[]⟩ : ByteArray), .int .i64 0]) (t := 43) ?hr ?_; (case hd => rfl); (case hg => rfl); (case hr => first | (go_simp; done) | (go_simp; rfl)); intro gb147 hg w31 hbox hb; have n0_ := Aside0.mk (blk_below (g := gb143) (o := .cells #[.slice A0_0 l0_0.length c0_0, .slice A0_1 l0_1.length c0_1, .slice (some ad146) l0_2.length c0_2] 32 (0, 0)) (have z0_ := BK143; Ze) hb); have n1_ := Aside0.mk (below_step (have z0_ := GE143; Zf) hb); have n2_ := Aside0.mk (hbox); have n3_ := Aside0.mk (((have z0_ := GE143; Zg) : w.heap.size ≤ gb147)); have n4_ := Aside0.mk (((have z0_ := GE143; Zg) : w.heap.size ≤ gb147)); have n5_ := Aside0.mk (((have z0_ := BK143; Zam) : gb143 ≠ gb147)); have n6_ := Aside0.mk (((have z0_ := BK143; Zan) : gb147 ≠ gb143)); clear BK143; clear HB; have BK143 := n0_; have HB := n1_; have BK147 := n2_; have GW147 := n3_; have GE147 := n4_; have NB143_147 := n5_; have NB147_143 := n6_; clear n0_ n1_ n2_ n3_ n4_ n5_ n6_; clear hb hbox hg; have hnb32 := NB147_143.out; have hnc32 := NB143_147.out; have hcz33_0 : w31.cell? ⟨gb147, 0, none⟩ = some (.int .i64 0) := (blk_cell BK147.out 0).trans rfl; have hcz33_1 : w31.cell? ⟨gb147, 1, none⟩ = some (.int .i64 0) := (blk_cell BK147.out 1).trans rfl; have hcz33_2 : w31.cell? ⟨gb147, 2, none⟩ = some (.string (⟨#[]⟩ : ByteArray)) := (blk_cell BK147.out 2).trans rfl; have hcz33_3 : w31.cell? ⟨gb147, 3, none⟩ = some (.int .i64 0) := (blk_cell BK147.out 3).trans rfl; have hfz33_0 := blk_frozen BK147.out 0; have hfz33_1 := blk_frozen BK147.out 1; have hfz33_2 := blk_frozen BK147.out 2; have hfz33_3 := blk_frozen BK147.out 3; have hcz34_0 : w31.cell? ⟨gb143, 0, none⟩ = some (.slice A0_0 l0_0.length c0_0) := (blk_cell BK143.out 0).trans rfl; have hcz34_1 : w31.cell? ⟨gb143, 1, none⟩ = some (.slice A0_1 l0_1.length c0_1) := (blk_cell BK143.out 1).trans rfl; have hcz34_2 : w31.cell? ⟨gb143, 2, none⟩ = some (.slice (some ad146) l0_2.length c0_2) := (blk_cell BK143.out 2).trans rfl; have hfz34_0 := blk_frozen BK143.out 0; have hfz34_1 := blk_frozen BK143.out 1; have hfz34_2 := blk_frozen BK143.out 2) | ((with_reducible refine gate_callee (f := 93) rfl ?_); refine goesL_ (some 39) rfl rfl Try.func93 Zj rfl #[.slice A0_0 l0_0.length c0_0, .int .i64 ((rd_T43 l0_2 x3_2).f0), .int .i64 ((rd_T43 l0_2 x3_2).f1)] rfl Zo ?_; (with_reducible refine (spec_l07Has.calls _ _ l0_0 ((rd_T43 l0_2 x3_2).f0) ((rd_T43 l0_2 x3_2).f1) true _ ?side1 ?side2 A17.out).mono ?_); (case side1 => exact Kd.C_below HR0_0.out (have z0_ := GE143; have z1_ := GE147; Zh)); (case side2 => exact HC0_0.out); rintro e w' ⟨rfl, ⟨nd, rfl⟩⟩; refine ⟨_, rfl, ?_⟩) | (go_at_call 94; (with_reducible refine (spec_l03Find.calls k2 _ _ l0_1 ((rd_T43 l0_2 x3_2).f2) t149 _ ?side1 ?side2 A19.out).mono ?_); (case side1 => exact Kd.C_below HR0_1.out (have z0_ := GE143; have z1_ := GE147; Zh)); (case side2 => exact HC0_1.out); rintro e w' ⟨rfl, ⟨nd, rfl⟩⟩) | (go_at_call 68; (with_reducible refine (spec_l01In.calls ((rd_T43 l0_2 x3_2).f3) 0 11 true _ A26.out).mono ?_); rintro e w' ⟨rfl, ⟨nd, rfl⟩⟩) | (go_at_call 95; (with_reducible refine (spec_l08Time.calls k2 _ _ l0_0 _ _ l0_1 _ _ l0_2 ((rd_T43 l0_2 x3_2).f0) ((rd_T43 l0_2 x3_2).f1) ((rd_T43 l0_2 x3_2).f2) ((rd_T43 l0_2 x3_2).f3) t151 _ ?side1 ?side2 ?side3 ?side4 ?side5 ?side6 A28.out).mono ?_); (case side1 => exact Kd.C_below HR0_0.out (have z0_ := GE143; have z1_ := GE147; Zh)); (case side2 => exact HC0_0.out); (case side3 => exact Kd.C_below HR0_1.out (have z0_ := GE143; have z1_ := GE147; Zh)); (case side4 => exact HC0_1.out); (case side5 => exact Kd.C_below HR0_2.out (have z0_ := GE143; have z1_ := GE147; Zh)); (case side6 => exact HC0_2.out); rintro e w35 ⟨rfl, hb⟩; have n0_ := Aside0.mk (blk_below (g := gb143) (o := .cells #[.slice A0_0 l0_0.length c0_0, .slice A0_1 l0_1.length c0_1, .slice (some ad146) l0_2.length c0_2] 32 (0, 0)) (have z0_ := NB143_147; have z1_ := BK143; Zao) hb); have n1_ := Aside0.mk (blk_below (g := gb147) (o := .cells #[.int .i64 ((rd_T43 l0_2 x3_2).f0), .int .i64 ((rd_T43 l0_2 x3_2).f1), .string ((rd_T43 l0_2 x3_2).f2), .int .i64 ((rd_T43 l0_2 x3_2).f3)] 43 (0, 0)) (have z0_ := BK147; Zap) hb); have n2_ := Aside0.mk (below_step (have z0_ := GE143; have z1_ := GE147; Zh) hb); clear BK143; clear BK147; clear HB; have BK143 := n0_; have BK147 := n1_; have HB := n2_; clear n0_ n1_ n2_; (try clear hb); (try clear hb2); (try clear hk); (try clear hi)))
            go_ret
            exact ⟨Zk, (have z0_ := GE143; have z1_ := GE147; Zh)⟩
           ·rw [if_neg c29] at H
            have c29b0 : decide (t151 < 0) = false := decide_eq_false c29
            clear c29
            have H' := Aside0.mk H
            clear H
            have hcz36_0 : wr.cell? ⟨gb143, 0, none⟩ = some (.slice A0_0 l0_0.length c0_0) := (blk_cell BK143.out 0).trans rfl
            have hcz36_1 : wr.cell? ⟨gb143, 1, none⟩ = some (.slice A0_1 l0_1.length c0_1) := (blk_cell BK143.out 1).trans rfl
            have hcz36_2 : wr.cell? ⟨gb143, 2, none⟩ = some (.slice A0_2 l0_2.length c0_2) := (blk_cell BK143.out 2).trans rfl
            have hfz36_0 := blk_frozen BK143.out 0
            have hfz36_1 := blk_frozen BK143.out 1
            have hfz36_2 := blk_frozen BK143.out 2
            have p146 : 0 ≤ (x3_2 : Int) := of_decide_eq_true Zp
            have q146 : x3_2 < (l0_2.length : Int) := of_decide_eq_true Zp
            obtain ⟨ad146, e146, hx146_0, hx146_1, hx146_2, hx146_3⟩ := at_T43 HR0_2.out x3_2 p146 q146
            cases e146
            replace hx146_0 := cbH HB hx146_0
            replace hx146_1 := cbH HB hx146_1
            replace hx146_2 := cbH HB hx146_2
            replace hx146_3 := cbH HB hx146_3
            replace p146 := eq_true p146
            replace q146 := eq_true q146
            go_wp2_with (first | ((with_reducible refine gate_dst (N := 4) rfl ?_); (try (refine gate_guard (by rfl) ?_; dsimp only)); refine box_event ?hg (N := 4) ?hd (cs := #[.int .i64 0, .int .i64 0, .string (⟨#[]⟩ : ByteArray), .int .i64 0]) (t := 43) ?hr ?_; (case hd => rfl); (case hg => rfl); (case hr => first | (go_simp; done) | (go_simp; rfl)); intro gb147 hg w37 hbox hb; have n0_ := Aside0.mk (blk_below (g := gb143) (o := .cells #[.slice A0_0 l0_0.length c0_0, .slice A0_1 l0_1.length c0_1, .slice (some ad146) l0_2.length c0_2] 32 (0, 0)) (have z0_ := BK143; Ze) hb); have n1_ := Aside0.mk (below_step (have z0_ := GE143; Zf) hb); have n2_ := Aside0.mk (hbox); have n3_ := Aside0.mk (((have z0_ := GE143; Zg) : w.heap.size ≤ gb147)); have n4_ := Aside0.mk (((have z0_ := GE143; Zg) : w.heap.size ≤ gb147)); have n5_ := Aside0.mk (((have z0_ := BK143; Zam) : gb143 ≠ gb147)); have n6_ := Aside0.mk (((have z0_ := BK143; Zan) : gb147 ≠ gb143)); clear BK143; clear HB; have BK143 := n0_; have HB := n1_; have BK147 := n2_; have GW147 := n3_; have GE147 := n4_; have NB143_147 := n5_; have NB147_143 := n6_; clear n0_ n1_ n2_ n3_ n4_ n5_ n6_; clear hb hbox hg; have hnb38 := NB147_143.out; have hnc38 := NB143_147.out; have hcz39_0 : w37.cell? ⟨gb147, 0, none⟩ = some (.int .i64 0) := (blk_cell BK147.out 0).trans rfl; have hcz39_1 : w37.cell? ⟨gb147, 1, none⟩ = some (.int .i64 0) := (blk_cell BK147.out 1).trans rfl; have hcz39_2 : w37.cell? ⟨gb147, 2, none⟩ = some (.string (⟨#[]⟩ : ByteArray)) := (blk_cell BK147.out 2).trans rfl; have hcz39_3 : w37.cell? ⟨gb147, 3, none⟩ = some (.int .i64 0) := (blk_cell BK147.out 3).trans rfl; have hfz39_0 := blk_frozen BK147.out 0; have hfz39_1 := blk_frozen BK147.out 1; have hfz39_2 := blk_frozen BK147.out 2; have hfz39_3 := blk_frozen BK147.out 3; have hcz40_0 : w37.cell? ⟨gb143, 0, none⟩ = some (.slice A0_0 l0_0.length c0_0) := (blk_cell BK143.out 0).trans rfl; have hcz40_1 : w37.cell? ⟨gb143, 1, none⟩ = some (.slice A0_1 l0_1.length c0_1) := (blk_cell BK143.out 1).trans rfl; have hcz40_2 : w37.cell? ⟨gb143, 2, none⟩ = some (.slice (some ad146) l0_2.length c0_2) := (blk_cell BK143.out 2).trans rfl; have hfz40_0 := blk_frozen BK143.out 0; have hfz40_1 := blk_frozen BK143.out 1; have hfz40_2 := blk_frozen BK143.out 2) | ((with_reducible refine gate_callee (f := 93) rfl ?_); refine goesL_ (some 39) rfl rfl Try.func93 Zj rfl #[.slice A0_0 l0_0.length c0_0, .int .i64 ((rd_T43 l0_2 x3_2).f0), .int .i64 ((rd_T43 l0_2 x3_2).f1)] rfl Zo ?_; (with_reducible refine (spec_l07Has.calls _ _ l0_0 ((rd_T43 l0_2 x3_2).f0) ((rd_T43 l0_2 x3_2).f1) true _ ?side1 ?side2 A17.out).mono ?_); (case side1 => exact Kd.C_below HR0_0.out (have z0_ := GE143; have z1_ := GE147; Zh)); (case side2 => exact HC0_0.out); rintro e w' ⟨rfl, ⟨nd, rfl⟩⟩; refine ⟨_, rfl, ?_⟩) | (go_at_call 94; (with_reducible refine (spec_l03Find.calls k2 _ _ l0_1 ((rd_T43 l0_2 x3_2).f2) t149 _ ?side1 ?side2 A19.out).mono ?_); (case side1 => exact Kd.C_below HR0_1.out (have z0_ := GE143; have z1_ := GE147; Zh)); (case side2 => exact HC0_1.out); rintro e w' ⟨rfl, ⟨nd, rfl⟩⟩) | (go_at_call 68; (with_reducible refine (spec_l01In.calls ((rd_T43 l0_2 x3_2).f3) 0 11 true _ A26.out).mono ?_); rintro e w' ⟨rfl, ⟨nd, rfl⟩⟩) | (go_at_call 95; (with_reducible refine (spec_l08Time.calls k2 _ _ l0_0 _ _ l0_1 _ _ l0_2 ((rd_T43 l0_2 x3_2).f0) ((rd_T43 l0_2 x3_2).f1) ((rd_T43 l0_2 x3_2).f2) ((rd_T43 l0_2 x3_2).f3) t151 _ ?side1 ?side2 ?side3 ?side4 ?side5 ?side6 A28.out).mono ?_); (case side1 => exact Kd.C_below HR0_0.out (have z0_ := GE143; have z1_ := GE147; Zh)); (case side2 => exact HC0_0.out); (case side3 => exact Kd.C_below HR0_1.out (have z0_ := GE143; have z1_ := GE147; Zh)); (case side4 => exact HC0_1.out); (case side5 => exact Kd.C_below HR0_2.out (have z0_ := GE143; have z1_ := GE147; Zh)); (case side6 => exact HC0_2.out); rintro e w41 ⟨rfl, hb⟩; have n0_ := Aside0.mk (blk_below (g := gb143) (o := .cells #[.slice A0_0 l0_0.length c0_0, .slice A0_1 l0_1.length c0_1, .slice (some ad146) l0_2.length c0_2] 32 (0, 0)) (have z0_ := NB143_147; have z1_ := BK143; Zao) hb); have n1_ := Aside0.mk (blk_below (g := gb147) (o := .cells #[.int .i64 ((rd_T43 l0_2 x3_2).f0), .int .i64 ((rd_T43 l0_2 x3_2).f1), .string ((rd_T43 l0_2 x3_2).f2), .int .i64 ((rd_T43 l0_2 x3_2).f3)] 43 (0, 0)) (have z0_ := BK147; Zap) hb); have n2_ := Aside0.mk (below_step (have z0_ := GE143; have z1_ := GE147; Zh) hb); clear BK143; clear BK147; clear HB; have BK143 := n0_; have BK147 := n1_; have HB := n2_; clear n0_ n1_ n2_; (try clear hb); (try clear hb2); (try clear hk); (try clear hi)))
            go_roundg k2
            case measure => have := HJ1.out; have := HK2.out; omega
            case rel => exact ⟨(wrap64 (x3_2 + 1)), Za, H', ⟨by have := HJ1.out; have := HK2.out; omega⟩, ⟨(have z0_ := BK143; Ze)⟩, ⟨(have z0_ := GE143; have z1_ := GE147; Zh)⟩⟩
          ·replace c27 := Bool.eq_false_iff.mpr c27
           subst c27
           have H1 : (some false) = some r := by rw [if_neg (show ¬ (false = true) by decide)] at H; exact H
           clear H
           have H := H1
           clear H1
           obtain rfl := Option.some.inj H
           have hcz42_0 : wr.cell? ⟨gb143, 0, none⟩ = some (.slice A0_0 l0_0.length c0_0) := (blk_cell BK143.out 0).trans rfl
           have hcz42_1 : wr.cell? ⟨gb143, 1, none⟩ = some (.slice A0_1 l0_1.length c0_1) := (blk_cell BK143.out 1).trans rfl
           have hcz42_2 : wr.cell? ⟨gb143, 2, none⟩ = some (.slice A0_2 l0_2.length c0_2) := (blk_cell BK143.out 2).trans rfl
           have hfz42_0 := blk_frozen BK143.out 0
           have hfz42_1 := blk_frozen BK143.out 1
           have hfz42_2 := blk_frozen BK143.out 2
           have p146 : 0 ≤ (x3_2 : Int) := of_decide_eq_true Zp
           have q146 : x3_2 < (l0_2.length : Int) := of_decide_eq_true Zp
           obtain ⟨ad146, e146, hx146_0, hx146_1, hx146_2, hx146_3⟩ := at_T43 HR0_2.out x3_2 p146 q146
           cases e146
           replace hx146_0 := cbH HB hx146_0
           replace hx146_1 := cbH HB hx146_1
           replace hx146_2 := cbH HB hx146_2
           replace hx146_3 := cbH HB hx146_3
           replace p146 := eq_true p146
           replace q146 := eq_true q146
           go_wp2_with (first | ((with_reducible refine gate_dst (N := 4) rfl ?_); (try (refine gate_guard (by rfl) ?_; dsimp only)); refine box_event ?hg (N := 4) ?hd (cs := #[.int .i64 0, .int .i64 0, .string (⟨#[]⟩ : ByteArray), .int .i64 0]) (t := 43) ?hr ?_; (case hd => rfl); (case hg => rfl); (case hr => first | (go_simp; done) | (go_simp; rfl)); intro gb147 hg w43 hbox hb; have n0_ := Aside0.mk (blk_below (g := gb143) (o := .cells #[.slice A0_0 l0_0.length c0_0, .slice A0_1 l0_1.length c0_1, .slice (some ad146) l0_2.length c0_2] 32 (0, 0)) (have z0_ := BK143; Ze) hb); have n1_ := Aside0.mk (below_step (have z0_ := GE143; Zf) hb); have n2_ := Aside0.mk (hbox); have n3_ := Aside0.mk (((have z0_ := GE143; Zg) : w.heap.size ≤ gb147)); have n4_ := Aside0.mk (((have z0_ := GE143; Zg) : w.heap.size ≤ gb147)); have n5_ := Aside0.mk (((have z0_ := BK143; Zam) : gb143 ≠ gb147)); have n6_ := Aside0.mk (((have z0_ := BK143; Zan) : gb147 ≠ gb143)); clear BK143; clear HB; have BK143 := n0_; have HB := n1_; have BK147 := n2_; have GW147 := n3_; have GE147 := n4_; have NB143_147 := n5_; have NB147_143 := n6_; clear n0_ n1_ n2_ n3_ n4_ n5_ n6_; clear hb hbox hg; have hnb44 := NB147_143.out; have hnc44 := NB143_147.out; have hcz45_0 : w43.cell? ⟨gb147, 0, none⟩ = some (.int .i64 0) := (blk_cell BK147.out 0).trans rfl; have hcz45_1 : w43.cell? ⟨gb147, 1, none⟩ = some (.int .i64 0) := (blk_cell BK147.out 1).trans rfl; have hcz45_2 : w43.cell? ⟨gb147, 2, none⟩ = some (.string (⟨#[]⟩ : ByteArray)) := (blk_cell BK147.out 2).trans rfl; have hcz45_3 : w43.cell? ⟨gb147, 3, none⟩ = some (.int .i64 0) := (blk_cell BK147.out 3).trans rfl; have hfz45_0 := blk_frozen BK147.out 0; have hfz45_1 := blk_frozen BK147.out 1; have hfz45_2 := blk_frozen BK147.out 2; have hfz45_3 := blk_frozen BK147.out 3; have hcz46_0 : w43.cell? ⟨gb143, 0, none⟩ = some (.slice A0_0 l0_0.length c0_0) := (blk_cell BK143.out 0).trans rfl; have hcz46_1 : w43.cell? ⟨gb143, 1, none⟩ = some (.slice A0_1 l0_1.length c0_1) := (blk_cell BK143.out 1).trans rfl; have hcz46_2 : w43.cell? ⟨gb143, 2, none⟩ = some (.slice (some ad146) l0_2.length c0_2) := (blk_cell BK143.out 2).trans rfl; have hfz46_0 := blk_frozen BK143.out 0; have hfz46_1 := blk_frozen BK143.out 1; have hfz46_2 := blk_frozen BK143.out 2) | ((with_reducible refine gate_callee (f := 93) rfl ?_); refine goesL_ (some 39) rfl rfl Try.func93 Zj rfl #[.slice A0_0 l0_0.length c0_0, .int .i64 ((rd_T43 l0_2 x3_2).f0), .int .i64 ((rd_T43 l0_2 x3_2).f1)] rfl Zo ?_; (with_reducible refine (spec_l07Has.calls _ _ l0_0 ((rd_T43 l0_2 x3_2).f0) ((rd_T43 l0_2 x3_2).f1) true _ ?side1 ?side2 A17.out).mono ?_); (case side1 => exact Kd.C_below HR0_0.out (have z0_ := GE143; have z1_ := GE147; Zh)); (case side2 => exact HC0_0.out); rintro e w' ⟨rfl, ⟨nd, rfl⟩⟩; refine ⟨_, rfl, ?_⟩) | (go_at_call 94; (with_reducible refine (spec_l03Find.calls k2 _ _ l0_1 ((rd_T43 l0_2 x3_2).f2) t149 _ ?side1 ?side2 A19.out).mono ?_); (case side1 => exact Kd.C_below HR0_1.out (have z0_ := GE143; have z1_ := GE147; Zh)); (case side2 => exact HC0_1.out); rintro e w' ⟨rfl, ⟨nd, rfl⟩⟩) | (go_at_call 68; (with_reducible refine (spec_l01In.calls ((rd_T43 l0_2 x3_2).f3) 0 11 false _ A26.out).mono ?_); rintro e w' ⟨rfl, ⟨nd, rfl⟩⟩))
           go_ret
           exact ⟨Zk, (have z0_ := GE143; have z1_ := GE147; Zh)⟩
        ·replace c18 := Bool.eq_false_iff.mpr c18
         subst c18
         have H1 : (some false) = some r := by rw [if_neg (show ¬ (false = true) by decide)] at H; exact H
         clear H
         have H := H1
         clear H1
         obtain rfl := Option.some.inj H
         have hcz47_0 : wr.cell? ⟨gb143, 0, none⟩ = some (.slice A0_0 l0_0.length c0_0) := (blk_cell BK143.out 0).trans rfl
         have hcz47_1 : wr.cell? ⟨gb143, 1, none⟩ = some (.slice A0_1 l0_1.length c0_1) := (blk_cell BK143.out 1).trans rfl
         have hcz47_2 : wr.cell? ⟨gb143, 2, none⟩ = some (.slice A0_2 l0_2.length c0_2) := (blk_cell BK143.out 2).trans rfl
         have hfz47_0 := blk_frozen BK143.out 0
         have hfz47_1 := blk_frozen BK143.out 1
         have hfz47_2 := blk_frozen BK143.out 2
         have p146 : 0 ≤ (x3_2 : Int) := of_decide_eq_true Zp
         have q146 : x3_2 < (l0_2.length : Int) := of_decide_eq_true Zp
         obtain ⟨ad146, e146, hx146_0, hx146_1, hx146_2, hx146_3⟩ := at_T43 HR0_2.out x3_2 p146 q146
         cases e146
         replace hx146_0 := cbH HB hx146_0
         replace hx146_1 := cbH HB hx146_1
         replace hx146_2 := cbH HB hx146_2
         replace hx146_3 := cbH HB hx146_3
         replace p146 := eq_true p146
         replace q146 := eq_true q146
         go_wp2_with (first | ((with_reducible refine gate_dst (N := 4) rfl ?_); (try (refine gate_guard (by rfl) ?_; dsimp only)); refine box_event ?hg (N := 4) ?hd (cs := #[.int .i64 0, .int .i64 0, .string (⟨#[]⟩ : ByteArray), .int .i64 0]) (t := 43) ?hr ?_; (case hd => rfl); (case hg => rfl); (case hr => first | (go_simp; done) | (go_simp; rfl)); intro gb147 hg w48 hbox hb; have n0_ := Aside0.mk (blk_below (g := gb143) (o := .cells #[.slice A0_0 l0_0.length c0_0, .slice A0_1 l0_1.length c0_1, .slice (some ad146) l0_2.length c0_2] 32 (0, 0)) (have z0_ := BK143; Ze) hb); have n1_ := Aside0.mk (below_step (have z0_ := GE143; Zf) hb); have n2_ := Aside0.mk (hbox); have n3_ := Aside0.mk (((have z0_ := GE143; Zg) : w.heap.size ≤ gb147)); have n4_ := Aside0.mk (((have z0_ := GE143; Zg) : w.heap.size ≤ gb147)); have n5_ := Aside0.mk (((have z0_ := BK143; Zam) : gb143 ≠ gb147)); have n6_ := Aside0.mk (((have z0_ := BK143; Zan) : gb147 ≠ gb143)); clear BK143; clear HB; have BK143 := n0_; have HB := n1_; have BK147 := n2_; have GW147 := n3_; have GE147 := n4_; have NB143_147 := n5_; have NB147_143 := n6_; clear n0_ n1_ n2_ n3_ n4_ n5_ n6_; clear hb hbox hg; have hnb49 := NB147_143.out; have hnc49 := NB143_147.out; have hcz50_0 : w48.cell? ⟨gb147, 0, none⟩ = some (.int .i64 0) := (blk_cell BK147.out 0).trans rfl; have hcz50_1 : w48.cell? ⟨gb147, 1, none⟩ = some (.int .i64 0) := (blk_cell BK147.out 1).trans rfl; have hcz50_2 : w48.cell? ⟨gb147, 2, none⟩ = some (.string (⟨#[]⟩ : ByteArray)) := (blk_cell BK147.out 2).trans rfl; have hcz50_3 : w48.cell? ⟨gb147, 3, none⟩ = some (.int .i64 0) := (blk_cell BK147.out 3).trans rfl; have hfz50_0 := blk_frozen BK147.out 0; have hfz50_1 := blk_frozen BK147.out 1; have hfz50_2 := blk_frozen BK147.out 2; have hfz50_3 := blk_frozen BK147.out 3; have hcz51_0 : w48.cell? ⟨gb143, 0, none⟩ = some (.slice A0_0 l0_0.length c0_0) := (blk_cell BK143.out 0).trans rfl; have hcz51_1 : w48.cell? ⟨gb143, 1, none⟩ = some (.slice A0_1 l0_1.length c0_1) := (blk_cell BK143.out 1).trans rfl; have hcz51_2 : w48.cell? ⟨gb143, 2, none⟩ = some (.slice (some ad146) l0_2.length c0_2) := (blk_cell BK143.out 2).trans rfl; have hfz51_0 := blk_frozen BK143.out 0; have hfz51_1 := blk_frozen BK143.out 1; have hfz51_2 := blk_frozen BK143.out 2) | ((with_reducible refine gate_callee (f := 93) rfl ?_); refine goesL_ (some 39) rfl rfl Try.func93 Zj rfl #[.slice A0_0 l0_0.length c0_0, .int .i64 ((rd_T43 l0_2 x3_2).f0), .int .i64 ((rd_T43 l0_2 x3_2).f1)] rfl Zo ?_; (with_reducible refine (spec_l07Has.calls _ _ l0_0 ((rd_T43 l0_2 x3_2).f0) ((rd_T43 l0_2 x3_2).f1) false _ ?side1 ?side2 A17.out).mono ?_); (case side1 => exact Kd.C_below HR0_0.out (have z0_ := GE143; have z1_ := GE147; Zh)); (case side2 => exact HC0_0.out); rintro e w' ⟨rfl, ⟨nd, rfl⟩⟩; refine ⟨_, rfl, ?_⟩))
         go_ret
         exact ⟨Zk, (have z0_ := GE143; have z1_ := GE147; Zh)⟩
       ·rw [if_neg c16] at H
        exact absurd H (by simp)
      ·rw [if_neg c15] at H
       have c15b0 : decide (x3_2 < (l0_2.length : Int)) = false := decide_eq_false c15
       clear c15
       obtain rfl := Option.some.inj H
       have hcz52_0 : wr.cell? ⟨gb143, 0, none⟩ = some (.slice A0_0 l0_0.length c0_0) := (blk_cell BK143.out 0).trans rfl
       have hcz52_1 : wr.cell? ⟨gb143, 1, none⟩ = some (.slice A0_1 l0_1.length c0_1) := (blk_cell BK143.out 1).trans rfl
       have hcz52_2 : wr.cell? ⟨gb143, 2, none⟩ = some (.slice A0_2 l0_2.length c0_2) := (blk_cell BK143.out 2).trans rfl
       have hfz52_0 := blk_frozen BK143.out 0
       have hfz52_1 := blk_frozen BK143.out 1
       have hfz52_2 := blk_frozen BK143.out 2
       go_wp2
       go_ret
       exact ⟨Zk, (have z0_ := GE143; Zf)⟩
end Go.Proofs.Ytnlbaflbhicooaa.F
namespace Go.Proofs.Ytnlbaflbhicooaa.F
open Go.RowKit Go.Proofs.YtnlbaflbhicooaaW.PrintWords Go.Proofs.YtnlbaflbhicooaaW.PrintLast Go.Proofs.YtnlbaflbhicooaaW.PrintMore
attribute [local go_sem] max2_int min2_int max_two min_two max_three min_three max_four min_four   -- for this text's walks alone
set_option linter.unusedVariables false
set_option linter.unusedSimpArgs false
def impl_within.f (a0 : Int) (a1 : Int) (a2 : Int) : Option (Bool) := if a1 ≤ a0 then (some (decide (a0 ≤ a2))) else (some false)
set_option maxHeartbeats 8000000 in
set_option maxRecDepth 100000 in
theorem impl_within.calls (a0 : Int) (a1 : Int) (a2 : Int) (r : Bool) (w : World) (h : impl_within.f a0 a1 a2 = some r) :
  Calls Try.prog 89 #[.int .i64 a0, .int .i64 a1, .int .i64 a2] w fun e w' => e = .returned (.bool r) ∧ Drawn0 w w' := by
 have H : (if a1 ≤ a0 then (some (decide (a0 ≤ a2))) else (some false)) = some r := h
 clear h
 by_cases c4 : a1 ≤ a0
 ·rw [if_pos c4] at H
  have c4b0 : decide (a1 ≤ a0) = true := decide_eq_true c4
  clear c4
  obtain rfl := Option.some.inj H
  go_enter Try.func89, Try.ntmps89
  go_wp2
  go_ret
  exact ⟨Za, Zb⟩
 ·rw [if_neg c4] at H
  have c4b0 : decide (a1 ≤ a0) = false := decide_eq_false c4
  clear c4
  obtain rfl := Option.some.inj H
  go_enter Try.func89, Try.ntmps89
  go_wp2
  go_ret
  exact ⟨Za, Zb⟩
end Go.Proofs.Ytnlbaflbhicooaa.F
namespace Go.Proofs.Ytnlbaflbhicooaa.F
open Go.RowKit Go.Proofs.YtnlbaflbhicooaaW.PrintWords Go.Proofs.YtnlbaflbhicooaaW.PrintLast Go.Proofs.YtnlbaflbhicooaaW.PrintMore
attribute [local go_sem] max2_int min2_int max_two min_two max_three min_three max_four min_four   -- for this text's walks alone
set_option linter.unusedVariables false
set_option linter.unusedSimpArgs false
mutual
def impl_IsScore.j0 : Nat → List (S108) → Bool → Option (Bool)
 | 0, _, _ => none
 | k + 1, x0, x12 => if x12 = true then (some false) else (impl_IsScore.l0 k x0 (x0.length : Int) 0)
def impl_IsScore.l0 : Nat → List (S108) → Int → Int → Option (Bool)
 | 0, _, _, _ => none
 | k + 1, x13, x14, x15 => if x15 < x14 then (if 0 ≤ x15 then (if x15 < (x13.length : Int) then ((impl_within.f ((rd_T108 x13 x15).f0) 1 16).bind fun t288 => (if t288 = true then ((impl_within.f ((rd_T108 x13 x15).f1) 100 5000).bind fun t289 => (if t289 = true then (impl_IsScore.l0 k x13 x14 (wrap64 (x15 + 1))) else (some false))) else (some false))) else (none)) else (none)) else (some true)
end
def impl_IsScore.f (k : Nat) (l0 : List (S108)) : Option (Bool) := if (l0.length : Int) < 1 then (impl_IsScore.j0 k l0 true) else (impl_IsScore.j0 k l0 (decide ((l0.length : Int) > 20)))
set_option maxHeartbeats 8000000 in
set_option maxRecDepth 100000 in
theorem impl_IsScore.calls (k : Nat) (A0 : Option Addr) (c0 : Nat) (l0 : List (S108)) (r : Bool) (w : World) (hr0 : Kd.C k108 w A0 l0.length l0) (hc0 : l0.length ≤ c0) (h : impl_IsScore.f k l0 = some r) :
  Calls Try.prog 96 #[.slice A0 l0.length c0] w fun e w' => e = .returned (.bool r) ∧ Below w.heap.size w w' := by
 have hu108 := Try.underlying108
 have HR0 := Aside0.mk hr0
 have HC0 := Aside0.mk hc0
 clear hr0 hc0
 have HB := Aside0.mk (Below.refl w.heap.size w)
 have H : (if (l0.length : Int) < 1 then (impl_IsScore.j0 k l0 true) else (impl_IsScore.j0 k l0 (decide ((l0.length : Int) > 20)))) = some r := h
 clear h
 have HC2 := Aside0.mk H
 clear H
 go_enter Try.func96, Try.ntmps96
 go_upto_region 1 with (fail)
 go_cut [12] (fun v12 wc => ∃ (kq : Nat) (x12_1 : Bool), v12 = .bool x12_1 ∧ Aside0 (impl_IsScore.j0 kq l0 x12_1 = some r) ∧ Aside0 (kq ≤ k) ∧ Aside0 (Below w.heap.size w wc))
 case first =>
  have H := HC2.out
  clear HC2
  by_cases c3 : (l0.length : Int) < 1
  ·rw [if_pos c3] at H
   have c3b0 : decide ((l0.length : Int) < 1) = true := decide_eq_true c3
   have c3b1 : decide (l0.length < 1) = true := decide_eq_true (by omega)
   clear c3
   (first | rw [c3b0] | (simp only [i64_w, i32_w]; rw [c3b0]) | skip)
   have H' := Aside0.mk H
   clear H
   go_wp2
   go_meet
   case rel => exact ⟨_, (true), Za, H', ⟨Zm⟩, ⟨Zc⟩⟩
  ·rw [if_neg c3] at H
   have c3b0 : decide ((l0.length : Int) < 1) = false := decide_eq_false c3
   have c3b1 : decide (l0.length < 1) = false := decide_eq_false (by omega)
   clear c3
   (first | rw [c3b0] | (simp only [i64_w, i32_w]; rw [c3b0]) | skip)
   have H' := Aside0.mk H
   clear H
   go_wp2
   go_meet
   case rel => exact ⟨_, (decide ((l0.length : Int) > 20)), Za, H', ⟨Zm⟩, ⟨Zc⟩⟩
 case rest =>
  clear HC2
  try clear p2
  try clear c3
  try clear c3b0
  try clear c3b1
  obtain ⟨kq, x12_1, rfl, HA, HJ1, HB⟩ := hcut
  cases kq with
  | zero => exact absurd HA.out (by simp [impl_IsScore.j0])
  | succ kj1 =>
   have H := HA.out
   clear HA
   simp only [impl_IsScore.j0] at H
   by_cases c4 : x12_1 = true
   ·subst c4
    have H1 : (some false) = some r := by rw [if_pos rfl] at H; exact H
    clear H
    have H := H1
    clear H1
    obtain rfl := Option.some.inj H
    go_wp2
    go_ret
    exact ⟨Zk, Zc⟩
   ·replace c4 := Bool.eq_false_iff.mpr c4
    subst c4
    have H1 : (impl_IsScore.l0 kj1 l0 (l0.length : Int) 0) = some r := by rw [if_neg (show ¬ (false = true) by decide)] at H; exact H
    clear H
    have H := H1
    clear H1
    have H' := Aside0.mk H
    clear H
    go_wp2
    go_loopg [15] kj1 (fun kq v15 w' => ∃ (x15_2 : Int), v15 = .int .i64 x15_2 ∧ Aside0 (impl_IsScore.l0 kq l0 (l0.length : Int) x15_2 = some r) ∧ Aside0 (kq ≤ kj1) ∧ Aside0 (Below w.heap.size w w'))
    case atStart => exact ⟨(0), Za, H', ⟨Nat.le_refl _⟩, ⟨Zc⟩⟩
    case round =>
     clear H'
     try clear p2
     try clear c3
     try clear c3b0
     try clear c3b1
     try clear c4
     try clear p2
     obtain ⟨x15_2, rfl, HA, HK2, HB⟩ := hrel
     cases gk with
     | zero => exact absurd HA.out (by simp [impl_IsScore.l0])
     | succ k2 =>
      have H := HA.out
      clear HA
      simp only [impl_IsScore.l0] at H
      by_cases c5 : x15_2 < (l0.length : Int)
      ·rw [if_pos c5] at H
       have c5b0 : decide (x15_2 < (l0.length : Int)) = true := decide_eq_true c5
       clear c5
       by_cases c6 : 0 ≤ x15_2
       ·rw [if_pos c6] at H
        have c6b0 : decide (0 ≤ x15_2) = true := decide_eq_true c6
        clear c6
        by_cases c7 : x15_2 < (l0.length : Int)
        ·rw [if_pos c7] at H
         have c7b0 : decide (x15_2 < (l0.length : Int)) = true := decide_eq_true c7
         clear c7
         replace H := Option.bind_eq_some_iff.mp H
         obtain ⟨t288, A80, H⟩ := H
         replace H : (if t288 = true then ((impl_within.f ((rd_T108 l0 x15_2).f1) 100 5000).bind fun t289 => (if t289 = true then (impl_IsScore.l0 k2 l0 (l0.length : Int) (wrap64 (x15_2 + 1))) else (some false))) else (some false)) = some r := H
         have A8 := Aside0.mk A80
         clear A80
         by_cases c9 : t288 = true
         ·subst c9
          have H1 : ((impl_within.f ((rd_T108 l0 x15_2).f1) 100 5000).bind fun t289 => (if t289 = true then (impl_IsScore.l0 k2 l0 (l0.length : Int) (wrap64 (x15_2 + 1))) else (some false))) = some r := by rw [if_pos rfl] at H; exact H
          clear H
          have H := H1
          clear H1
          replace H := Option.bind_eq_some_iff.mp H
          obtain ⟨t289, A100, H⟩ := H
          replace H : (if t289 = true then (impl_IsScore.l0 k2 l0 (l0.length : Int) (wrap64 (x15_2 + 1))) else (some false)) = some r := H
          have A10 := Aside0.mk A100
          clear A100
          by_cases c11 : t289 = true
          ·subst c11
           have H1 : (impl_IsScore.l0 k2 l0 (l0.length : Int) (wrap64 (x15_2 + 1))) = some r := by rw [if_pos rfl] at H; exact H
           clear H
           have H := H1
           clear H1
           have H' := Aside0.mk H
           clear H
           have p286 : 0 ≤ (x15_2 : Int) := of_decide_eq_true Zp
           have q286 : x15_2 < (l0.length : Int) := of_decide_eq_true Zp
           obtain ⟨ad286, e286, hx286_0, hx286_1⟩ := at_T108 HR0.out x15_2 p286 q286
           cases e286
           replace hx286_0 := cbH HB hx286_0
           replace hx286_1 := cbH HB hx286_1
           replace p286 := eq_true p286
           replace q286 := eq_true q286
           go_wp2_with (first | ((with_reducible refine gate_dst (N := 4) rfl ?_); (try (refine gate_guard (by rfl) ?_; dsimp only)); refine box_event ?hg (N := 4) ?hd (cs := #[.int .i64 0, .int .i64 0]) (t := 108) ?hr ?_; (case hd => rfl); (case hg => rfl); (case hr => first | (go_simp; done) | (go_simp; rfl)); intro gb287 hg w12 hbox hb; have n0_ := Aside0.mk (below_step Zc hb); have n1_ := Aside0.mk (hbox); have n2_ := Aside0.mk ((Zd : w.heap.size ≤ gb287)); have n3_ := Aside0.mk ((Zd : w.heap.size ≤ gb287)); clear HB; have HB := n0_; have BK287 := n1_; have GW287 := n2_; have GE287 := n3_; clear n0_ n1_ n2_ n3_; clear hb hbox hg; have hcz13_0 : w12.cell? ⟨gb287, 0, none⟩ = some (.int .i64 0) := (blk_cell BK287.out 0).trans rfl; have hcz13_1 : w12.cell? ⟨gb287, 1, none⟩ = some (.int .i64 0) := (blk_cell BK287.out 1).trans rfl; have hfz13_0 := blk_frozen BK287.out 0; have hfz13_1 := blk_frozen BK287.out 1) | ((with_reducible refine gate_callee (f := 89) rfl ?_); refine goesL_ (some 21) rfl rfl Try.func89 Zj rfl #[.int .i64 ((rd_T108 l0 x15_2).f0), .int .i64 1, .int .i64 16] rfl Zo ?_; (with_reducible refine (impl_within.calls ((rd_T108 l0 x15_2).f0) 1 16 true _ A8.out).mono ?_); rintro e w' ⟨rfl, ⟨nd, rfl⟩⟩; refine ⟨_, rfl, ?_⟩) | (go_at_call 89; (with_reducible refine (impl_within.calls ((rd_T108 l0 x15_2).f1) 100 5000 true _ A10.out).mono ?_); rintro e w' ⟨rfl, ⟨nd, rfl⟩⟩))
           go_roundg k2
           case measure => have := HJ1.out; have := HK2.out; omega
           case rel => exact ⟨(wrap64 (x15_2 + 1)), Za, H', ⟨by have := HJ1.out; have := HK2.out; omega⟩, ⟨(have z0_ := GE287; Zf)⟩⟩
          ·replace c11 := Bool.eq_false_iff.mpr c11
           subst c11
           have H1 : (some false) = some r := by rw [if_neg (show ¬ (false = true) by decide)] at H; exact H
           clear H
           have H := H1
           clear H1
           obtain rfl := Option.some.inj H
           have p286 : 0 ≤ (x15_2 : Int) := of_decide_eq_true Zp
           have q286 : x15_2 < (l0.length : Int) := of_decide_eq_true Zp
           obtain ⟨ad286, e286, hx286_0, hx286_1⟩ := at_T108 HR0.out x15_2 p286 q286
           cases e286
           replace hx286_0 := cbH HB hx286_0
           replace hx286_1 := cbH HB hx286_1
           replace p286 := eq_true p286
           replace q286 := eq_true q286
           go_wp2_with (first | ((with_reducible refine gate_dst (N := 4) rfl ?_); (try (refine gate_guard (by rfl) ?_; dsimp only)); refine box_event ?hg (N := 4) ?hd (cs := #[.int .i64 0, .int .i64 0]) (t := 108) ?hr ?_; (case hd => rfl); (case hg => rfl); (case hr => first | (go_simp; done) | (go_simp; rfl)); intro gb287 hg w14 hbox hb; have n0_ := Aside0.mk (below_step Zc hb); have n1_ := Aside0.mk (hbox); have n2_ := Aside0.mk ((Zd : w.heap.size ≤ gb287)); have n3_ := Aside0.mk ((Zd : w.heap.size ≤ gb287)); clear HB; have HB := n0_; have BK287 := n1_; have GW287 := n2_; have GE287 := n3_; clear n0_ n1_ n2_ n3_; clear hb hbox hg; have hcz15_0 : w14.cell? ⟨gb287, 0, none⟩ = some (.int .i64 0) := (blk_cell BK287.out 0).trans rfl; have hcz15_1 : w14.cell? ⟨gb287, 1, none⟩ = some (.int .i64 0) := (blk_cell BK287.out 1).trans rfl; have hfz15_0 := blk_frozen BK287.out 0; have hfz15_1 := blk_frozen BK287.out 1) | ((with_reducible refine gate_callee (f := 89) rfl ?_); refine goesL_ (some 21) rfl rfl Try.func89 Zj rfl #[.int .i64 ((rd_T108 l0 x15_2).f0), .int .i64 1, .int .i64 16] rfl Zo ?_; (with_reducible refine (impl_within.calls ((rd_T108 l0 x15_2).f0) 1 16 true _ A8.out).mono ?_); rintro e w' ⟨rfl, ⟨nd, rfl⟩⟩; refine ⟨_, rfl, ?_⟩) | (go_at_call 89; (with_reducible refine (impl_within.calls ((rd_T108 l0 x15_2).f1) 100 5000 false _ A10.out).mono ?_); rintro e w' ⟨rfl, ⟨nd, rfl⟩⟩))
           go_ret
           exact ⟨Zk, (have z0_ := GE287; Zf)⟩
         ·replace c9 := Bool.eq_false_iff.mpr c9
          subst c9
          have H1 : (some false) = some r := by rw [if_neg (show ¬ (false = true) by decide)] at H; exact H
          clear H
          have H := H1
          clear H1
          obtain rfl := Option.some.inj H
          have p286 : 0 ≤ (x15_2 : Int) := of_decide_eq_true Zp
          have q286 : x15_2 < (l0.length : Int) := of_decide_eq_true Zp
          obtain ⟨ad286, e286, hx286_0, hx286_1⟩ := at_T108 HR0.out x15_2 p286 q286
          cases e286
          replace hx286_0 := cbH HB hx286_0
          replace hx286_1 := cbH HB hx286_1
          replace p286 := eq_true p286
          replace q286 := eq_true q286
          go_wp2_with (first | ((with_reducible refine gate_dst (N := 4) rfl ?_); (try (refine gate_guard (by rfl) ?_; dsimp only)); refine box_event ?hg (N := 4) ?hd (cs := #[.int .i64 0, .int .i64 0]) (t := 108) ?hr ?_; (case hd => rfl); (case hg => rfl); (case hr => first | (go_simp; done) | (go_simp; rfl)); intro gb287 hg w16 hbox hb; have n0_ := Aside0.mk (below_step Zc hb); have n1_ := Aside0.mk (hbox); have n2_ := Aside0.mk ((Zd : w.heap.size ≤ gb287)); have n3_ := Aside0.mk ((Zd : w.heap.size ≤ gb287)); clear HB; have HB := n0_; have BK287 := n1_; have GW287 := n2_; have GE287 := n3_; clear n0_ n1_ n2_ n3_; clear hb hbox hg; have hcz17_0 : w16.cell? ⟨gb287, 0, none⟩ = some (.int .i64 0) := (blk_cell BK287.out 0).trans rfl; have hcz17_1 : w16.cell? ⟨gb287, 1, none⟩ = some (.int .i64 0) := (blk_cell BK287.out 1).trans rfl; have hfz17_0 := blk_frozen BK287.out 0; have hfz17_1 := blk_frozen BK287.out 1) | ((with_reducible refine gate_callee (f := 89) rfl ?_); refine goesL_ (some 21) rfl rfl Try.func89 Zj rfl #[.int .i64 ((rd_T108 l0 x15_2).f0), .int .i64 1, .int .i64 16] rfl Zo ?_; (with_reducible refine (impl_within.calls ((rd_T108 l0 x15_2).f0) 1 16 false _ A8.out).mono ?_); rintro e w' ⟨rfl, ⟨nd, rfl⟩⟩; refine ⟨_, rfl, ?_⟩))
          go_ret
          exact ⟨Zk, (have z0_ := GE287; Zf)⟩
        ·rw [if_neg c7] at H
         exact absurd H (by simp)
       ·rw [if_neg c6] at H
        exact absurd H (by simp)
      ·rw [if_neg c5] at H
       have c5b0 : decide (x15_2 < (l0.length : Int)) = false := decide_eq_false c5
       clear c5
       obtain rfl := Option.some.inj H
       go_wp2
       go_ret
       exact ⟨Zk, Zc⟩
end Go.Proofs.Ytnlbaflbhicooaa.F
namespace Go.Proofs.Ytnlbaflbhicooaa.F
open Go.RowKit Go.Proofs.YtnlbaflbhicooaaW.PrintWords Go.Proofs.YtnlbaflbhicooaaW.PrintLast Go.Proofs.YtnlbaflbhicooaaW.PrintMore
attribute [local go_sem] max2_int min2_int max_two min_two max_three min_three max_four min_four   -- for this text's walks alone
set_option linter.unusedVariables false
set_option linter.unusedSimpArgs false
mutual
def impl_IsWord.j0 : Nat → ByteArray → Bool → Option (Bool)
 | 0, _, _ => none
 | k + 1, x0, x11 => if x11 = true then (some false) else (impl_IsWord.l0 k x0 0)
def impl_IsWord.l0 : Nat → ByteArray → Int → Option (Bool)
 | 0, _, _ => none
 | k + 1, x0, x3 => if x3 < (x0.size : Int) then (if 0 ≤ x3 then (if (bt x0 x3) < 97 then (some false) else (if (bt x0 x3) > 122 then (some false) else (impl_IsWord.l0 k x0 (wrap64 (x3 + 1))))) else (none)) else (some true)
end
def impl_IsWord.f (k : Nat) (a0 : ByteArray) : Option (Bool) := if (a0.size : Int) < 1 then (impl_IsWord.j0 k a0 true) else (impl_IsWord.j0 k a0 (decide ((a0.size : Int) > 16)))
set_option maxHeartbeats 8000000 in
set_option maxRecDepth 100000 in
theorem impl_IsWord.calls (k : Nat) (a0 : ByteArray) (r : Bool) (w : World) (h : impl_IsWord.f k a0 = some r) :
  Calls Try.prog 135 #[.string a0] w fun e w' => e = .returned (.bool r) ∧ Drawn0 w w' := by
 have H : (if (a0.size : Int) < 1 then (impl_IsWord.j0 k a0 true) else (impl_IsWord.j0 k a0 (decide ((a0.size : Int) > 16)))) = some r := h
 clear h
 have HC2 := Aside0.mk H
 clear H
 go_enter Try.func135, Try.ntmps135
 go_upto_region 1 with (fail)
 go_cut [11] (fun v11 wc => ∃ (kq : Nat) (x11_1 : Bool), v11 = .bool x11_1 ∧ Aside0 (impl_IsWord.j0 kq a0 x11_1 = some r) ∧ Aside0 (kq ≤ k) ∧ Drawn0 w wc)
 case first =>
  have H := HC2.out
  clear HC2
  by_cases c3 : (a0.size : Int) < 1
  ·rw [if_pos c3] at H
   have c3b0 : decide ((a0.size : Int) < 1) = true := decide_eq_true c3
   have c3b1 : decide (a0.size < 1) = true := decide_eq_true (by omega)
   clear c3
   (first | rw [c3b0] | (simp only [i64_w, i32_w]; rw [c3b0]) | skip)
   have H' := Aside0.mk H
   clear H
   go_wp2
   go_meet
   case rel => exact ⟨_, (true), Za, H', ⟨Zm⟩, Zb⟩
  ·rw [if_neg c3] at H
   have c3b0 : decide ((a0.size : Int) < 1) = false := decide_eq_false c3
   have c3b1 : decide (a0.size < 1) = false := decide_eq_false (by omega)
   clear c3
   (first | rw [c3b0] | (simp only [i64_w, i32_w]; rw [c3b0]) | skip)
   have H' := Aside0.mk H
   clear H
   go_wp2
   go_meet
   case rel => exact ⟨_, (decide ((a0.size : Int) > 16)), Za, H', ⟨Zm⟩, Zb⟩
 case rest =>
  clear HC2
  try clear c1
  try clear p2
  try clear c3
  try clear c3b0
  try clear c3b1
  obtain ⟨kq, x11_1, rfl, HA, HJ1, ⟨mc1, rfl⟩⟩ := hcut
  cases kq with
  | zero => exact absurd HA.out (by simp [impl_IsWord.j0])
  | succ kj1 =>
   have H := HA.out
   clear HA
   simp only [impl_IsWord.j0] at H
   by_cases c4 : x11_1 = true
   ·subst c4
    have H1 : (some false) = some r := by rw [if_pos rfl] at H; exact H
    clear H
    have H := H1
    clear H1
    obtain rfl := Option.some.inj H
    go_wp2
    go_ret
    exact ⟨Za, Zb⟩
   ·replace c4 := Bool.eq_false_iff.mpr c4
    subst c4
    have H1 : (impl_IsWord.l0 kj1 a0 0) = some r := by rw [if_neg (show ¬ (false = true) by decide)] at H; exact H
    clear H
    have H := H1
    clear H1
    have H' := Aside0.mk H
    clear H
    go_wp2
    go_loopg [3] kj1 (fun kq v3 w' => ∃ (x3_2 : Int), v3 = .int .i64 x3_2 ∧ Aside0 (impl_IsWord.l0 kq a0 x3_2 = some r) ∧ Aside0 (kq ≤ kj1) ∧ Drawn0 w w')
    case atStart => exact ⟨(0), Za, H', ⟨Nat.le_refl _⟩, Zb⟩
    case round =>
     clear H'
     try clear c1
     try clear p2
     try clear c3
     try clear c3b0
     try clear c3b1
     try clear c4
     try clear p2
     obtain ⟨x3_2, rfl, HA, HK2, ⟨m2, rfl⟩⟩ := hrel
     cases gk with
     | zero => exact absurd HA.out (by simp [impl_IsWord.l0])
     | succ k2 =>
      have H := HA.out
      clear HA
      simp only [impl_IsWord.l0] at H
      by_cases c5 : x3_2 < (a0.size : Int)
      ·rw [if_pos c5] at H
       have c5b0 : decide (x3_2 < (a0.size : Int)) = true := decide_eq_true c5
       clear c5
       by_cases c6 : 0 ≤ x3_2
       ·rw [if_pos c6] at H
        have c6b0 : decide (0 ≤ x3_2) = true := decide_eq_true c6
        clear c6
        by_cases c8 : (bt a0 x3_2) < 97
        ·rw [if_pos c8] at H
         have c8b0 : decide ((bt a0 x3_2) < 97) = true := decide_eq_true c8
         clear c8
         obtain rfl := Option.some.inj H
         have p7 : 0 ≤ (x3_2 : Int) := of_decide_eq_true Zp
         have q7 : x3_2 < (a0.size : Int) := of_decide_eq_true Zp
         have hx7 := bt_at a0 x3_2
         replace p7 := eq_true p7
         replace q7 := eq_true q7
         go_wp2
         go_ret
         exact ⟨Za, Zb⟩
        ·rw [if_neg c8] at H
         have c8b0 : decide ((bt a0 x3_2) < 97) = false := decide_eq_false c8
         clear c8
         by_cases c10 : (bt a0 x3_2) > 122
         ·rw [if_pos c10] at H
          have c10b0 : decide (122 < (bt a0 x3_2)) = true := decide_eq_true c10
          clear c10
          obtain rfl := Option.some.inj H
          have p7 : 0 ≤ (x3_2 : Int) := of_decide_eq_true Zp
          have q7 : x3_2 < (a0.size : Int) := of_decide_eq_true Zp
          have hx7 := bt_at a0 x3_2
          replace p7 := eq_true p7
          replace q7 := eq_true q7
          have p9 : 0 ≤ (x3_2 : Int) := of_decide_eq_true Zp
          have q9 : x3_2 < (a0.size : Int) := of_decide_eq_true Zp
          have hx9 := bt_at a0 x3_2
          replace p9 := eq_true p9
          replace q9 := eq_true q9
          go_wp2
          go_ret
          exact ⟨Za, Zb⟩
         ·rw [if_neg c10] at H
          have c10b0 : decide (122 < (bt a0 x3_2)) = false := decide_eq_false c10
          clear c10
          have H' := Aside0.mk H
          clear H
          have p7 : 0 ≤ (x3_2 : Int) := of_decide_eq_true Zp
          have q7 : x3_2 < (a0.size : Int) := of_decide_eq_true Zp
          have hx7 := bt_at a0 x3_2
          replace p7 := eq_true p7
          replace q7 := eq_true q7
          have p9 : 0 ≤ (x3_2 : Int) := of_decide_eq_true Zp
          have q9 : x3_2 < (a0.size : Int) := of_decide_eq_true Zp
          have hx9 := bt_at a0 x3_2
          replace p9 := eq_true p9
          replace q9 := eq_true q9
          go_wp2
          go_roundg k2
          case measure => have := HJ1.out; have := HK2.out; omega
          case rel => exact ⟨(wrap64 (x3_2 + 1)), Za, H', ⟨by have := HJ1.out; have := HK2.out; omega⟩, Zb⟩
       ·rw [if_neg c6] at H
        exact absurd H (by simp)
      ·rw [if_neg c5] at H
       have c5b0 : decide (x3_2 < (a0.size : Int)) = false := decide_eq_false c5
       clear c5
       obtain rfl := Option.some.inj H
       go_wp2
       go_ret
       exact ⟨Za, Zb⟩
end Go.Proofs.Ytnlbaflbhicooaa.F
namespace Go.Proofs.Ytnlbaflbhicooaa.F
open Go.RowKit Go.Proofs.YtnlbaflbhicooaaW.PrintWords Go.Proofs.YtnlbaflbhicooaaW.PrintLast Go.Proofs.YtnlbaflbhicooaaW.PrintMore
attribute [local go_sem] max2_int min2_int max_two min_two max_three min_three max_four min_four   -- for this text's walks alone
set_option linter.unusedVariables false
set_option linter.unusedSimpArgs false
def impl_IsArticle.f (k : Nat) (a0_0 : ByteArray) (a0_1 : Int) (a0_2 : Int) (a0_3 : Int) (a0_4 : Int) (a0_5 : Int) (a0_6 : Int) (a0_7 : Int) (a0_8 : Int) : Option (Bool) := (impl_IsWord.f k a0_0).bind fun t291 => (if t291 = true then ((impl_within.f a0_1 0 3).bind fun t292 => (if t292 = true then ((impl_within.f a0_2 20 300).bind fun t293 => (if t293 = true then ((impl_within.f a0_3 0 10000).bind fun t294 => (if t294 = true then ((impl_within.f a0_4 0 a0_3).bind fun t295 => (if t295 = true then ((impl_within.f a0_5 1 50).bind fun t296 => (if t296 = true then ((impl_within.f a0_6 0 10000).bind fun t297 => (if t297 = true then ((impl_within.f a0_7 1 100000).bind fun t298 => (if t298 = true then ((impl_within.f a0_8 0 3).bind fun t299 => (some t299)) else (some false))) else (some false))) else (some false))) else (some false))) else (some false))) else (some false))) else (some false))) else (some false))
set_option maxHeartbeats 8000000 in
set_option maxRecDepth 100000 in
theorem impl_IsArticle.calls (k : Nat) (a0_0 : ByteArray) (a0_1 : Int) (a0_2 : Int) (a0_3 : Int) (a0_4 : Int) (a0_5 : Int) (a0_6 : Int) (a0_7 : Int) (a0_8 : Int) (r : Bool) (w : World) (h : impl_IsArticle.f k a0_0 a0_1 a0_2 a0_3 a0_4 a0_5 a0_6 a0_7 a0_8 = some r) :
  Calls Try.prog 129 #[.agg #[.string a0_0, .int .i64 a0_1, .int .i64 a0_2, .int .i64 a0_3, .int .i64 a0_4, .int .i64 a0_5, .int .i64 a0_6, .int .i64 a0_7, .int .i64 a0_8]] w fun e w' => e = .returned (.bool r) ∧ Below w.heap.size w w' := by
 have hu92 := Try.underlying92
 have HB := Aside0.mk (Below.refl w.heap.size w)
 have H : ((impl_IsWord.f k a0_0).bind fun t291 => (if t291 = true then ((impl_within.f a0_1 0 3).bind fun t292 => (if t292 = true then ((impl_within.f a0_2 20 300).bind fun t293 => (if t293 = true then ((impl_within.f a0_3 0 10000).bind fun t294 => (if t294 = true then ((impl_within.f a0_4 0 a0_3).bind fun t295 => (if t295 = true then ((impl_within.f a0_5 1 50).bind fun t296 => (if t296 = true then ((impl_within.f a0_6 0 10000).bind fun t297 => (if t297 = true then ((impl_within.f a0_7 1 100000).bind fun t298 => (if t298 = true then ((impl_within.f a0_8 0 3).bind fun t299 => (some t299)) else (some false))) else (some false))) else (some false))) else (some false))) else (some false))) else (some false))) else (some false))) else (some false))) = some r := h
 clear h
 replace H := Option.bind_eq_some_iff.mp H
 obtain ⟨t291, A20, H⟩ := H
 replace H : (if t291 = true then ((impl_within.f a0_1 0 3).bind fun t292 => (if t292 = true then ((impl_within.f a0_2 20 300).bind fun t293 => (if t293 = true then ((impl_within.f a0_3 0 10000).bind fun t294 => (if t294 = true then ((impl_within.f a0_4 0 a0_3).bind fun t295 => (if t295 = true then ((impl_within.f a0_5 1 50).bind fun t296 => (if t296 = true then ((impl_within.f a0_6 0 10000).bind fun t297 => (if t297 = true then ((impl_within.f a0_7 1 100000).bind fun t298 => (if t298 = true then ((impl_within.f a0_8 0 3).bind fun t299 => (some t299)) else (some false))) else (some false))) else (some false))) else (some false))) else (some false))) else (some false))) else (some false))) else (some false)) = some r := H
 have A2 := Aside0.mk A20
 clear A20
 by_cases c3 : t291 = true
 ·subst c3
  have H1 : ((impl_within.f a0_1 0 3).bind fun t292 => (if t292 = true then ((impl_within.f a0_2 20 300).bind fun t293 => (if t293 = true then ((impl_within.f a0_3 0 10000).bind fun t294 => (if t294 = true then ((impl_within.f a0_4 0 a0_3).bind fun t295 => (if t295 = true then ((impl_within.f a0_5 1 50).bind fun t296 => (if t296 = true then ((impl_within.f a0_6 0 10000).bind fun t297 => (if t297 = true then ((impl_within.f a0_7 1 100000).bind fun t298 => (if t298 = true then ((impl_within.f a0_8 0 3).bind fun t299 => (some t299)) else (some false))) else (some false))) else (some false))) else (some false))) else (some false))) else (some false))) else (some false))) = some r := by rw [if_pos rfl] at H; exact H
  clear H
  have H := H1
  clear H1
  replace H := Option.bind_eq_some_iff.mp H
  obtain ⟨t292, A40, H⟩ := H
  replace H : (if t292 = true then ((impl_within.f a0_2 20 300).bind fun t293 => (if t293 = true then ((impl_within.f a0_3 0 10000).bind fun t294 => (if t294 = true then ((impl_within.f a0_4 0 a0_3).bind fun t295 => (if t295 = true then ((impl_within.f a0_5 1 50).bind fun t296 => (if t296 = true then ((impl_within.f a0_6 0 10000).bind fun t297 => (if t297 = true then ((impl_within.f a0_7 1 100000).bind fun t298 => (if t298 = true then ((impl_within.f a0_8 0 3).bind fun t299 => (some t299)) else (some false))) else (some false))) else (some false))) else (some false))) else (some false))) else (some false))) else (some false)) = some r := H
  have A4 := Aside0.mk A40
  clear A40
  by_cases c5 : t292 = true
  ·subst c5
   have H1 : ((impl_within.f a0_2 20 300).bind fun t293 => (if t293 = true then ((impl_within.f a0_3 0 10000).bind fun t294 => (if t294 = true then ((impl_within.f a0_4 0 a0_3).bind fun t295 => (if t295 = true then ((impl_within.f a0_5 1 50).bind fun t296 => (if t296 = true then ((impl_within.f a0_6 0 10000).bind fun t297 => (if t297 = true then ((impl_within.f a0_7 1 100000).bind fun t298 => (if t298 = true then ((impl_within.f a0_8 0 3).bind fun t299 => (some t299)) else (some false))) else (some false))) else (some false))) else (some false))) else (some false))) else (some false))) = some r := by rw [if_pos rfl] at H; exact H
   clear H
   have H := H1
   clear H1
   replace H := Option.bind_eq_some_iff.mp H
   obtain ⟨t293, A60, H⟩ := H
   replace H : (if t293 = true then ((impl_within.f a0_3 0 10000).bind fun t294 => (if t294 = true then ((impl_within.f a0_4 0 a0_3).bind fun t295 => (if t295 = true then ((impl_within.f a0_5 1 50).bind fun t296 => (if t296 = true then ((impl_within.f a0_6 0 10000).bind fun t297 => (if t297 = true then ((impl_within.f a0_7 1 100000).bind fun t298 => (if t298 = true then ((impl_within.f a0_8 0 3).bind fun t299 => (some t299)) else (some false))) else (some false))) else (some false))) else (some false))) else (some false))) else (some false)) = some r := H
   have A6 := Aside0.mk A60
   clear A60
   by_cases c7 : t293 = true
   ·subst c7
    have H1 : ((impl_within.f a0_3 0 10000).bind fun t294 => (if t294 = true then ((impl_within.f a0_4 0 a0_3).bind fun t295 => (if t295 = true then ((impl_within.f a0_5 1 50).bind fun t296 => (if t296 = true then ((impl_within.f a0_6 0 10000).bind fun t297 => (if t297 = true then ((impl_within.f a0_7 1 100000).bind fun t298 => (if t298 = true then ((impl_within.f a0_8 0 3).bind fun t299 => (some t299)) else (some false))) else (some false))) else (some false))) else (some false))) else (some false))) = some r := by rw [if_pos rfl] at H; exact H
    clear H
    have H := H1
    clear H1
    replace H := Option.bind_eq_some_iff.mp H
    obtain ⟨t294, A80, H⟩ := H
    replace H : (if t294 = true then ((impl_within.f a0_4 0 a0_3).bind fun t295 => (if t295 = true then ((impl_within.f a0_5 1 50).bind fun t296 => (if t296 = true then ((impl_within.f a0_6 0 10000).bind fun t297 => (if t297 = true then ((impl_within.f a0_7 1 100000).bind fun t298 => (if t298 = true then ((impl_within.f a0_8 0 3).bind fun t299 => (some t299)) else (some false))) else (some false))) else (some false))) else (some false))) else (some false)) = some r := H
    have A8 := Aside0.mk A80
    clear A80
    by_cases c9 : t294 = true
    ·subst c9
     have H1 : ((impl_within.f a0_4 0 a0_3).bind fun t295 => (if t295 = true then ((impl_within.f a0_5 1 50).bind fun t296 => (if t296 = true then ((impl_within.f a0_6 0 10000).bind fun t297 => (if t297 = true then ((impl_within.f a0_7 1 100000).bind fun t298 => (if t298 = true then ((impl_within.f a0_8 0 3).bind fun t299 => (some t299)) else (some false))) else (some false))) else (some false))) else (some false))) = some r := by rw [if_pos rfl] at H; exact H
     clear H
     have H := H1
     clear H1
     replace H := Option.bind_eq_some_iff.mp H
     obtain ⟨t295, A100, H⟩ := H
     replace H : (if t295 = true then ((impl_within.f a0_5 1 50).bind fun t296 => (if t296 = true then ((impl_within.f a0_6 0 10000).bind fun t297 => (if t297 = true then ((impl_within.f a0_7 1 100000).bind fun t298 => (if t298 = true then ((impl_within.f a0_8 0 3).bind fun t299 => (some t299)) else (some false))) else (some false))) else (some false))) else (some false)) = some r := H
     have A10 := Aside0.mk A100
     clear A100
     by_cases c11 : t295 = true
     ·subst c11
      have H1 : ((impl_within.f a0_5 1 50).bind fun t296 => (if t296 = true then ((impl_within.f a0_6 0 10000).bind fun t297 => (if t297 = true then ((impl_within.f a0_7 1 100000).bind fun t298 => (if t298 = true then ((impl_within.f a0_8 0 3).bind fun t299 => (some t299)) else (some false))) else (some false))) else (some false))) = some r := by rw [if_pos rfl] at H; exact H
      clear H
      have H := H1
      clear H1
      replace H := Option.bind_eq_some_iff.mp H
      obtain ⟨t296, A120, H⟩ := H
      replace H : (if t296 = true then ((impl_within.f a0_6 0 10000).bind fun t297 => (if t297 = true then ((impl_within.f a0_7 1 100000).bind fun t298 => (if t298 = true then ((impl_within.f a0_8 0 3).bind fun t299 => (some t299)) else (some false))) else (some false))) else (some false)) = some r := H
      have A12 := Aside0.mk A120
      clear A120
      by_cases c13 : t296 = true
      ·subst c13
       have H1 : ((impl_within.f a0_6 0 10000).bind fun t297 => (if t297 = true then ((impl_within.f a0_7 1 100000).bind fun t298 => (if t298 = true then ((impl_within.f a0_8 0 3).bind fun t299 => (some t299)) else (some false))) else (some false))) = some r := by rw [if_pos rfl] at H; exact H
       clear H
       have H := H1
       clear H1
       replace H := Option.bind_eq_some_iff.mp H
       obtain ⟨t297, A140, H⟩ := H
       replace H : (if t297 = true then ((impl_within.f a0_7 1 100000).bind fun t298 => (if t298 = true then ((impl_within.f a0_8 0 3).bind fun t299 => (some t299)) else (some false))) else (some false)) = some r := H
       have A14 := Aside0.mk A140
       clear A140
       by_cases c15 : t297 = true
       ·subst c15
        have H1 : ((impl_within.f a0_7 1 100000).bind fun t298 => (if t298 = true then ((impl_within.f a0_8 0 3).bind fun t299 => (some t299)) else (some false))) = some r := by rw [if_pos rfl] at H; exact H
        clear H
        have H := H1
        clear H1
        replace H := Option.bind_eq_some_iff.mp H
        obtain ⟨t298, A160, H⟩ := H
        replace H : (if t298 = true then ((impl_within.f a0_8 0 3).bind fun t299 => (some t299)) else (some false)) = some r := H
        have A16 := Aside0.mk A160
        clear A160
        by_cases c17 : t298 = true
        ·subst c17
         have H1 : ((impl_within.f a0_8 0 3).bind fun t299 => (some t299)) = some r := by rw [if_pos rfl] at H; exact H
         clear H
         have H := H1
         clear H1
         replace H := Option.bind_eq_some_iff.mp H
         obtain ⟨t299, A180, H⟩ := H
         replace H : (some t299) = some r := H
         have A18 := Aside0.mk A180
         clear A180
         obtain rfl := Option.some.inj H
         go_enter Try.func129, Try.ntmps129
         go_wp2_with (first | ((with_reducible refine gate_dst (N := 1) rfl ?_); refine box_event ?hg (N := 1) ?hd (cs := #[.string a0_0, .int .i64 a0_1, .int .i64 a0_2, .int .i64 a0_3, .int .i64 a0_4, .int .i64 a0_5, .int .i64 a0_6, .int .i64 a0_7, .int .i64 a0_8]) (t := 92) ?hr ?_; (case hd => rfl); (case hg => rfl); (case hr => first | (go_simp; done) | (go_simp; rfl)); intro gb290 hg w19 hbox hb; have n0_ := Aside0.mk (below_step Zc hb); have n1_ := Aside0.mk (hbox); have n2_ := Aside0.mk ((Zd : w.heap.size ≤ gb290)); have n3_ := Aside0.mk ((Zd : w.heap.size ≤ gb290)); clear HB; have HB := n0_; have BK290 := n1_; have GW290 := n2_; have GE290 := n3_; clear n0_ n1_ n2_ n3_; clear hb hbox hg; have hcz20_0 : w19.cell? ⟨gb290, 0, none⟩ = some (.string a0_0) := (blk_cell BK290.out 0).trans rfl; have hcz20_1 : w19.cell? ⟨gb290, 1, none⟩ = some (.int .i64 a0_1) := (blk_cell BK290.out 1).trans rfl; have hcz20_2 : w19.cell? ⟨gb290, 2, none⟩ = some (.int .i64 a0_2) := (blk_cell BK290.out 2).trans rfl; have hcz20_3 : w19.cell? ⟨gb290, 3, none⟩ = some (.int .i64 a0_3) := (blk_cell BK290.out 3).trans rfl; have hcz20_4 : w19.cell? ⟨gb290, 4, none⟩ = some (.int .i64 a0_4) := (blk_cell BK290.out 4).trans rfl; have hcz20_5 : w19.cell? ⟨gb290, 5, none⟩ = some (.int .i64 a0_5) := (blk_cell BK290.out 5).trans rfl; have hcz20_6 : w19.cell? ⟨gb290, 6, none⟩ = some (.int .i64 a0_6) := (blk_cell BK290.out 6).trans rfl; have hcz20_7 : w19.cell? ⟨gb290, 7, none⟩ = some (.int .i64 a0_7) := (blk_cell BK290.out 7).trans rfl; have hcz20_8 : w19.cell? ⟨gb290, 8, none⟩ = some (.int .i64 a0_8) := (blk_cell BK290.out 8).trans rfl; have hfz20_0 := blk_frozen BK290.out 0; have hfz20_1 := blk_frozen BK290.out 1; have hfz20_2 := blk_frozen BK290.out 2; have hfz20_3 := blk_frozen BK290.out 3; have hfz20_4 := blk_frozen BK290.out 4; have hfz20_5 := blk_frozen BK290.out 5; have hfz20_6 := blk_frozen BK290.out 6; have hfz20_7 := blk_frozen BK290.out 7; have hfz20_8 := blk_frozen BK290.out 8) | ((with_reducible refine gate_callee (f := 135) rfl ?_); refine goesL_ (some 5) rfl rfl Try.func135 Zj rfl #[.string a0_0] rfl Zo ?_; (with_reducible refine (impl_IsWord.calls k a0_0 true _ A2.out).mono ?_); rintro e w' ⟨rfl, ⟨nd, rfl⟩⟩; refine ⟨_, rfl, ?_⟩) | (go_at_call 89; (with_reducible refine (impl_within.calls a0_1 0 3 true _ A4.out).mono ?_); rintro e w' ⟨rfl, ⟨nd, rfl⟩⟩) | (go_at_call 89; (with_reducible refine (impl_within.calls a0_2 20 300 true _ A6.out).mono ?_); rintro e w' ⟨rfl, ⟨nd, rfl⟩⟩) | (go_at_call 89; (with_reducible refine (impl_within.calls a0_3 0 10000 true _ A8.out).mono ?_); rintro e w' ⟨rfl, ⟨nd, rfl⟩⟩) | (go_at_call 89; (with_reducible refine (impl_within.calls a0_4 0 a0_3 true _ A10.out).mono ?_); rintro e w' ⟨rfl, ⟨nd, rfl⟩⟩) | (go_at_call 89; (with_reducible refine (impl_within.calls a0_5 1 50 true _ A12.out).mono ?_); rintro e w' ⟨rfl, ⟨nd, rfl⟩⟩) | (go_at_call 89; (with_reducible refine (impl_within.calls a0_6 0 10000 true _ A14.out).mono ?_); rintro e w' ⟨rfl, ⟨nd, rfl⟩⟩) | (go_at_call 89; (with_reducible refine (impl_within.calls a0_7 1 100000 true _ A16.out).mono ?_); rintro e w' ⟨rfl, ⟨nd, rfl⟩⟩) | (go_at_call 89; (with_reducible refine (impl_within.calls a0_8 0 3 t299 _ A18.out).mono ?_); rintro e w' ⟨rfl, ⟨nd, rfl⟩⟩))
         go_ret
         exact ⟨Zk, (have z0_ := GE290; Zf)⟩
        ·replace c17 := Bool.eq_false_iff.mpr c17
         subst c17
         have H1 : (some false) = some r := by rw [if_neg (show ¬ (false = true) by decide)] at H; exact H
         clear H
         have H := H1
         clear H1
         obtain rfl := Option.some.inj H
         go_enter Try.func129, Try.ntmps129
         go_wp2_with (first | ((with_reducible refine gate_dst (N := 1) rfl ?_); refine box_event ?hg (N := 1) ?hd (cs := #[.string a0_0, .int .i64 a0_1, .int .i64 a0_2, .int .i64 a0_3, .int .i64 a0_4, .int .i64 a0_5, .int .i64 a0_6, .int .i64 a0_7, .int .i64 a0_8]) (t := 92) ?hr ?_; (case hd => rfl); (case hg => rfl); (case hr => first | (go_simp; done) | (go_simp; rfl)); intro gb290 hg w21 hbox hb; have n0_ := Aside0.mk (below_step Zc hb); have n1_ := Aside0.mk (hbox); have n2_ := Aside0.mk ((Zd : w.heap.size ≤ gb290)); have n3_ := Aside0.mk ((Zd : w.heap.size ≤ gb290)); clear HB; have HB := n0_; have BK290 := n1_; have GW290 := n2_; have GE290 := n3_; clear n0_ n1_ n2_ n3_; clear hb hbox hg; have hcz22_0 : w21.cell? ⟨gb290, 0, none⟩ = some (.string a0_0) := (blk_cell BK290.out 0).trans rfl; have hcz22_1 : w21.cell? ⟨gb290, 1, none⟩ = some (.int .i64 a0_1) := (blk_cell BK290.out 1).trans rfl; have hcz22_2 : w21.cell? ⟨gb290, 2, none⟩ = some (.int .i64 a0_2) := (blk_cell BK290.out 2).trans rfl; have hcz22_3 : w21.cell? ⟨gb290, 3, none⟩ = some (.int .i64 a0_3) := (blk_cell BK290.out 3).trans rfl; have hcz22_4 : w21.cell? ⟨gb290, 4, none⟩ = some (.int .i64 a0_4) := (blk_cell BK290.out 4).trans rfl; have hcz22_5 : w21.cell? ⟨gb290, 5, none⟩ = some (.int .i64 a0_5) := (blk_cell BK290.out 5).trans rfl; have hcz22_6 : w21.cell? ⟨gb290, 6, none⟩ = some (.int .i64 a0_6) := (blk_cell BK290.out 6).trans rfl; have hcz22_7 : w21.cell? ⟨gb290, 7, none⟩ = some (.int .i64 a0_7) := (blk_cell BK290.out 7).trans rfl; have hcz22_8 : w21.cell? ⟨gb290, 8, none⟩ = some (.int .i64 a0_8) := (blk_cell BK290.out 8).trans rfl; have hfz22_0 := blk_frozen BK290.out 0; have hfz22_1 := blk_frozen BK290.out 1; have hfz22_2 := blk_frozen BK290.out 2; have hfz22_3 := blk_frozen BK290.out 3; have hfz22_4 := blk_frozen BK290.out 4; have hfz22_5 := blk_frozen BK290.out 5; have hfz22_6 := blk_frozen BK290.out 6; have hfz22_7 := blk_frozen BK290.out 7; have hfz22_8 := blk_frozen BK290.out 8) | ((with_reducible refine gate_callee (f := 135) rfl ?_); refine goesL_ (some 5) rfl rfl Try.func135 Zj rfl #[.string a0_0] rfl Zo ?_; (with_reducible refine (impl_IsWord.calls k a0_0 true _ A2.out).mono ?_); rintro e w' ⟨rfl, ⟨nd, rfl⟩⟩; refine ⟨_, rfl, ?_⟩) | (go_at_call 89; (with_reducible refine (impl_within.calls a0_1 0 3 true _ A4.out).mono ?_); rintro e w' ⟨rfl, ⟨nd, rfl⟩⟩) | (go_at_call 89; (with_reducible refine (impl_within.calls a0_2 20 300 true _ A6.out).mono ?_); rintro e w' ⟨rfl, ⟨nd, rfl⟩⟩) | (go_at_call 89; (with_reducible refine (impl_within.calls a0_3 0 10000 true _ A8.out).mono ?_); rintro e w' ⟨rfl, ⟨nd, rfl⟩⟩) | (go_at_call 89; (with_reducible refine (impl_within.calls a0_4 0 a0_3 true _ A10.out).mono ?_); rintro e w' ⟨rfl, ⟨nd, rfl⟩⟩) | (go_at_call 89; (with_reducible refine (impl_within.calls a0_5 1 50 true _ A12.out).mono ?_); rintro e w' ⟨rfl, ⟨nd, rfl⟩⟩) | (go_at_call 89; (with_reducible refine (impl_within.calls a0_6 0 10000 true _ A14.out).mono ?_); rintro e w' ⟨rfl, ⟨nd, rfl⟩⟩) | (go_at_call 89; (with_reducible refine (impl_within.calls a0_7 1 100000 false _ A16.out).mono ?_); rintro e w' ⟨rfl, ⟨nd, rfl⟩⟩))
         go_ret
         exact ⟨Zk, (have z0_ := GE290; Zf)⟩
       ·replace c15 := Bool.eq_false_iff.mpr c15
        subst c15
        have H1 : (some false) = some r := by rw [if_neg (show ¬ (false = true) by decide)] at H; exact H
        clear H
        have H := H1
        clear H1
        obtain rfl := Option.some.inj H
        go_enter Try.func129, Try.ntmps129
        go_wp2_with (first | ((with_reducible refine gate_dst (N := 1) rfl ?_); refine box_event ?hg (N := 1) ?hd (cs := #[.string a0_0, .int .i64 a0_1, .int .i64 a0_2, .int .i64 a0_3, .int .i64 a0_4, .int .i64 a0_5, .int .i64 a0_6, .int .i64 a0_7, .int .i64 a0_8]) (t := 92) ?hr ?_; (case hd => rfl); (case hg => rfl); (case hr => first | (go_simp; done) | (go_simp; rfl)); intro gb290 hg w23 hbox hb; have n0_ := Aside0.mk (below_step Zc hb); have n1_ := Aside0.mk (hbox); have n2_ := Aside0.mk ((Zd : w.heap.size ≤ gb290)); have n3_ := Aside0.mk ((Zd : w.heap.size ≤ gb290)); clear HB; have HB := n0_; have BK290 := n1_; have GW290 := n2_; have GE290 := n3_; clear n0_ n1_ n2_ n3_; clear hb hbox hg; have hcz24_0 : w23.cell? ⟨gb290, 0, none⟩ = some (.string a0_0) := (blk_cell BK290.out 0).trans rfl; have hcz24_1 : w23.cell? ⟨gb290, 1, none⟩ = some (.int .i64 a0_1) := (blk_cell BK290.out 1).trans rfl; have hcz24_2 : w23.cell? ⟨gb290, 2, none⟩ = some (.int .i64 a0_2) := (blk_cell BK290.out 2).trans rfl; have hcz24_3 : w23.cell? ⟨gb290, 3, none⟩ = some (.int .i64 a0_3) := (blk_cell BK290.out 3).trans rfl; have hcz24_4 : w23.cell? ⟨gb290, 4, none⟩ = some (.int .i64 a0_4) := (blk_cell BK290.out 4).trans rfl; have hcz24_5 : w23.cell? ⟨gb290, 5, none⟩ = some (.int .i64 a0_5) := (blk_cell BK290.out 5).trans rfl; have hcz24_6 : w23.cell? ⟨gb290, 6, none⟩ = some (.int .i64 a0_6) := (blk_cell BK290.out 6).trans rfl; have hcz24_7 : w23.cell? ⟨gb290, 7, none⟩ = some (.int .i64 a0_7) := (blk_cell BK290.out 7).trans rfl; have hcz24_8 : w23.cell? ⟨gb290, 8, none⟩ = some (.int .i64 a0_8) := (blk_cell BK290.out 8).trans rfl; have hfz24_0 := blk_frozen BK290.out 0; have hfz24_1 := blk_frozen BK290.out 1; have hfz24_2 := blk_frozen BK290.out 2; have hfz24_3 := blk_frozen BK290.out 3; have hfz24_4 := blk_frozen BK290.out 4; have hfz24_5 := blk_frozen BK290.out 5; have hfz24_6 := blk_frozen BK290.out 6; have hfz24_7 := blk_frozen BK290.out 7; have hfz24_8 := blk_frozen BK290.out 8) | ((with_reducible refine gate_callee (f := 135) rfl ?_); refine goesL_ (some 5) rfl rfl Try.func135 Zj rfl #[.string a0_0] rfl Zo ?_; (with_reducible refine (impl_IsWord.calls k a0_0 true _ A2.out).mono ?_); rintro e w' ⟨rfl, ⟨nd, rfl⟩⟩; refine ⟨_, rfl, ?_⟩) | (go_at_call 89; (with_reducible refine (impl_within.calls a0_1 0 3 true _ A4.out).mono ?_); rintro e w' ⟨rfl, ⟨nd, rfl⟩⟩) | (go_at_call 89; (with_reducible refine (impl_within.calls a0_2 20 300 true _ A6.out).mono ?_); rintro e w' ⟨rfl, ⟨nd, rfl⟩⟩) | (go_at_call 89; (with_reducible refine (impl_within.calls a0_3 0 10000 true _ A8.out).mono ?_); rintro e w' ⟨rfl, ⟨nd, rfl⟩⟩) | (go_at_call 89; (with_reducible refine (impl_within.calls a0_4 0 a0_3 true _ A10.out).mono ?_); rintro e w' ⟨rfl, ⟨nd, rfl⟩⟩) | (go_at_call 89; (with_reducible refine (impl_within.calls a0_5 1 50 true _ A12.out).mono ?_); rintro e w' ⟨rfl, ⟨nd, rfl⟩⟩) | (go_at_call 89; (with_reducible refine (impl_within.calls a0_6 0 10000 false _ A14.out).mono ?_); rintro e w' ⟨rfl, ⟨nd, rfl⟩⟩))
        go_ret
        exact ⟨Zk, (have z0_ := GE290; Zf)⟩
      ·replace c13 := Bool.eq_false_iff.mpr c13
       subst c13
       have H1 : (some false) = some r := by rw [if_neg (show ¬ (false = true) by decide)] at H; exact H
       clear H
       have H := H1
       clear H1
       obtain rfl := Option.some.inj H
       go_enter Try.func129, Try.ntmps129
       go_wp2_with (first | ((with_reducible refine gate_dst (N := 1) rfl ?_); refine box_event ?hg (N := 1) ?hd (cs := #[.string a0_0, .int .i64 a0_1, .int .i64 a0_2, .int .i64 a0_3, .int .i64 a0_4, .int .i64 a0_5, .int .i64 a0_6, .int .i64 a0_7, .int .i64 a0_8]) (t := 92) ?hr ?_; (case hd => rfl); (case hg => rfl); (case hr => first | (go_simp; done) | (go_simp; rfl)); intro gb290 hg w25 hbox hb; have n0_ := Aside0.mk (below_step Zc hb); have n1_ := Aside0.mk (hbox); have n2_ := Aside0.mk ((Zd : w.heap.size ≤ gb290)); have n3_ := Aside0.mk ((Zd : w.heap.size ≤ gb290)); clear HB; have HB := n0_; have BK290 := n1_; have GW290 := n2_; have GE290 := n3_; clear n0_ n1_ n2_ n3_; clear hb hbox hg; have hcz26_0 : w25.cell? ⟨gb290, 0, none⟩ = some (.string a0_0) := (blk_cell BK290.out 0).trans rfl; have hcz26_1 : w25.cell? ⟨gb290, 1, none⟩ = some (.int .i64 a0_1) := (blk_cell BK290.out 1).trans rfl; have hcz26_2 : w25.cell? ⟨gb290, 2, none⟩ = some (.int .i64 a0_2) := (blk_cell BK290.out 2).trans rfl; have hcz26_3 : w25.cell? ⟨gb290, 3, none⟩ = some (.int .i64 a0_3) := (blk_cell BK290.out 3).trans rfl; have hcz26_4 : w25.cell? ⟨gb290, 4, none⟩ = some (.int .i64 a0_4) := (blk_cell BK290.out 4).trans rfl; have hcz26_5 : w25.cell? ⟨gb290, 5, none⟩ = some (.int .i64 a0_5) := (blk_cell BK290.out 5).trans rfl; have hcz26_6 : w25.cell? ⟨gb290, 6, none⟩ = some (.int .i64 a0_6) := (blk_cell BK290.out 6).trans rfl; have hcz26_7 : w25.cell? ⟨gb290, 7, none⟩ = some (.int .i64 a0_7) := (blk_cell BK290.out 7).trans rfl; have hcz26_8 : w25.cell? ⟨gb290, 8, none⟩ = some (.int .i64 a0_8) := (blk_cell BK290.out 8).trans rfl; have hfz26_0 := blk_frozen BK290.out 0; have hfz26_1 := blk_frozen BK290.out 1; have hfz26_2 := blk_frozen BK290.out 2; have hfz26_3 := blk_frozen BK290.out 3; have hfz26_4 := blk_frozen BK290.out 4; have hfz26_5 := blk_frozen BK290.out 5; have hfz26_6 := blk_frozen BK290.out 6; have hfz26_7 := blk_frozen BK290.out 7; have hfz26_8 := blk_frozen BK290.out 8) | ((with_reducible refine gate_callee (f := 135) rfl ?_); refine goesL_ (some 5) rfl rfl Try.func135 Zj rfl #[.string a0_0] rfl Zo ?_; (with_reducible refine (impl_IsWord.calls k a0_0 true _ A2.out).mono ?_); rintro e w' ⟨rfl, ⟨nd, rfl⟩⟩; refine ⟨_, rfl, ?_⟩) | (go_at_call 89; (with_reducible refine (impl_within.calls a0_1 0 3 true _ A4.out).mono ?_); rintro e w' ⟨rfl, ⟨nd, rfl⟩⟩) | (go_at_call 89; (with_reducible refine (impl_within.calls a0_2 20 300 true _ A6.out).mono ?_); rintro e w' ⟨rfl, ⟨nd, rfl⟩⟩) | (go_at_call 89; (with_reducible refine (impl_within.calls a0_3 0 10000 true _ A8.out).mono ?_); rintro e w' ⟨rfl, ⟨nd, rfl⟩⟩) | (go_at_call 89; (with_reducible refine (impl_within.calls a0_4 0 a0_3 true _ A10.out).mono ?_); rintro e w' ⟨rfl, ⟨nd, rfl⟩⟩) | (go_at_call 89; (with_reducible refine (impl_within.calls a0_5 1 50 false _ A12.out).mono ?_); rintro e w' ⟨rfl, ⟨nd, rfl⟩⟩))
       go_ret
       exact ⟨Zk, (have z0_ := GE290; Zf)⟩
     ·replace c11 := Bool.eq_false_iff.mpr c11
      subst c11
      have H1 : (some false) = some r := by rw [if_neg (show ¬ (false = true) by decide)] at H; exact H
      clear H
      have H := H1
      clear H1
      obtain rfl := Option.some.inj H
      go_enter Try.func129, Try.ntmps129
      go_wp2_with (first | ((with_reducible refine gate_dst (N := 1) rfl ?_); refine box_event ?hg (N := 1) ?hd (cs := #[.string a0_0, .int .i64 a0_1, .int .i64 a0_2, .int .i64 a0_3, .int .i64 a0_4, .int .i64 a0_5, .int .i64 a0_6, .int .i64 a0_7, .int .i64 a0_8]) (t := 92) ?hr ?_; (case hd => rfl); (case hg => rfl); (case hr => first | (go_simp; done) | (go_simp; rfl)); intro gb290 hg w27 hbox hb; have n0_ := Aside0.mk (below_step Zc hb); have n1_ := Aside0.mk (hbox); have n2_ := Aside0.mk ((Zd : w.heap.size ≤ gb290)); have n3_ := Aside0.mk ((Zd : w.heap.size ≤ gb290)); clear HB; have HB := n0_; have BK290 := n1_; have GW290 := n2_; have GE290 := n3_; clear n0_ n1_ n2_ n3_; clear hb hbox hg; have hcz28_0 : w27.cell? ⟨gb290, 0, none⟩ = some (.string a0_0) := (blk_cell BK290.out 0).trans rfl; have hcz28_1 : w27.cell? ⟨gb290, 1, none⟩ = some (.int .i64 a0_1) := (blk_cell BK290.out 1).trans rfl; have hcz28_2 : w27.cell? ⟨gb290, 2, none⟩ = some (.int .i64 a0_2) := (blk_cell BK290.out 2).trans rfl; have hcz28_3 : w27.cell? ⟨gb290, 3, none⟩ = some (.int .i64 a0_3) := (blk_cell BK290.out 3).trans rfl; have hcz28_4 : w27.cell? ⟨gb290, 4, none⟩ = some (.int .i64 a0_4) := (blk_cell BK290.out 4).trans rfl; have hcz28_5 : w27.cell? ⟨gb290, 5, none⟩ = some (.int .i64 a0_5) := (blk_cell BK290.out 5).trans rfl; have hcz28_6 : w27.cell? ⟨gb290, 6, none⟩ = some (.int .i64 a0_6) := (blk_cell BK290.out 6).trans rfl; have hcz28_7 : w27.cell? ⟨gb290, 7, none⟩ = some (.int .i64 a0_7) := (blk_cell BK290.out 7).trans rfl; have hcz28_8 : w27.cell? ⟨gb290, 8, none⟩ = some (.int .i64 a0_8) := (blk_cell BK290.out 8).trans rfl; have hfz28_0 := blk_frozen BK290.out 0; have hfz28_1 := blk_frozen BK290.out 1; have hfz28_2 := blk_frozen BK290.out 2; have hfz28_3 := blk_frozen BK290.out 3; have hfz28_4 := blk_frozen BK290.out 4; have hfz28_5 := blk_frozen BK290.out 5; have hfz28_6 := blk_frozen BK290.out 6; have hfz28_7 := blk_frozen BK290.out 7; have hfz28_8 := blk_frozen BK290.out 8) | ((with_reducible refine gate_callee (f := 135) rfl ?_); refine goesL_ (some 5) rfl rfl Try.func135 Zj rfl #[.string a0_0] rfl Zo ?_; (with_reducible refine (impl_IsWord.calls k a0_0 true _ A2.out).mono ?_); rintro e w' ⟨rfl, ⟨nd, rfl⟩⟩; refine ⟨_, rfl, ?_⟩) | (go_at_call 89; (with_reducible refine (impl_within.calls a0_1 0 3 true _ A4.out).mono ?_); rintro e w' ⟨rfl, ⟨nd, rfl⟩⟩) | (go_at_call 89; (with_reducible refine (impl_within.calls a0_2 20 300 true _ A6.out).mono ?_); rintro e w' ⟨rfl, ⟨nd, rfl⟩⟩) | (go_at_call 89; (with_reducible refine (impl_within.calls a0_3 0 10000 true _ A8.out).mono ?_); rintro e w' ⟨rfl, ⟨nd, rfl⟩⟩) | (go_at_call 89; (with_reducible refine (impl_within.calls a0_4 0 a0_3 false _ A10.out).mono ?_); rintro e w' ⟨rfl, ⟨nd, rfl⟩⟩))
      go_ret
      exact ⟨Zk, (have z0_ := GE290; Zf)⟩
    ·replace c9 := Bool.eq_false_iff.mpr c9
     subst c9
     have H1 : (some false) = some r := by rw [if_neg (show ¬ (false = true) by decide)] at H; exact H
     clear H
     have H := H1
     clear H1
     obtain rfl := Option.some.inj H
     go_enter Try.func129, Try.ntmps129
     go_wp2_with (first | ((with_reducible refine gate_dst (N := 1) rfl ?_); refine box_event ?hg (N := 1) ?hd (cs := #[.string a0_0, .int .i64 a0_1, .int .i64 a0_2, .int .i64 a0_3, .int .i64 a0_4, .int .i64 a0_5, .int .i64 a0_6, .int .i64 a0_7, .int .i64 a0_8]) (t := 92) ?hr ?_; (case hd => rfl); (case hg => rfl); (case hr => first | (go_simp; done) | (go_simp; rfl)); intro gb290 hg w29 hbox hb; have n0_ := Aside0.mk (below_step Zc hb); have n1_ := Aside0.mk (hbox); have n2_ := Aside0.mk ((Zd : w.heap.size ≤ gb290)); have n3_ := Aside0.mk ((Zd : w.heap.size ≤ gb290)); clear HB; have HB := n0_; have BK290 := n1_; have GW290 := n2_; have GE290 := n3_; clear n0_ n1_ n2_ n3_; clear hb hbox hg; have hcz30_0 : w29.cell? ⟨gb290, 0, none⟩ = some (.string a0_0) := (blk_cell BK290.out 0).trans rfl; have hcz30_1 : w29.cell? ⟨gb290, 1, none⟩ = some (.int .i64 a0_1) := (blk_cell BK290.out 1).trans rfl; have hcz30_2 : w29.cell? ⟨gb290, 2, none⟩ = some (.int .i64 a0_2) := (blk_cell BK290.out 2).trans rfl; have hcz30_3 : w29.cell? ⟨gb290, 3, none⟩ = some (.int .i64 a0_3) := (blk_cell BK290.out 3).trans rfl; have hcz30_4 : w29.cell? ⟨gb290, 4, none⟩ = some (.int .i64 a0_4) := (blk_cell BK290.out 4).trans rfl; have hcz30_5 : w29.cell? ⟨gb290, 5, none⟩ = some (.int .i64 a0_5) := (blk_cell BK290.out 5).trans rfl; have hcz30_6 : w29.cell? ⟨gb290, 6, none⟩ = some (.int .i64 a0_6) := (blk_cell BK290.out 6).trans rfl; have hcz30_7 : w29.cell? ⟨gb290, 7, none⟩ = some (.int .i64 a0_7) := (blk_cell BK290.out 7).trans rfl; have hcz30_8 : w29.cell? ⟨gb290, 8, none⟩ = some (.int .i64 a0_8) := (blk_cell BK290.out 8).trans rfl; have hfz30_0 := blk_frozen BK290.out 0; have hfz30_1 := blk_frozen BK290.out 1; have hfz30_2 := blk_frozen BK290.out 2; have hfz30_3 := blk_frozen BK290.out 3; have hfz30_4 := blk_frozen BK290.out 4; have hfz30_5 := blk_frozen BK290.out 5; have hfz30_6 := blk_frozen BK290.out 6; have hfz30_7 := blk_frozen BK290.out 7; have hfz30_8 := blk_frozen BK290.out 8) | ((with_reducible refine gate_callee (f := 135) rfl ?_); refine goesL_ (some 5) rfl rfl Try.func135 Zj rfl #[.string a0_0] rfl Zo ?_; (with_reducible refine (impl_IsWord.calls k a0_0 true _ A2.out).mono ?_); rintro e w' ⟨rfl, ⟨nd, rfl⟩⟩; refine ⟨_, rfl, ?_⟩) | (go_at_call 89; (with_reducible refine (impl_within.calls a0_1 0 3 true _ A4.out).mono ?_); rintro e w' ⟨rfl, ⟨nd, rfl⟩⟩) | (go_at_call 89; (with_reducible refine (impl_within.calls a0_2 20 300 true _ A6.out).mono ?_); rintro e w' ⟨rfl, ⟨nd, rfl⟩⟩) | (go_at_call 89; (with_reducible refine (impl_within.calls a0_3 0 10000 false _ A8.out).mono ?_); rintro e w' ⟨rfl, ⟨nd, rfl⟩⟩))
     go_ret
     exact ⟨Zk, (have z0_ := GE290; Zf)⟩
   ·replace c7 := Bool.eq_false_iff.mpr c7
    subst c7
    have H1 : (some false) = some r := by rw [if_neg (show ¬ (false = true) by decide)] at H; exact H
    clear H
    have H := H1
    clear H1
    obtain rfl := Option.some.inj H
    go_enter Try.func129, Try.ntmps129
    go_wp2_with (first | ((with_reducible refine gate_dst (N := 1) rfl ?_); refine box_event ?hg (N := 1) ?hd (cs := #[.string a0_0, .int .i64 a0_1, .int .i64 a0_2, .int .i64 a0_3, .int .i64 a0_4, .int .i64 a0_5, .int .i64 a0_6, .int .i64 a0_7, .int .i64 a0_8]) (t := 92) ?hr ?_; (case hd => rfl); (case hg => rfl); (case hr => first | (go_simp; done) | (go_simp; rfl)); intro gb290 hg w31 hbox hb; have n0_ := Aside0.mk (below_step Zc hb); have n1_ := Aside0.mk (hbox); have n2_ := Aside0.mk ((Zd : w.heap.size ≤ gb290)); have n3_ := Aside0.mk ((Zd : w.heap.size ≤ gb290)); clear HB; have HB := n0_; have BK290 := n1_; have GW290 := n2_; have GE290 := n3_; clear n0_ n1_ n2_ n3_; clear hb hbox hg; have hcz32_0 : w31.cell? ⟨gb290, 0, none⟩ = some (.string a0_0) := (blk_cell BK290.out 0).trans rfl; have hcz32_1 : w31.cell? ⟨gb290, 1, none⟩ = some (.int .i64 a0_1) := (blk_cell BK290.out 1).trans rfl; have hcz32_2 : w31.cell? ⟨gb290, 2, none⟩ = some (.int .i64 a0_2) := (blk_cell BK290.out 2).trans rfl; have hcz32_3 : w31.cell? ⟨gb290, 3, none⟩ = some (.int .i64 a0_3) := (blk_cell BK290.out 3).trans rfl; have hcz32_4 : w31.cell? ⟨gb290, 4, none⟩ = some (.int .i64 a0_4) := (blk_cell BK290.out 4).trans rfl; have hcz32_5 : w31.cell? ⟨gb290, 5, none⟩ = some (.int .i64 a0_5) := (blk_cell BK290.out 5).trans rfl; have hcz32_6 : w31.cell? ⟨gb290, 6, none⟩ = some (.int .i64 a0_6) := (blk_cell BK290.out 6).trans rfl; have hcz32_7 : w31.cell? ⟨gb290, 7, none⟩ = some (.int .i64 a0_7) := (blk_cell BK290.out 7).trans rfl; have hcz32_8 : w31.cell? ⟨gb290, 8, none⟩ = some (.int .i64 a0_8) := (blk_cell BK290.out 8).trans rfl; have hfz32_0 := blk_frozen BK290.out 0; have hfz32_1 := blk_frozen BK290.out 1; have hfz32_2 := blk_frozen BK290.out 2; have hfz32_3 := blk_frozen BK290.out 3; have hfz32_4 := blk_frozen BK290.out 4; have hfz32_5 := blk_frozen BK290.out 5; have hfz32_6 := blk_frozen BK290.out 6; have hfz32_7 := blk_frozen BK290.out 7; have hfz32_8 := blk_frozen BK290.out 8) | ((with_reducible refine gate_callee (f := 135) rfl ?_); refine goesL_ (some 5) rfl rfl Try.func135 Zj rfl #[.string a0_0] rfl Zo ?_; (with_reducible refine (impl_IsWord.calls k a0_0 true _ A2.out).mono ?_); rintro e w' ⟨rfl, ⟨nd, rfl⟩⟩; refine ⟨_, rfl, ?_⟩) | (go_at_call 89; (with_reducible refine (impl_within.calls a0_1 0 3 true _ A4.out).mono ?_); rintro e w' ⟨rfl, ⟨nd, rfl⟩⟩) | (go_at_call 89; (with_reducible refine (impl_within.calls a0_2 20 300 false _ A6.out).mono ?_); rintro e w' ⟨rfl, ⟨nd, rfl⟩⟩))
    go_ret
    exact ⟨Zk, (have z0_ := GE290; Zf)⟩
  ·replace c5 := Bool.eq_false_iff.mpr c5
   subst c5
   have H1 : (some false) = some r := by rw [if_neg (show ¬ (false = true) by decide)] at H; exact H
   clear H
   have H := H1
   clear H1
   obtain rfl := Option.some.inj H
   go_enter Try.func129, Try.ntmps129
   go_wp2_with (first | ((with_reducible refine gate_dst (N := 1) rfl ?_); refine box_event ?hg (N := 1) ?hd (cs := #[.string a0_0, .int .i64 a0_1, .int .i64 a0_2, .int .i64 a0_3, .int .i64 a0_4, .int .i64 a0_5, .int .i64 a0_6, .int .i64 a0_7, .int .i64 a0_8]) (t := 92) ?hr ?_; (case hd => rfl); (case hg => rfl); (case hr => first | (go_simp; done) | (go_simp; rfl)); intro gb290 hg w33 hbox hb; have n0_ := Aside0.mk (below_step Zc hb); have n1_ := Aside0.mk (hbox); have n2_ := Aside0.mk ((Zd : w.heap.size ≤ gb290)); have n3_ := Aside0.mk ((Zd : w.heap.size ≤ gb290)); clear HB; have HB := n0_; have BK290 := n1_; have GW290 := n2_; have GE290 := n3_; clear n0_ n1_ n2_ n3_; clear hb hbox hg; have hcz34_0 : w33.cell? ⟨gb290, 0, none⟩ = some (.string a0_0) := (blk_cell BK290.out 0).trans rfl; have hcz34_1 : w33.cell? ⟨gb290, 1, none⟩ = some (.int .i64 a0_1) := (blk_cell BK290.out 1).trans rfl; have hcz34_2 : w33.cell? ⟨gb290, 2, none⟩ = some (.int .i64 a0_2) := (blk_cell BK290.out 2).trans rfl; have hcz34_3 : w33.cell? ⟨gb290, 3, none⟩ = some (.int .i64 a0_3) := (blk_cell BK290.out 3).trans rfl; have hcz34_4 : w33.cell? ⟨gb290, 4, none⟩ = some (.int .i64 a0_4) := (blk_cell BK290.out 4).trans rfl; have hcz34_5 : w33.cell? ⟨gb290, 5, none⟩ = some (.int .i64 a0_5) := (blk_cell BK290.out 5).trans rfl; have hcz34_6 : w33.cell? ⟨gb290, 6, none⟩ = some (.int .i64 a0_6) := (blk_cell BK290.out 6).trans rfl; have hcz34_7 : w33.cell? ⟨gb290, 7, none⟩ = some (.int .i64 a0_7) := (blk_cell BK290.out 7).trans rfl; have hcz34_8 : w33.cell? ⟨gb290, 8, none⟩ = some (.int .i64 a0_8) := (blk_cell BK290.out 8).trans rfl; have hfz34_0 := blk_frozen BK290.out 0; have hfz34_1 := blk_frozen BK290.out 1; have hfz34_2 := blk_frozen BK290.out 2; have hfz34_3 := blk_frozen BK290.out 3; have hfz34_4 := blk_frozen BK290.out 4; have hfz34_5 := blk_frozen BK290.out 5; have hfz34_6 := blk_frozen BK290.out 6; have hfz34_7 := blk_frozen BK290.out 7; have hfz34_8 := blk_frozen BK290.out 8) | ((with_reducible refine gate_callee (f := 135) rfl ?_); refine goesL_ (some 5) rfl rfl Try.func135 Zj rfl #[.string a0_0] rfl Zo ?_; (with_reducible refine (impl_IsWord.calls k a0_0 true _ A2.out).mono ?_); rintro e w' ⟨rfl, ⟨nd, rfl⟩⟩; refine ⟨_, rfl, ?_⟩) | (go_at_call 89; (with_reducible refine (impl_within.calls a0_1 0 3 false _ A4.out).mono ?_); rintro e w' ⟨rfl, ⟨nd, rfl⟩⟩))
   go_ret
   exact ⟨Zk, (have z0_ := GE290; Zf)⟩
 ·replace c3 := Bool.eq_false_iff.mpr c3
  subst c3
  have H1 : (some false) = some r := by rw [if_neg (show ¬ (false = true) by decide)] at H; exact H
  clear H
  have H := H1
  clear H1
  obtain rfl := Option.some.inj H
  go_enter Try.func129, Try.ntmps129
  go_wp2_with (first | ((with_reducible refine gate_dst (N := 1) rfl ?_); refine box_event ?hg (N := 1) ?hd (cs := #[.string a0_0, .int .i64 a0_1, .int .i64 a0_2, .int .i64 a0_3, .int .i64 a0_4, .int .i64 a0_5, .int .i64 a0_6, .int .i64 a0_7, .int .i64 a0_8]) (t := 92) ?hr ?_; (case hd => rfl); (case hg => rfl); (case hr => first | (go_simp; done) | (go_simp; rfl)); intro gb290 hg w35 hbox hb; have n0_ := Aside0.mk (below_step Zc hb); have n1_ := Aside0.mk (hbox); have n2_ := Aside0.mk ((Zd : w.heap.size ≤ gb290)); have n3_ := Aside0.mk ((Zd : w.heap.size ≤ gb290)); clear HB; have HB := n0_; have BK290 := n1_; have GW290 := n2_; have GE290 := n3_; clear n0_ n1_ n2_ n3_; clear hb hbox hg; have hcz36_0 : w35.cell? ⟨gb290, 0, none⟩ = some (.string a0_0) := (blk_cell BK290.out 0).trans rfl; have hcz36_1 : w35.cell? ⟨gb290, 1, none⟩ = some (.int .i64 a0_1) := (blk_cell BK290.out 1).trans rfl; have hcz36_2 : w35.cell? ⟨gb290, 2, none⟩ = some (.int .i64 a0_2) := (blk_cell BK290.out 2).trans rfl; have hcz36_3 : w35.cell? ⟨gb290, 3, none⟩ = some (.int .i64 a0_3) := (blk_cell BK290.out 3).trans rfl; have hcz36_4 : w35.cell? ⟨gb290, 4, none⟩ = some (.int .i64 a0_4) := (blk_cell BK290.out 4).trans rfl; have hcz36_5 : w35.cell? ⟨gb290, 5, none⟩ = some (.int .i64 a0_5) := (blk_cell BK290.out 5).trans rfl; have hcz36_6 : w35.cell? ⟨gb290, 6, none⟩ = some (.int .i64 a0_6) := (blk_cell BK290.out 6).trans rfl; have hcz36_7 : w35.cell? ⟨gb290, 7, none⟩ = some (.int .i64 a0_7) := (blk_cell BK290.out 7).trans rfl; have hcz36_8 : w35.cell? ⟨gb290, 8, none⟩ = some (.int .i64 a0_8) := (blk_cell BK290.out 8).trans rfl; have hfz36_0 := blk_frozen BK290.out 0; have hfz36_1 := blk_frozen BK290.out 1; have hfz36_2 := blk_frozen BK290.out 2; have hfz36_3 := blk_frozen BK290.out 3; have hfz36_4 := blk_frozen BK290.out 4; have hfz36_5 := blk_frozen BK290.out 5; have hfz36_6 := blk_frozen BK290.out 6; have hfz36_7 := blk_frozen BK290.out 7; have hfz36_8 := blk_frozen BK290.out 8) | ((with_reducible refine gate_callee (f := 135) rfl ?_); refine goesL_ (some 5) rfl rfl Try.func135 Zj rfl #[.string a0_0] rfl Zo ?_; (with_reducible refine (impl_IsWord.calls k a0_0 false _ A2.out).mono ?_); rintro e w' ⟨rfl, ⟨nd, rfl⟩⟩; refine ⟨_, rfl, ?_⟩))
  go_ret
  exact ⟨Zk, (have z0_ := GE290; Zf)⟩
end Go.Proofs.Ytnlbaflbhicooaa.F
