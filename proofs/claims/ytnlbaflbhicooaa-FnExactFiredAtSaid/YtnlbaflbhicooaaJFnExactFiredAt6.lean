import Derived.Test.YtnlbaflbhicooaaJFnExactFiredAt5
import Derived.Below
import Derived.Deep.Draws
import Derived.Deep.AppendLies
import Derived.Maps.AppendAt
import Derived.OwnWalk
import Derived.Laws.BytesArg
import Derived.Laws.MakeOwn
import Derived.Laws.OwnMore
import Derived.Tactics
import Derived.Lib.ConvBytes
import Derived.Laws.Slices
import Derived.WalkKit
import Derived.KernelRfl
import Derived.RowKit3
import Derived.Deep.LoopGhost
import Derived.Deep.QuietTactic
import Derived.BigQuiet
import Derived.WideLaws
import Derived.Deep.DeepCutAuto
import Derived.Deep.CutBlock
import Derived.Deep.RegionHeld3
import Derived.Lib.AppendStr
import Derived.ArgAppend
import Derived.Laws.IdiomCopy
import Derived.RowKit
import Derived.OrdersHeld
import Derived.Laws.BitsLemmas
import Derived.Laws.StructEq
import Derived.Test.YtnlbaflbhicooaaProg
import Derived.ChangeSlices
import Derived.OpenShut
import Derived.Laws.Cover1
namespace Go.Proofs.Ytnlbaflbhicooaa.F
open Go.RowKit Go.Proofs.YtnlbaflbhicooaaW.PrintWords Go.Proofs.YtnlbaflbhicooaaW.PrintLast Go.Proofs.YtnlbaflbhicooaaW.PrintMore
attribute [local go_sem] max2_int min2_int max_two min_two max_three min_three max_four min_four   -- for this text's walks alone
set_option linter.unusedVariables false
set_option linter.unusedSimpArgs false
def impl_articleOf.l0 : Nat → ByteArray → List (S92) → Int → Int → Option (Int)
 | 0, _, _, _, _ => none
 | k + 1, x1, x7, x8, x9 => if x9 < x8 then (if 0 ≤ x9 then (if x9 < (x7.length : Int) then (if ((rd_T92 x7 x9).f0).toList = x1.toList then (some x9) else (impl_articleOf.l0 k x1 x7 x8 (wrap64 (x9 + 1)))) else (none)) else (none)) else (some (-1))
def impl_articleOf.f (k : Nat) (l0 : List (S92)) (a1 : ByteArray) : Option (Int) := impl_articleOf.l0 k a1 l0 (l0.length : Int) 0
set_option maxHeartbeats 8000000 in
set_option maxRecDepth 100000 in
theorem impl_articleOf.calls (k : Nat) (A0 : Option Addr) (c0 : Nat) (l0 : List (S92)) (a1 : ByteArray) (r : Int) (w : World) (hr0 : Kd.C k92 w A0 l0.length l0) (hc0 : l0.length ≤ c0) (h : impl_articleOf.f k l0 a1 = some r) :
  Calls Try.prog 113 #[.slice A0 l0.length c0, .string a1] w fun e w' => e = .returned (.int .i64 r) ∧ Below w.heap.size w w' := by
 have hu92 := Try.underlying92
 have HR0 := Aside0.mk hr0
 have HC0 := Aside0.mk hc0
 clear hr0 hc0
 have HB := Aside0.mk (Below.refl w.heap.size w)
 have H : (impl_articleOf.l0 k a1 l0 (l0.length : Int) 0) = some r := h
 clear h
 have H' := Aside0.mk H
 clear H
 go_enter Try.func113, Try.ntmps113
 go_wp2
 go_loopg [9] k (fun kq v9 w' => ∃ (x9_1 : Int), v9 = .int .i64 x9_1 ∧ Aside0 (impl_articleOf.l0 kq a1 l0 (l0.length : Int) x9_1 = some r) ∧ Aside0 (kq ≤ k) ∧ Aside0 (Below w.heap.size w w'))
 case atStart => exact ⟨(0), Za, H', ⟨Nat.le_refl _⟩, ⟨Zc⟩⟩
 case round =>
  clear H'
  try clear c1
  try clear p2
  obtain ⟨x9_1, rfl, HA, HK1, HB⟩ := hrel
  cases gk with
  | zero => exact absurd HA.out (by simp [impl_articleOf.l0])
  | succ k1 =>
   have H := HA.out
   clear HA
   simp only [impl_articleOf.l0] at H
   by_cases c3 : x9_1 < (l0.length : Int)
   ·rw [if_pos c3] at H
    have c3b0 : decide (x9_1 < (l0.length : Int)) = true := decide_eq_true c3
    clear c3
    by_cases c4 : 0 ≤ x9_1
    ·rw [if_pos c4] at H
     have c4b0 : decide (0 ≤ x9_1) = true := decide_eq_true c4
     clear c4
     by_cases c5 : x9_1 < (l0.length : Int)
     ·rw [if_pos c5] at H
      have c5b0 : decide (x9_1 < (l0.length : Int)) = true := decide_eq_true c5
      clear c5
      by_cases c6 : ((rd_T92 l0 x9_1).f0).toList = a1.toList
      ·rw [if_pos c6] at H
       have c6b0 : (((rd_T92 l0 x9_1).f0).toList == a1.toList) = true := beq_iff_eq.mpr c6
       have c6b1 : (((rd_T92 l0 x9_1).f0).toList != a1.toList) = false := bne_eq_false_iff_eq.mpr c6
       clear c6
       obtain rfl := Option.some.inj H
       have p304 : 0 ≤ (x9_1 : Int) := of_decide_eq_true Zp
       have q304 : x9_1 < (l0.length : Int) := of_decide_eq_true Zp
       obtain ⟨ad304, e304, hx304_0, hx304_1, hx304_2, hx304_3, hx304_4, hx304_5, hx304_6, hx304_7, hx304_8⟩ := at_T92 HR0.out x9_1 p304 q304
       cases e304
       replace hx304_0 := cbH HB hx304_0
       replace hx304_1 := cbH HB hx304_1
       replace hx304_2 := cbH HB hx304_2
       replace hx304_3 := cbH HB hx304_3
       replace hx304_4 := cbH HB hx304_4
       replace hx304_5 := cbH HB hx304_5
       replace hx304_6 := cbH HB hx304_6
       replace hx304_7 := cbH HB hx304_7
       replace hx304_8 := cbH HB hx304_8
       replace p304 := eq_true p304
       replace q304 := eq_true q304
       go_wp2_with (first | ((with_reducible refine gate_dst (N := 6) rfl ?_); refine box_event ?hg (N := 6) ?hd (cs := #[.string (⟨#[]⟩ : ByteArray), .int .i64 0, .int .i64 0, .int .i64 0, .int .i64 0, .int .i64 0, .int .i64 0, .int .i64 0, .int .i64 0]) (t := 92) ?hr ?_; (case hd => rfl); (case hg => rfl); (case hr => first | (go_simp; done) | (go_simp; rfl)); intro gb305 hg w7 hbox hb; have n0_ := Aside0.mk (below_step Zc hb); have n1_ := Aside0.mk (hbox); have n2_ := Aside0.mk ((Zd : w.heap.size ≤ gb305)); have n3_ := Aside0.mk ((Zd : w.heap.size ≤ gb305)); clear HB; have HB := n0_; have BK305 := n1_; have GW305 := n2_; have GE305 := n3_; clear n0_ n1_ n2_ n3_; clear hb hbox hg; obtain ⟨hcz8_0, hcz8_1, hcz8_2, hcz8_3, hcz8_4, hcz8_5, hcz8_6, hcz8_7, hcz8_8, hfz8_0, hfz8_1, hfz8_2, hfz8_3, hfz8_4, hfz8_5, hfz8_6, hfz8_7, hfz8_8⟩ := cz9 BK305))
       go_ret
       exact ⟨Zk, (have z0_ := GE305; Zf)⟩
      ·rw [if_neg c6] at H
       have c6b0 : (((rd_T92 l0 x9_1).f0).toList == a1.toList) = false := beq_eq_false_iff_ne.mpr c6
       have c6b1 : (((rd_T92 l0 x9_1).f0).toList != a1.toList) = true := bne_iff_ne.mpr c6
       have H' := Aside0.mk H
       clear H
       have p304 : 0 ≤ (x9_1 : Int) := of_decide_eq_true Zp
       have q304 : x9_1 < (l0.length : Int) := of_decide_eq_true Zp
       obtain ⟨ad304, e304, hx304_0, hx304_1, hx304_2, hx304_3, hx304_4, hx304_5, hx304_6, hx304_7, hx304_8⟩ := at_T92 HR0.out x9_1 p304 q304
       cases e304
       replace hx304_0 := cbH HB hx304_0
       replace hx304_1 := cbH HB hx304_1
       replace hx304_2 := cbH HB hx304_2
       replace hx304_3 := cbH HB hx304_3
       replace hx304_4 := cbH HB hx304_4
       replace hx304_5 := cbH HB hx304_5
       replace hx304_6 := cbH HB hx304_6
       replace hx304_7 := cbH HB hx304_7
       replace hx304_8 := cbH HB hx304_8
       replace p304 := eq_true p304
       replace q304 := eq_true q304
       go_wp2_with (first | ((with_reducible refine gate_dst (N := 6) rfl ?_); refine box_event ?hg (N := 6) ?hd (cs := #[.string (⟨#[]⟩ : ByteArray), .int .i64 0, .int .i64 0, .int .i64 0, .int .i64 0, .int .i64 0, .int .i64 0, .int .i64 0, .int .i64 0]) (t := 92) ?hr ?_; (case hd => rfl); (case hg => rfl); (case hr => first | (go_simp; done) | (go_simp; rfl)); intro gb305 hg w9 hbox hb; have n0_ := Aside0.mk (below_step Zc hb); have n1_ := Aside0.mk (hbox); have n2_ := Aside0.mk ((Zd : w.heap.size ≤ gb305)); have n3_ := Aside0.mk ((Zd : w.heap.size ≤ gb305)); clear HB; have HB := n0_; have BK305 := n1_; have GW305 := n2_; have GE305 := n3_; clear n0_ n1_ n2_ n3_; clear hb hbox hg; obtain ⟨hcz10_0, hcz10_1, hcz10_2, hcz10_3, hcz10_4, hcz10_5, hcz10_6, hcz10_7, hcz10_8, hfz10_0, hfz10_1, hfz10_2, hfz10_3, hfz10_4, hfz10_5, hfz10_6, hfz10_7, hfz10_8⟩ := cz9 BK305))
       go_roundg k1
       case measure => have := HK1.out; omega
       case rel => exact ⟨(wrap64 (x9_1 + 1)), Za, H', ⟨Zt⟩, ⟨(have z0_ := GE305; Zf)⟩⟩
     ·rw [if_neg c5] at H
      exact absurd H (by simp)
    ·rw [if_neg c4] at H
     exact absurd H (by simp)
   ·rw [if_neg c3] at H
    have c3b0 : decide (x9_1 < (l0.length : Int)) = false := decide_eq_false c3
    clear c3
    obtain rfl := Option.some.inj H
    go_wp2
    go_ret
    exact ⟨Zk, Zc⟩
end Go.Proofs.Ytnlbaflbhicooaa.F
namespace Go.Proofs.Ytnlbaflbhicooaa.F
open Go.RowKit Go.Proofs.YtnlbaflbhicooaaW.PrintWords Go.Proofs.YtnlbaflbhicooaaW.PrintLast Go.Proofs.YtnlbaflbhicooaaW.PrintMore
attribute [local go_sem] max2_int min2_int max_two min_two max_three min_three max_four min_four   -- for this text's walks alone
set_option linter.unusedVariables false
set_option linter.unusedSimpArgs false
def impl_isIndex.f (a0 : Int) (a1 : Int) : Option (Bool) := (impl_within.f a0 0 (wrap64 (a1 - 1))).bind fun t306 => (some t306)
set_option maxHeartbeats 8000000 in
set_option maxRecDepth 100000 in
theorem impl_isIndex.calls (a0 : Int) (a1 : Int) (r : Bool) (w : World) (h : impl_isIndex.f a0 a1 = some r) :
  Calls Try.prog 73 #[.int .i64 a0, .int .i64 a1] w fun e w' => e = .returned (.bool r) ∧ Drawn0 w w' := by
 have H : ((impl_within.f a0 0 (wrap64 (a1 - 1))).bind fun t306 => (some t306)) = some r := h
 clear h
 replace H := Option.bind_eq_some_iff.mp H
 obtain ⟨t306, A30, H⟩ := H
 replace H : (some t306) = some r := H
 have A3 := Aside0.mk A30
 clear A30
 obtain rfl := Option.some.inj H
 go_enter Try.func73, Try.ntmps73
 go_wp2_with (first | ((with_reducible refine gate_callee (f := 89) rfl ?_); refine goesL_ (some 8) rfl rfl Try.func89 Zj rfl #[.int .i64 a0, .int .i64 0, .int .i64 (wrap64 (a1 - 1))] rfl Zo ?_; (with_reducible refine (impl_within.calls a0 0 (wrap64 (a1 - 1)) t306 _ A3.out).mono ?_); rintro e w' ⟨rfl, ⟨nd, rfl⟩⟩; refine ⟨_, rfl, ?_⟩))
 go_ret
 exact ⟨Za, Zb⟩
end Go.Proofs.Ytnlbaflbhicooaa.F
namespace Go.Proofs.Ytnlbaflbhicooaa.F
open Go.RowKit Go.Proofs.YtnlbaflbhicooaaW.PrintWords Go.Proofs.YtnlbaflbhicooaaW.PrintLast Go.Proofs.YtnlbaflbhicooaaW.PrintMore
attribute [local go_sem] max2_int min2_int max_two min_two max_three min_three max_four min_four   -- for this text's walks alone
set_option linter.unusedVariables false
set_option linter.unusedSimpArgs false
def impl_isBeat.f (l0 : List (S108)) (a1 : Int) (a2 : Int) : Option (Bool) := (impl_isIndex.f a1 (l0.length : Int)).bind fun t307 => (if t307 = true then (if 0 ≤ a1 then (if a1 < (l0.length : Int) then ((impl_within.f a2 0 (wrap64 (((rd_T108 l0 a1).f0) - 1))).bind fun t309 => (some t309)) else (none)) else (none)) else (some false))
set_option maxHeartbeats 8000000 in
set_option maxRecDepth 100000 in
theorem impl_isBeat.calls (A0 : Option Addr) (c0 : Nat) (l0 : List (S108)) (a1 : Int) (a2 : Int) (r : Bool) (w : World) (hr0 : Kd.C k108 w A0 l0.length l0) (hc0 : l0.length ≤ c0) (h : impl_isBeat.f l0 a1 a2 = some r) :
  Calls Try.prog 130 #[.slice A0 l0.length c0, .int .i64 a1, .int .i64 a2] w fun e w' => e = .returned (.bool r) ∧ Drawn0 w w' := by
 have HR0 := Aside0.mk hr0
 have HC0 := Aside0.mk hc0
 clear hr0 hc0
 have H : ((impl_isIndex.f a1 (l0.length : Int)).bind fun t307 => (if t307 = true then (if 0 ≤ a1 then (if a1 < (l0.length : Int) then ((impl_within.f a2 0 (wrap64 (((rd_T108 l0 a1).f0) - 1))).bind fun t309 => (some t309)) else (none)) else (none)) else (some false))) = some r := h
 clear h
 replace H := Option.bind_eq_some_iff.mp H
 obtain ⟨t307, A40, H⟩ := H
 replace H : (if t307 = true then (if 0 ≤ a1 then (if a1 < (l0.length : Int) then ((impl_within.f a2 0 (wrap64 (((rd_T108 l0 a1).f0) - 1))).bind fun t309 => (some t309)) else (none)) else (none)) else (some false)) = some r := H
 have A4 := Aside0.mk A40
 clear A40
 by_cases c5 : t307 = true
 ·subst c5
  have H1 : (if 0 ≤ a1 then (if a1 < (l0.length : Int) then ((impl_within.f a2 0 (wrap64 (((rd_T108 l0 a1).f0) - 1))).bind fun t309 => (some t309)) else (none)) else (none)) = some r := by rw [if_pos rfl] at H; exact H
  clear H
  have H := H1
  clear H1
  by_cases c6 : 0 ≤ a1
  ·rw [if_pos c6] at H
   have c6b0 : decide (0 ≤ a1) = true := decide_eq_true c6
   clear c6
   by_cases c7 : a1 < (l0.length : Int)
   ·rw [if_pos c7] at H
    have c7b0 : decide (a1 < (l0.length : Int)) = true := decide_eq_true c7
    clear c7
    replace H := Option.bind_eq_some_iff.mp H
    obtain ⟨t309, A80, H⟩ := H
    replace H : (some t309) = some r := H
    have A8 := Aside0.mk A80
    clear A80
    obtain rfl := Option.some.inj H
    go_enter Try.func130, Try.ntmps130
    go_wp2_with (first | ((with_reducible refine gate_callee (f := 73) rfl ?_); refine goesL_ (some 10) rfl rfl Try.func73 Zj rfl #[.int .i64 a1, .int .i64 (l0.length : Int)] rfl Zo ?_; (with_reducible refine (impl_isIndex.calls a1 (l0.length : Int) true _ A4.out).mono ?_); rintro e w' ⟨rfl, ⟨nd, rfl⟩⟩; refine ⟨_, rfl, ?_⟩; have p308 : 0 ≤ (a1 : Int) := of_decide_eq_true Zp; have q308 : a1 < (l0.length : Int) := of_decide_eq_true Zp; obtain ⟨ad308, e308, hx308_0, hx308_1⟩ := at_T108 HR0.out a1 p308 q308; cases e308; replace p308 := eq_true p308; replace q308 := eq_true q308) | (go_at_call 89; (with_reducible refine (impl_within.calls a2 0 (wrap64 (((rd_T108 l0 a1).f0) - 1)) t309 _ A8.out).mono ?_); rintro e w' ⟨rfl, ⟨nd, rfl⟩⟩))
    go_ret
    exact ⟨Za, Zb⟩
   ·rw [if_neg c7] at H
    exact absurd H (by simp)
  ·rw [if_neg c6] at H
   exact absurd H (by simp)
 ·replace c5 := Bool.eq_false_iff.mpr c5
  subst c5
  have H1 : (some false) = some r := by rw [if_neg (show ¬ (false = true) by decide)] at H; exact H
  clear H
  have H := H1
  clear H1
  obtain rfl := Option.some.inj H
  go_enter Try.func130, Try.ntmps130
  go_wp2_with (first | ((with_reducible refine gate_callee (f := 73) rfl ?_); refine goesL_ (some 10) rfl rfl Try.func73 Zj rfl #[.int .i64 a1, .int .i64 (l0.length : Int)] rfl Zo ?_; (with_reducible refine (impl_isIndex.calls a1 (l0.length : Int) false _ A4.out).mono ?_); rintro e w' ⟨rfl, ⟨nd, rfl⟩⟩; refine ⟨_, rfl, ?_⟩))
  go_ret
  exact ⟨Za, Zb⟩
end Go.Proofs.Ytnlbaflbhicooaa.F
namespace Go.Proofs.Ytnlbaflbhicooaa.F
open Go.RowKit Go.Proofs.YtnlbaflbhicooaaW.PrintWords Go.Proofs.YtnlbaflbhicooaaW.PrintLast Go.Proofs.YtnlbaflbhicooaaW.PrintMore
attribute [local go_sem] max2_int min2_int max_two min_two max_three min_three max_four min_four   -- for this text's walks alone
set_option linter.unusedVariables false
set_option linter.unusedSimpArgs false
def impl_beatTime.l0 : Nat → List (S108) → Int → Int → Int → List (S108) → Int → Int → Option (Int)
 | 0, _, _, _, _, _, _, _ => none
 | k + 1, x0, x1, x2, x7, x12, x13, x14 => if x14 < x13 then (if 0 ≤ x14 then (if x14 < (x12.length : Int) then (impl_beatTime.l0 k x0 x1 x2 (wrap64 (x7 + (wrap64 (((rd_T108 x12 x14).f0) * ((rd_T108 x12 x14).f1))))) x12 x13 (wrap64 (x14 + 1))) else (none)) else (none)) else (if x2 > 0 then (if 0 ≤ x1 then (if x1 < (x0.length : Int) then (some (wrap64 (x7 + (wrap64 (x2 * ((rd_T108 x0 x1).f1)))))) else (none)) else (none)) else (some x7))
def impl_beatTime.f (k : Nat) (l0 : List (S108)) (a1 : Int) (a2 : Int) : Option (Int) := if 0 ≤ a1 then (if a1 ≤ (l0.length : Int) then ((some (l0.take (a1 : Int).toNat : List (S108))).bind fun y310 => (impl_beatTime.l0 k l0 a1 a2 0 y310 (y310.length : Int) 0)) else (none)) else (none)
set_option maxHeartbeats 8000000 in
set_option maxRecDepth 100000 in
theorem impl_beatTime.calls (k : Nat) (A0 : Option Addr) (c0 : Nat) (l0 : List (S108)) (a1 : Int) (a2 : Int) (r : Int) (w : World) (hr0 : Kd.C k108 w A0 l0.length l0) (hc0 : l0.length ≤ c0) (h : impl_beatTime.f k l0 a1 a2 = some r) :
  Calls Try.prog 131 #[.slice A0 l0.length c0, .int .i64 a1, .int .i64 a2] w fun e w' => e = .returned (.int .i64 r) ∧ Below w.heap.size w w' := by
 have hu108 := Try.underlying108
 have HR0 := Aside0.mk hr0
 have HC0 := Aside0.mk hc0
 clear hr0 hc0
 have HB := Aside0.mk (Below.refl w.heap.size w)
 have H : (if 0 ≤ a1 then (if a1 ≤ (l0.length : Int) then ((some (l0.take (a1 : Int).toNat : List (S108))).bind fun y310 => (impl_beatTime.l0 k l0 a1 a2 0 y310 (y310.length : Int) 0)) else (none)) else (none)) = some r := h
 clear h
 by_cases c4 : 0 ≤ a1
 ·rw [if_pos c4] at H
  have c4b0 := eq_true c4
  have c4b1 : decide (0 ≤ a1) = true := decide_eq_true c4
  clear c4
  by_cases c5 : a1 ≤ (l0.length : Int)
  ·rw [if_pos c5] at H
   have c5b0 := eq_true c5
   have c5b1 : decide (a1 ≤ (l0.length : Int)) = true := decide_eq_true c5
   clear c5
   obtain ⟨y310, hy310⟩ : ∃ y_ : List (S108), y_ = (l0.take (a1 : Int).toNat) := ⟨_, rfl⟩
   replace H : (impl_beatTime.l0 k l0 a1 a2 0 y310 (y310.length : Int) 0) = some r := by first | (rw [hy310]; with_reducible exact H) | (have H2_ := (Option.bind_some _ _).symm.trans H; rw [hy310]; with_reducible exact H2_) | (have H2_ := (Option.bind_some _ _).symm.trans H; with_reducible exact H2_) | with_reducible exact H | (rw [hy310]; exact H) | exact H
   have Ny310 := Aside0.mk hy310
   clear hy310
   have H' := Aside0.mk H
   clear H
   have q6 : (a1 : Int) ≤ ((l0.length : Int) : Int) := of_decide_eq_true Zp
   obtain ⟨i06, hi06, _, hsz6, _⟩ := info_parts info108
   have hroom6 : l0.length ≤ c0 := HC0.out
   have hC6 : Kd.C k108 _ A0 l0.length l0 := HR0.out
   have hcut6 := cut_to (P := Try.prog) 28 108 .i64 Try.underlying28 hi06 A0 l0.length c0 a1 (of_decide_eq_true Zp) q6 hroom6
   have hr6 := Kd.C_take (m := (a1 : Int).toNat) hC6 (by omega)
   have hy6 : y310.length = (a1 : Int).toNat := (by rw [Ny310.out, List.length_take]; omega)
   rw [← Ny310.out] at hr6
   rw [← hy6] at hcut6
   have HR313 := Aside0.mk hr6
   have HC313 := Aside0.mk (show y310.length ≤ c0 from by omega)
   clear hr6 hC6 hroom6 hi06 hsz6
   have KY6 := Aside0.mk hy6
   clear hy6
   replace q6 := eq_true q6
   go_enter Try.func131, Try.ntmps131
   go_wp2
   go_loopg [7, 14] k (fun kq v7 v14 w' => ∃ (x7_1 : Int) (x14_1 : Int), v7 = .int .i64 x7_1 ∧ v14 = .int .i64 x14_1 ∧ Aside0 (impl_beatTime.l0 kq l0 a1 a2 x7_1 y310 (y310.length : Int) x14_1 = some r) ∧ Aside0 (kq ≤ k) ∧ Aside0 (Below w.heap.size w w'))
   case atStart => exact ⟨(0), (0), Za, Za, H', ⟨Nat.le_refl _⟩, ⟨Zc⟩⟩
   case round =>
    clear H'
    try clear c1
    try clear p2
    try clear c4
    try clear c4b0
    try clear c4b1
    try clear c5
    try clear c5b0
    try clear c5b1
    try clear q6
    try clear q6
    obtain ⟨x7_1, x14_1, rfl, rfl, HA, HK1, HB⟩ := hrel
    cases gk with
    | zero => exact absurd HA.out (by simp [impl_beatTime.l0])
    | succ k1 =>
     have H := HA.out
     clear HA
     simp only [impl_beatTime.l0] at H
     by_cases c7 : x14_1 < (y310.length : Int)
     ·rw [if_pos c7] at H
      have c7b0 : decide (x14_1 < (y310.length : Int)) = true := decide_eq_true c7
      clear c7
      by_cases c8 : 0 ≤ x14_1
      ·rw [if_pos c8] at H
       have c8b0 : decide (0 ≤ x14_1) = true := decide_eq_true c8
       clear c8
       by_cases c9 : x14_1 < (y310.length : Int)
       ·rw [if_pos c9] at H
        have c9b0 : decide (x14_1 < (y310.length : Int)) = true := decide_eq_true c9
        clear c9
        have H' := Aside0.mk H
        clear H
        have p314 : 0 ≤ (x14_1 : Int) := of_decide_eq_true Zp
        have q314 : x14_1 < (y310.length : Int) := of_decide_eq_true Zp
        obtain ⟨ad314, e314, hx314_0, hx314_1⟩ := at_T108 HR313.out x14_1 p314 q314
        cases e314
        replace hx314_0 := cbH HB hx314_0
        replace hx314_1 := cbH HB hx314_1
        replace p314 := eq_true p314
        replace q314 := eq_true q314
        go_wp2_with (first | ((with_reducible refine gate_dst (N := 9) rfl ?_); refine box_event ?hg (N := 9) ?hd (cs := #[.int .i64 0, .int .i64 0]) (t := 108) ?hr ?_; (case hd => rfl); (case hg => rfl); (case hr => first | (go_simp; done) | (go_simp; rfl)); intro gb315 hg w10 hbox hb; have n0_ := Aside0.mk (below_step Zc hb); have n1_ := Aside0.mk (hbox); have n2_ := Aside0.mk ((Zd : w.heap.size ≤ gb315)); have n3_ := Aside0.mk ((Zd : w.heap.size ≤ gb315)); clear HB; have HB := n0_; have BK315 := n1_; have GW315 := n2_; have GE315 := n3_; clear n0_ n1_ n2_ n3_; clear hb hbox hg; obtain ⟨hcz11_0, hcz11_1, hfz11_0, hfz11_1⟩ := cz2 BK315))
        go_roundg k1
        case measure => have := HK1.out; omega
        case rel => exact ⟨(wrap64 (x7_1 + (wrap64 (((rd_T108 y310 x14_1).f0) * ((rd_T108 y310 x14_1).f1))))), (wrap64 (x14_1 + 1)), Za, Za, H', ⟨Zt⟩, ⟨(have z0_ := GE315; Zf)⟩⟩
       ·rw [if_neg c9] at H
        exact absurd H (by simp)
      ·rw [if_neg c8] at H
       exact absurd H (by simp)
     ·rw [if_neg c7] at H
      have c7b0 : decide (x14_1 < (y310.length : Int)) = false := decide_eq_false c7
      clear c7
      by_cases c12 : a2 > 0
      ·rw [if_pos c12] at H
       have c12b0 : decide (0 < a2) = true := decide_eq_true c12
       clear c12
       by_cases c13 : 0 ≤ a1
       ·rw [if_pos c13] at H
        have c13b0 : decide (0 ≤ a1) = true := decide_eq_true c13
        clear c13
        by_cases c14 : a1 < (l0.length : Int)
        ·rw [if_pos c14] at H
         have c14b0 : decide (a1 < (l0.length : Int)) = true := decide_eq_true c14
         clear c14
         obtain rfl := Option.some.inj H
         have p316 : 0 ≤ (a1 : Int) := of_decide_eq_true Zp
         have q316 : a1 < (l0.length : Int) := of_decide_eq_true Zp
         obtain ⟨ad316, e316, hx316_0, hx316_1⟩ := at_T108 HR0.out a1 p316 q316
         cases e316
         replace hx316_0 := cbH HB hx316_0
         replace hx316_1 := cbH HB hx316_1
         replace p316 := eq_true p316
         replace q316 := eq_true q316
         go_wp2
         go_ret
         exact ⟨Zk, Zc⟩
        ·rw [if_neg c14] at H
         exact absurd H (by simp)
       ·rw [if_neg c13] at H
        exact absurd H (by simp)
      ·rw [if_neg c12] at H
       have c12b0 : decide (0 < a2) = false := decide_eq_false c12
       clear c12
       obtain rfl := Option.some.inj H
       go_wp2
       go_ret
       exact ⟨Zk, Zc⟩
  ·rw [if_neg c5] at H
   exact absurd H (by simp)
 ·rw [if_neg c4] at H
  exact absurd H (by simp)
end Go.Proofs.Ytnlbaflbhicooaa.F
namespace Go.Proofs.Ytnlbaflbhicooaa.F
open Go.RowKit Go.Proofs.YtnlbaflbhicooaaW.PrintWords Go.Proofs.YtnlbaflbhicooaaW.PrintLast Go.Proofs.YtnlbaflbhicooaaW.PrintMore
attribute [local go_sem] max2_int min2_int max_two min_two max_three min_three max_four min_four   -- for this text's walks alone
set_option linter.unusedVariables false
set_option linter.unusedSimpArgs false
def impl_firedAt.f (k : Nat) (l0_0 : List (S108)) (l0_1 : List (S92)) (l0_2 : List (S43)) (a1_0 : Int) (a1_1 : Int) (a1_2 : ByteArray) (a1_3 : Int) : Option (Int) := (impl_articleOf.f k l0_1 a1_2).bind fun t319 => (if t319 < 0 then (some (-1)) else ((impl_isBeat.f l0_0 a1_0 a1_1).bind fun t320 => (if t320 = true then ((impl_beatTime.f k l0_0 a1_0 a1_1).bind fun t321 => (if 0 ≤ t319 then (if t319 < (l0_1.length : Int) then (some (mx (-1) (wrap64 (t321 - ((rd_T92 l0_1 t319).f3))))) else (none)) else (none))) else (some (-1)))))
def impl_firedAt.T4 : Bool × List (List Nat × List Nat) := (true, [([], []), ([0], [0]), ([], []), ([2], [2]), ([], []), ([4], [4]), ([1, 3, 5], [1, 3, 5]), ([], []), ([7], [7]), ([], []), ([8, 9], [8, 9]), ([10], [10]), ([11], [11]), ([6, 12], [6, 12]), ([13], [13]), ([14, 6, 0, 1, 2, 3, 4, 5, 6, 7, 8, 9, 10, 11, 12, 13, 14], [14])])
def impl_firedAt.B4 : List Nat := [0, 1, 0, 4, 0, 16, 63, 0, 128, 0, 896, 1920, 3968, 8191, 16383, 32767]
theorem impl_firedAt.tab4 : rtab .any (opsOf Try.f98 4) = impl_firedAt.T4 := by kernel_rfl
theorem impl_firedAt.bits4 : waitsOk impl_firedAt.T4.2 impl_firedAt.B4 = true := by kernel_rfl
set_option maxHeartbeats 8000000 in
set_option maxRecDepth 100000 in
theorem impl_firedAt.calls (k : Nat) (A0_0 : Option Addr) (c0_0 : Nat) (l0_0 : List (S108)) (A0_1 : Option Addr) (c0_1 : Nat) (l0_1 : List (S92)) (A0_2 : Option Addr) (c0_2 : Nat) (l0_2 : List (S43)) (a1_0 : Int) (a1_1 : Int) (a1_2 : ByteArray) (a1_3 : Int) (r : Int) (w : World) (hr0_0 : Kd.C k108 w A0_0 l0_0.length l0_0) (hc0_0 : l0_0.length ≤ c0_0) (hr0_1 : Kd.C k92 w A0_1 l0_1.length l0_1) (hc0_1 : l0_1.length ≤ c0_1) (hr0_2 : Kd.C k43 w A0_2 l0_2.length l0_2) (hc0_2 : l0_2.length ≤ c0_2) (h : impl_firedAt.f k l0_0 l0_1 l0_2 a1_0 a1_1 a1_2 a1_3 = some r) :
  Calls Try.prog 98 #[.agg #[.slice A0_0 l0_0.length c0_0, .slice A0_1 l0_1.length c0_1, .slice A0_2 l0_2.length c0_2], .agg #[.int .i64 a1_0, .int .i64 a1_1, .string a1_2, .int .i64 a1_3]] w fun e w' => e = .returned (.int .i64 r) ∧ Below w.heap.size w w' := by
 have hu32 := Try.underlying32
 have hu43 := Try.underlying43
 have HR0_0 := Aside0.mk hr0_0
 have HC0_0 := Aside0.mk hc0_0
 clear hr0_0 hc0_0
 have HR0_1 := Aside0.mk hr0_1
 have HC0_1 := Aside0.mk hc0_1
 clear hr0_1 hc0_1
 have HR0_2 := Aside0.mk hr0_2
 have HC0_2 := Aside0.mk hc0_2
 clear hr0_2 hc0_2
 have HB := Aside0.mk (Below.refl w.heap.size w)
 have H : ((impl_articleOf.f k l0_1 a1_2).bind fun t319 => (if t319 < 0 then (some (-1)) else ((impl_isBeat.f l0_0 a1_0 a1_1).bind fun t320 => (if t320 = true then ((impl_beatTime.f k l0_0 a1_0 a1_1).bind fun t321 => (if 0 ≤ t319 then (if t319 < (l0_1.length : Int) then (some (mx (-1) (wrap64 (t321 - ((rd_T92 l0_1 t319).f3))))) else (none)) else (none))) else (some (-1)))))) = some r := h
 clear h
 replace H := Option.bind_eq_some_iff.mp H
 obtain ⟨t319, A30, H⟩ := H
 replace H : (if t319 < 0 then (some (-1)) else ((impl_isBeat.f l0_0 a1_0 a1_1).bind fun t320 => (if t320 = true then ((impl_beatTime.f k l0_0 a1_0 a1_1).bind fun t321 => (if 0 ≤ t319 then (if t319 < (l0_1.length : Int) then (some (mx (-1) (wrap64 (t321 - ((rd_T92 l0_1 t319).f3))))) else (none)) else (none))) else (some (-1))))) = some r := H
 have A3 := Aside0.mk A30
 clear A30
 by_cases c4 : t319 < 0
 ·rw [if_pos c4] at H
  have c4b0 : decide (t319 < 0) = true := decide_eq_true c4
  clear c4
  obtain rfl := Option.some.inj H
  go_enter Try.func98, Try.ntmps98
  go_wp2_with (first | ((with_reducible refine gate_dst (N := 2) rfl ?_); refine box_event ?hg (N := 2) ?hd (cs := #[.slice A0_0 l0_0.length c0_0, .slice A0_1 l0_1.length c0_1, .slice A0_2 l0_2.length c0_2]) (t := 32) ?hr ?_; (case hd => rfl); (case hg => rfl); (case hr => first | (go_simp; done) | (go_simp; rfl)); intro gb317 hg w5 hbox hb; have n0_ := Aside0.mk (below_step Zc hb); have n1_ := Aside0.mk (hbox); have n2_ := Aside0.mk ((Zd : w.heap.size ≤ gb317)); have n3_ := Aside0.mk ((Zd : w.heap.size ≤ gb317)); clear HB; have HB := n0_; have BK317 := n1_; have GW317 := n2_; have GE317 := n3_; clear n0_ n1_ n2_ n3_; clear hb hbox hg) | ((with_reducible refine gate_dst (N := 3) rfl ?_); refine box_event ?hg (N := 3) ?hd (cs := #[.int .i64 a1_0, .int .i64 a1_1, .string a1_2, .int .i64 a1_3]) (t := 43) ?hr ?_; (case hd => rfl); (case hg => rfl); (case hr => first | (go_simp; done) | (go_simp; rfl)); intro gb318 hg w6 hbox hb; have n0_ := Aside0.mk (blk_below (g := gb317) (o := .cells #[.slice A0_0 l0_0.length c0_0, .slice A0_1 l0_1.length c0_1, .slice A0_2 l0_2.length c0_2] 32 (0, 0)) (have z0_ := BK317; Ze) hb); have n1_ := Aside0.mk (below_step (have z0_ := GE317; Zf) hb); have n2_ := Aside0.mk (hbox); have n3_ := Aside0.mk (((have z0_ := GE317; Zg) : w.heap.size ≤ gb318)); have n4_ := Aside0.mk (((have z0_ := GE317; Zg) : w.heap.size ≤ gb318)); have n5_ := Aside0.mk (((have z0_ := BK317; Zau) : gb317 ≠ gb318)); have n6_ := Aside0.mk (((have z0_ := BK317; Zav) : gb318 ≠ gb317)); clear BK317; clear HB; have BK317 := n0_; have HB := n1_; have BK318 := n2_; have GW318 := n3_; have GE318 := n4_; have NB317_318 := n5_; have NB318_317 := n6_; clear n0_ n1_ n2_ n3_ n4_ n5_ n6_; clear hb hbox hg; have hnb7 := NB317_318.out; have hnc7 := NB318_317.out; obtain ⟨hcz8_0, hcz8_1, hcz8_2, hfz8_0, hfz8_1, hfz8_2⟩ := cz3 BK317; obtain ⟨hcz9_0, hcz9_1, hcz9_2, hcz9_3, hfz9_0, hfz9_1, hfz9_2, hfz9_3⟩ := cz4 BK318) | ((with_reducible refine gate_callee (f := 113) rfl ?_); refine goesL_ (some 10) rfl rfl Try.func113 Zj rfl #[.slice A0_1 l0_1.length c0_1, .string a1_2] rfl Zo ?_; (with_reducible refine (impl_articleOf.calls k _ _ l0_1 a1_2 t319 _ ?side1 ?side2 A3.out).mono ?_); (case side1 => repeat (first | exact (Kd.C_below HR0_1.out HB.out) | (with_reducible refine Kd.C_alloc ?_ _) | (with_reducible refine Kd.C_drewN ?_ _) | (with_reducible refine Kd.C_drew ?_))); (case side2 => exact HC0_1.out); rintro e w10 ⟨rfl, hb⟩; refine ⟨_, rfl, ?_⟩; have n0_ := Aside0.mk (blk_below (g := gb317) (o := .cells #[.slice A0_0 l0_0.length c0_0, .slice A0_1 l0_1.length c0_1, .slice A0_2 l0_2.length c0_2] 32 (0, 0)) (have z0_ := BK317; Ze) hb); have n1_ := Aside0.mk (blk_below (g := gb318) (o := .cells #[.int .i64 a1_0, .int .i64 a1_1, .string a1_2, .int .i64 a1_3] 43 (0, 0)) (have z0_ := BK318; Ze) hb); have n2_ := Aside0.mk (below_step (have z0_ := GE317; have z1_ := GE318; Zh) hb); clear BK317; clear BK318; clear HB; have BK317 := n0_; have BK318 := n1_; have HB := n2_; clear n0_ n1_ n2_; (try clear hb); (try clear hb2); (try clear hk); (try clear hi)))
  go_ret
  exact ⟨Zk, (have z0_ := GE317; have z1_ := GE318; Zh)⟩
 ·rw [if_neg c4] at H
  have c4b0 : decide (t319 < 0) = false := decide_eq_false c4
  clear c4
  replace H := Option.bind_eq_some_iff.mp H
  obtain ⟨t320, A110, H⟩ := H
  replace H : (if t320 = true then ((impl_beatTime.f k l0_0 a1_0 a1_1).bind fun t321 => (if 0 ≤ t319 then (if t319 < (l0_1.length : Int) then (some (mx (-1) (wrap64 (t321 - ((rd_T92 l0_1 t319).f3))))) else (none)) else (none))) else (some (-1))) = some r := H
  have A11 := Aside0.mk A110
  clear A110
  by_cases c12 : t320 = true
  ·subst c12
   have H1 : ((impl_beatTime.f k l0_0 a1_0 a1_1).bind fun t321 => (if 0 ≤ t319 then (if t319 < (l0_1.length : Int) then (some (mx (-1) (wrap64 (t321 - ((rd_T92 l0_1 t319).f3))))) else (none)) else (none))) = some r := by rw [if_pos rfl] at H; exact H
   clear H
   have H := H1
   clear H1
   replace H := Option.bind_eq_some_iff.mp H
   obtain ⟨t321, A130, H⟩ := H
   replace H : (if 0 ≤ t319 then (if t319 < (l0_1.length : Int) then (some (mx (-1) (wrap64 (t321 - ((rd_T92 l0_1 t319).f3))))) else (none)) else (none)) = some r := H
   have A13 := Aside0.mk A130
   clear A130
   by_cases c14 : 0 ≤ t319
   ·rw [if_pos c14] at H
    have c14b0 : decide (0 ≤ t319) = true := decide_eq_true c14
    clear c14
    by_cases c15 : t319 < (l0_1.length : Int)
    ·rw [if_pos c15] at H
     have c15b0 : decide (t319 < (l0_1.length : Int)) = true := decide_eq_true c15
     clear c15
     obtain ⟨ji16, hji16⟩ : ∃ j_ : Int, (mx (-1) (wrap64 (t321 - ((rd_T92 l0_1 t319).f3)))) = j_ := ⟨_, rfl⟩
     replace H : (some ji16) = some r := by first | (rw [hji16] at H; exact H) | (simp only [hji16] at H ⊢; exact H)
     (try rw [hji16] at A3)
     (try rw [hji16] at A11)
     (try rw [hji16] at A13)
     have hji16_ : (if (-1) < (wrap64 (t321 - ((rd_T92 l0_1 t319).f3))) then (wrap64 (t321 - ((rd_T92 l0_1 t319).f3))) else (-1)) = ji16 := hji16
     obtain rfl := Option.some.inj H
     go_enter Try.func98, Try.ntmps98
     try go_wp2_with (first | ((with_reducible refine gate_dst (N := 2) rfl ?_); refine box_event ?hg (N := 2) ?hd (cs := #[.slice A0_0 l0_0.length c0_0, .slice A0_1 l0_1.length c0_1, .slice A0_2 l0_2.length c0_2]) (t := 32) ?hr ?_; (case hd => rfl); (case hg => rfl); (case hr => first | (go_simp; done) | (go_simp; rfl)); intro gb317 hg w17 hbox hb; have n0_ := Aside0.mk (below_step Zc hb); have n1_ := Aside0.mk (hbox); have n2_ := Aside0.mk ((Zd : w.heap.size ≤ gb317)); have n3_ := Aside0.mk ((Zd : w.heap.size ≤ gb317)); clear HB; have HB := n0_; have BK317 := n1_; have GW317 := n2_; have GE317 := n3_; clear n0_ n1_ n2_ n3_; clear hb hbox hg) | ((with_reducible refine gate_dst (N := 3) rfl ?_); refine box_event ?hg (N := 3) ?hd (cs := #[.int .i64 a1_0, .int .i64 a1_1, .string a1_2, .int .i64 a1_3]) (t := 43) ?hr ?_; (case hd => rfl); (case hg => rfl); (case hr => first | (go_simp; done) | (go_simp; rfl)); intro gb318 hg w18 hbox hb; have n0_ := Aside0.mk (blk_below (g := gb317) (o := .cells #[.slice A0_0 l0_0.length c0_0, .slice A0_1 l0_1.length c0_1, .slice A0_2 l0_2.length c0_2] 32 (0, 0)) (have z0_ := BK317; Ze) hb); have n1_ := Aside0.mk (below_step (have z0_ := GE317; Zf) hb); have n2_ := Aside0.mk (hbox); have n3_ := Aside0.mk (((have z0_ := GE317; Zg) : w.heap.size ≤ gb318)); have n4_ := Aside0.mk (((have z0_ := GE317; Zg) : w.heap.size ≤ gb318)); have n5_ := Aside0.mk (((have z0_ := BK317; Zau) : gb317 ≠ gb318)); have n6_ := Aside0.mk (((have z0_ := BK317; Zav) : gb318 ≠ gb317)); clear BK317; clear HB; have BK317 := n0_; have HB := n1_; have BK318 := n2_; have GW318 := n3_; have GE318 := n4_; have NB317_318 := n5_; have NB318_317 := n6_; clear n0_ n1_ n2_ n3_ n4_ n5_ n6_; clear hb hbox hg; have hnb19 := NB317_318.out; have hnc19 := NB318_317.out; obtain ⟨hcz20_0, hcz20_1, hcz20_2, hfz20_0, hfz20_1, hfz20_2⟩ := cz3 BK317; obtain ⟨hcz21_0, hcz21_1, hcz21_2, hcz21_3, hfz21_0, hfz21_1, hfz21_2, hfz21_3⟩ := cz4 BK318) | ((with_reducible refine gate_callee (f := 113) rfl ?_); refine goesL_ (some 10) rfl rfl Try.func113 Zj rfl #[.slice A0_1 l0_1.length c0_1, .string a1_2] rfl Zo ?_; (with_reducible refine (impl_articleOf.calls k _ _ l0_1 a1_2 t319 _ ?side1 ?side2 A3.out).mono ?_); (case side1 => repeat (first | exact (Kd.C_below HR0_1.out HB.out) | (with_reducible refine Kd.C_alloc ?_ _) | (with_reducible refine Kd.C_drewN ?_ _) | (with_reducible refine Kd.C_drew ?_))); (case side2 => exact HC0_1.out); rintro e w22 ⟨rfl, hb⟩; refine ⟨_, rfl, ?_⟩; have n0_ := Aside0.mk (blk_below (g := gb317) (o := .cells #[.slice A0_0 l0_0.length c0_0, .slice A0_1 l0_1.length c0_1, .slice A0_2 l0_2.length c0_2] 32 (0, 0)) (have z0_ := BK317; Ze) hb); have n1_ := Aside0.mk (blk_below (g := gb318) (o := .cells #[.int .i64 a1_0, .int .i64 a1_1, .string a1_2, .int .i64 a1_3] 43 (0, 0)) (have z0_ := BK318; Ze) hb); have n2_ := Aside0.mk (below_step (have z0_ := GE317; have z1_ := GE318; Zh) hb); clear BK317; clear BK318; clear HB; have BK317 := n0_; have BK318 := n1_; have HB := n2_; clear n0_ n1_ n2_; (try clear hb); (try clear hb2); (try clear hk); (try clear hi); obtain ⟨hcz23_0, hcz23_1, hcz23_2, hfz23_0, hfz23_1, hfz23_2⟩ := cz3 BK317; obtain ⟨hcz24_0, hcz24_1, hcz24_2, hcz24_3, hfz24_0, hfz24_1, hfz24_2, hfz24_3⟩ := cz4 BK318) | (go_at_call 130; (with_reducible refine (impl_isBeat.calls _ _ l0_0 a1_0 a1_1 true _ ?side1 ?side2 A11.out).mono ?_); (case side1 => repeat (first | exact (Kd.C_below HR0_0.out HB.out) | (with_reducible refine Kd.C_alloc ?_ _) | (with_reducible refine Kd.C_drewN ?_ _) | (with_reducible refine Kd.C_drew ?_))); (case side2 => exact HC0_0.out); rintro e w' ⟨rfl, ⟨nd, rfl⟩⟩))
     (try (rw [drewN_self w22]; generalize hq_ : World.drewN w22 _ = w22; have n0_ : Aside0 (w22.heap[gb317]? = some (.cells #[.slice A0_0 l0_0.length c0_0, .slice A0_1 l0_1.length c0_1, .slice A0_2 l0_2.length c0_2] 32 (0, 0))) := ⟨by rw [← hq_]; exact (have z0_ := BK317; Ze)⟩; have n1_ : Aside0 (w22.heap[gb318]? = some (.cells #[.int .i64 a1_0, .int .i64 a1_1, .string a1_2, .int .i64 a1_3] 43 (0, 0))) := ⟨by rw [← hq_]; exact (have z0_ := BK318; Ze)⟩; have n2_ : Aside0 (Below w.heap.size w w22) := ⟨by rw [← hq_]; exact (have z0_ := GE317; have z1_ := GE318; Zh)⟩; clear BK317 BK318 HB hq_; have BK317 := n0_; have BK318 := n1_; have HB := n2_; clear n0_ n1_ n2_))
     have n0_ := Aside0.mk (blk_drew BK317.out)
     have n1_ := Aside0.mk (blk_drew BK318.out)
     have n2_ := Aside0.mk (below_drew1 HB.out)
     clear BK317
     clear BK318
     clear HB
     have BK317 := n0_
     have BK318 := n1_
     have HB := n2_
     clear n0_ n1_ n2_
     have p322 : 0 ≤ (t319 : Int) := of_decide_eq_true Zp
     have q322 : t319 < (l0_1.length : Int) := of_decide_eq_true Zp
     obtain ⟨ad322, e322, hx322_0, hx322_1, hx322_2, hx322_3, hx322_4, hx322_5, hx322_6, hx322_7, hx322_8⟩ := at_T92 HR0_1.out t319 p322 q322
     have hw322_8 := hx322_8
     have hw322_7 := hx322_7
     have hw322_6 := hx322_6
     have hw322_5 := hx322_5
     have hw322_4 := hx322_4
     have hw322_3 := hx322_3
     have hw322_2 := hx322_2
     have hw322_1 := hx322_1
     have hw322_0 := hx322_0
     cases e322
     replace hx322_0 := cbH HB hx322_0
     replace hx322_1 := cbH HB hx322_1
     replace hx322_2 := cbH HB hx322_2
     replace hx322_3 := cbH HB hx322_3
     replace hx322_4 := cbH HB hx322_4
     replace hx322_5 := cbH HB hx322_5
     replace hx322_6 := cbH HB hx322_6
     replace hx322_7 := cbH HB hx322_7
     replace hx322_8 := cbH HB hx322_8
     replace p322 := eq_true p322
     replace q322 := eq_true q322
     refine start_ (n := 16) (S := fun w' => w'.cell? ⟨gb317, 0, none⟩ = some (.slice A0_0 l0_0.length c0_0) ∧ w'.cell? ⟨gb317, 1, none⟩ = some (.slice (some ad322) l0_1.length c0_1) ∧ w'.cell? ⟨gb317, 2, none⟩ = some (.slice A0_2 l0_2.length c0_2) ∧ w'.cell? ⟨gb318, 0, none⟩ = some (.int .i64 a1_0) ∧ w'.cell? ⟨gb318, 1, none⟩ = some (.int .i64 a1_1) ∧ w'.cell? ⟨gb318, 2, none⟩ = some (.string a1_2) ∧ w'.cell? ⟨gb318, 3, none⟩ = some (.int .i64 a1_3) ∧ w'.cell? (ad322.add ((t319).toNat * 9)) = some (.string ((rd_T92 l0_1 t319).f0)) ∧ w'.cell? ⟨(ad322.add ((t319).toNat * 9)).block, (ad322.add ((t319).toNat * 9)).off + 1, none⟩ = some (.int .i64 ((rd_T92 l0_1 t319).f1)) ∧ w'.cell? ⟨(ad322.add ((t319).toNat * 9)).block, (ad322.add ((t319).toNat * 9)).off + 2, none⟩ = some (.int .i64 ((rd_T92 l0_1 t319).f2)) ∧ w'.cell? ⟨(ad322.add ((t319).toNat * 9)).block, (ad322.add ((t319).toNat * 9)).off + 3, none⟩ = some (.int .i64 ((rd_T92 l0_1 t319).f3)) ∧ w'.cell? ⟨(ad322.add ((t319).toNat * 9)).block, (ad322.add ((t319).toNat * 9)).off + 4, none⟩ = some (.int .i64 ((rd_T92 l0_1 t319).f4)) ∧ w'.cell? ⟨(ad322.add ((t319).toNat * 9)).block, (ad322.add ((t319).toNat * 9)).off + 5, none⟩ = some (.int .i64 ((rd_T92 l0_1 t319).f5)) ∧ w'.cell? ⟨(ad322.add ((t319).toNat * 9)).block, (ad322.add ((t319).toNat * 9)).off + 6, none⟩ = some (.int .i64 ((rd_T92 l0_1 t319).f6)) ∧ w'.cell? ⟨(ad322.add ((t319).toNat * 9)).block, (ad322.add ((t319).toNat * 9)).off + 7, none⟩ = some (.int .i64 ((rd_T92 l0_1 t319).f7)) ∧ w'.cell? ⟨(ad322.add ((t319).toNat * 9)).block, (ad322.add ((t319).toNat * 9)).off + 8, none⟩ = some (.int .i64 ((rd_T92 l0_1 t319).f8))) (ds := []) (bT 16 0) Zj rfl rfl ⟨(blk_cell BK317.out 0).trans rfl, (blk_cell BK317.out 1).trans rfl, (blk_cell BK317.out 2).trans rfl, (blk_cell BK318.out 0).trans rfl, (blk_cell BK318.out 1).trans rfl, (blk_cell BK318.out 2).trans rfl, (blk_cell BK318.out 3).trans rfl, (cbH HB hw322_0 :), (cbH HB hw322_1 :), (cbH HB hw322_2 :), (cbH HB hw322_3 :), (cbH HB hw322_4 :), (cbH HB hw322_5 :), (cbH HB hw322_6 :), (cbH HB hw322_7 :), (cbH HB hw322_8 :)⟩ (fun hHeld => ?_); refine with_tabW impl_firedAt.tab4 impl_firedAt.bits4 (fun HT_ HW_ => ?_)
     generalize w22.drew = w25 at BK317 BK318 HB hx322_0 hx322_1 hx322_2 hx322_3 hx322_4 hx322_5 hx322_6 hx322_7 hx322_8 hHeld ⊢
     refine pureZ HT_ 0 (some 23) (bT 16 1) ?_
     refine pureZ HT_ 2 (some 25) #[true, false, true, false, false, false, false, false, false, false, false, false, false, false, false, false] ?_
     refine pureZ HT_ 4 (some 27) #[true, false, true, false, true, false, false, false, false, false, false, false, false, false, false, false] ?_
     refine pureZ HT_ 7 (some 30) #[true, false, true, false, true, false, false, true, false, false, false, false, false, false, false, false] ?_
     refine pureZ HT_ 9 (some 32) #[true, false, true, false, true, false, false, true, false, true, false, false, false, false, false, false] ?_
     refine take_ (i := 1) (N := some 24) (v := ?_) (a' := ?_) #[true, true, true, false, true, false, false, true, false, true, false, false, false, false, false, false] rfl rfl (take_ofW HT_.out HW_.out Zj) (fun _ _ _ h => h) (Or.inl ⟨by rfl, ?_⟩) hHeld ?_ ?_
     rotate_left
     ·rintro w' ⟨s0, s1, s2, s3, s4, s5, s6, s7, s8, s9, s10, s11, s12, s13, s14, s15⟩
      go_simp
      with_reducible rfl
     rotate_left
     ·exact Zput
     refine take_ (i := 3) (N := some 26) (v := ?_) (a' := ?_) #[true, true, true, true, true, false, false, true, false, true, false, false, false, false, false, false] rfl rfl (take_ofW HT_.out HW_.out Zj) (fun _ _ _ h => h) (Or.inl ⟨by rfl, ?_⟩) hHeld ?_ ?_
     rotate_left
     ·rintro w' ⟨s0, s1, s2, s3, s4, s5, s6, s7, s8, s9, s10, s11, s12, s13, s14, s15⟩
      go_simp
      with_reducible rfl
     rotate_left
     ·exact Zput
     refine take_ (i := 5) (N := some 28) (v := ?_) (a' := ?_) #[true, true, true, true, true, true, false, true, false, true, false, false, false, false, false, false] rfl rfl (take_ofW HT_.out HW_.out Zj) (fun _ _ _ h => h) (Or.inl ⟨by rfl, ?_⟩) hHeld ?_ ?_
     rotate_left
     ·rintro w' ⟨s0, s1, s2, s3, s4, s5, s6, s7, s8, s9, s10, s11, s12, s13, s14, s15⟩
      go_simp
      with_reducible rfl
     rotate_left
     ·exact Zput
     refine take_ (i := 8) (N := some 31) (v := ?_) (a' := ?_) #[true, true, true, true, true, true, false, true, true, true, false, false, false, false, false, false] rfl rfl (take_ofW HT_.out HW_.out Zj) (fun _ _ _ h => h) (Or.inl ⟨by rfl, ?_⟩) hHeld ?_ ?_
     rotate_left
     ·rintro w' ⟨s0, s1, s2, s3, s4, s5, s6, s7, s8, s9, s10, s11, s12, s13, s14, s15⟩
      go_simp
      with_reducible rfl
     rotate_left
     ·exact Zput
     refine pureZ HT_ 10 (some 33) #[true, true, true, true, true, true, false, true, true, true, true, false, false, false, false, false] ?_
     refine pureZ HT_ 11 (some 34) #[true, true, true, true, true, true, false, true, true, true, true, true, false, false, false, false] ?_
     refine take_ (i := 12) (N := some 35) (v := ?_) (a' := ?_) #[true, true, true, true, true, true, false, true, true, true, true, true, true, false, false, false] rfl rfl (take_ofW HT_.out HW_.out Zj) (fun _ _ _ h => h) (Or.inl ⟨by rfl, ?_⟩) hHeld ?_ ?_
     rotate_left
     ·rintro w' ⟨s0, s1, s2, s3, s4, s5, s6, s7, s8, s9, s10, s11, s12, s13, s14, s15⟩
      go_simp
      with_reducible rfl
     rotate_left
     ·exact Zput
     refine one_ (i := 6) (N := some 29) (bT 16 13) rfl rfl (one_of HT_.out Zj) (by decide) (fun K hK => ?_)
     refine goes_ Try.func131 Zj rfl #[.slice A0_0 l0_0.length c0_0, .int .i64 a1_0, .int .i64 a1_1] (by rfl) rfl rfl Zo ?_
     with_reducible refine (impl_beatTime.calls k _ _ l0_0 a1_0 a1_1 t321 _ ?side1 ?side2 A13.out).mono ?_
     (case side1 => repeat (first | exact (Kd.C_below HR0_0.out HB.out) | (with_reducible refine Kd.C_alloc ?_ _) | (with_reducible refine Kd.C_drewN ?_ _) | (with_reducible refine Kd.C_drew ?_)))
     (case side2 => exact HC0_0.out)
     rintro e w26 ⟨rfl, hb⟩
     refine ⟨_, rfl, ?_⟩
     have n0_ := Aside0.mk (blk_below (g := gb317) (o := .cells #[.slice A0_0 l0_0.length c0_0, .slice (some ad322) l0_1.length c0_1, .slice A0_2 l0_2.length c0_2] 32 (0, 0)) (have z0_ := BK317; Ze) hb)
     have n1_ := Aside0.mk (blk_below (g := gb318) (o := .cells #[.int .i64 a1_0, .int .i64 a1_1, .string a1_2, .int .i64 a1_3] 43 (0, 0)) (have z0_ := BK318; Ze) hb)
     have n2_ := Aside0.mk (below_step (have z0_ := GE317; have z1_ := GE318; Zh) hb)
     clear BK317
     clear BK318
     clear HB
     have BK317 := n0_
     have BK318 := n1_
     have HB := n2_
     clear n0_ n1_ n2_
     (try clear hb)
     (try clear hb2)
     (try clear hk)
     (try clear hi)
     refine hK.out _ _ ⟨(blk_cell BK317.out 0).trans rfl, (blk_cell BK317.out 1).trans rfl, (blk_cell BK317.out 2).trans rfl, (blk_cell BK318.out 0).trans rfl, (blk_cell BK318.out 1).trans rfl, (blk_cell BK318.out 2).trans rfl, (blk_cell BK318.out 3).trans rfl, (cbH HB hw322_0 :), (cbH HB hw322_1 :), (cbH HB hw322_2 :), (cbH HB hw322_3 :), (cbH HB hw322_4 :), (cbH HB hw322_5 :), (cbH HB hw322_6 :), (cbH HB hw322_7 :), (cbH HB hw322_8 :)⟩ (fun hHeld => ?_)
     clear hK K
     refine norm_ (a' := ?_) ?_ ?_
     rotate_left
     ·show Act.put _ (some 29) _ = _
      simp only [Act.put, List.setIfInBounds_toArray, List.set_cons_zero, List.set_cons_succ, i64_w, i32_w]
      rfl
     refine pureZ HT_ 13 (some 36) (bT 16 14) ?_
     refine pureZ HT_ 14 (some 37) (bT 16 15) ?_
     refine pureZ HT_ 15 (some 4) (bT 16 16) ?_
     refine done_ (done_of HT_.out Zj) ?_
     try go_wp2
     go_ret
     exact ⟨by first | rfl | (simp [errW_none, errW_some] <;> rfl) | (simp only [← hji16]; first | rfl | (simp [errW_none, errW_some] <;> rfl)) | (simp [*, errW_none, errW_some] <;> rfl), (have z0_ := GE317; have z1_ := GE318; Zh)⟩
    ·rw [if_neg c15] at H
     exact absurd H (by simp)
   ·rw [if_neg c14] at H
    exact absurd H (by simp)
  ·replace c12 := Bool.eq_false_iff.mpr c12
   subst c12
   have H1 : (some (-1)) = some r := by rw [if_neg (show ¬ (false = true) by decide)] at H; exact H
   clear H
   have H := H1
   clear H1
   obtain rfl := Option.some.inj H
   go_enter Try.func98, Try.ntmps98
   go_wp2_with (first | ((with_reducible refine gate_dst (N := 2) rfl ?_); refine box_event ?hg (N := 2) ?hd (cs := #[.slice A0_0 l0_0.length c0_0, .slice A0_1 l0_1.length c0_1, .slice A0_2 l0_2.length c0_2]) (t := 32) ?hr ?_; (case hd => rfl); (case hg => rfl); (case hr => first | (go_simp; done) | (go_simp; rfl)); intro gb317 hg w27 hbox hb; have n0_ := Aside0.mk (below_step Zc hb); have n1_ := Aside0.mk (hbox); have n2_ := Aside0.mk ((Zd : w.heap.size ≤ gb317)); have n3_ := Aside0.mk ((Zd : w.heap.size ≤ gb317)); clear HB; have HB := n0_; have BK317 := n1_; have GW317 := n2_; have GE317 := n3_; clear n0_ n1_ n2_ n3_; clear hb hbox hg) | ((with_reducible refine gate_dst (N := 3) rfl ?_); refine box_event ?hg (N := 3) ?hd (cs := #[.int .i64 a1_0, .int .i64 a1_1, .string a1_2, .int .i64 a1_3]) (t := 43) ?hr ?_; (case hd => rfl); (case hg => rfl); (case hr => first | (go_simp; done) | (go_simp; rfl)); intro gb318 hg w28 hbox hb; have n0_ := Aside0.mk (blk_below (g := gb317) (o := .cells #[.slice A0_0 l0_0.length c0_0, .slice A0_1 l0_1.length c0_1, .slice A0_2 l0_2.length c0_2] 32 (0, 0)) (have z0_ := BK317; Ze) hb); have n1_ := Aside0.mk (below_step (have z0_ := GE317; Zf) hb); have n2_ := Aside0.mk (hbox); have n3_ := Aside0.mk (((have z0_ := GE317; Zg) : w.heap.size ≤ gb318)); have n4_ := Aside0.mk (((have z0_ := GE317; Zg) : w.heap.size ≤ gb318)); have n5_ := Aside0.mk (((have z0_ := BK317; Zau) : gb317 ≠ gb318)); have n6_ := Aside0.mk (((have z0_ := BK317; Zav) : gb318 ≠ gb317)); clear BK317; clear HB; have BK317 := n0_; have HB := n1_; have BK318 := n2_; have GW318 := n3_; have GE318 := n4_; have NB317_318 := n5_; have NB318_317 := n6_; clear n0_ n1_ n2_ n3_ n4_ n5_ n6_; clear hb hbox hg; have hnb29 := NB317_318.out; have hnc29 := NB318_317.out; obtain ⟨hcz30_0, hcz30_1, hcz30_2, hfz30_0, hfz30_1, hfz30_2⟩ := cz3 BK317; obtain ⟨hcz31_0, hcz31_1, hcz31_2, hcz31_3, hfz31_0, hfz31_1, hfz31_2, hfz31_3⟩ := cz4 BK318) | ((with_reducible refine gate_callee (f := 113) rfl ?_); refine goesL_ (some 10) rfl rfl Try.func113 Zj rfl #[.slice A0_1 l0_1.length c0_1, .string a1_2] rfl Zo ?_; (with_reducible refine (impl_articleOf.calls k _ _ l0_1 a1_2 t319 _ ?side1 ?side2 A3.out).mono ?_); (case side1 => repeat (first | exact (Kd.C_below HR0_1.out HB.out) | (with_reducible refine Kd.C_alloc ?_ _) | (with_reducible refine Kd.C_drewN ?_ _) | (with_reducible refine Kd.C_drew ?_))); (case side2 => exact HC0_1.out); rintro e w32 ⟨rfl, hb⟩; refine ⟨_, rfl, ?_⟩; have n0_ := Aside0.mk (blk_below (g := gb317) (o := .cells #[.slice A0_0 l0_0.length c0_0, .slice A0_1 l0_1.length c0_1, .slice A0_2 l0_2.length c0_2] 32 (0, 0)) (have z0_ := BK317; Ze) hb); have n1_ := Aside0.mk (blk_below (g := gb318) (o := .cells #[.int .i64 a1_0, .int .i64 a1_1, .string a1_2, .int .i64 a1_3] 43 (0, 0)) (have z0_ := BK318; Ze) hb); have n2_ := Aside0.mk (below_step (have z0_ := GE317; have z1_ := GE318; Zh) hb); clear BK317; clear BK318; clear HB; have BK317 := n0_; have BK318 := n1_; have HB := n2_; clear n0_ n1_ n2_; (try clear hb); (try clear hb2); (try clear hk); (try clear hi); obtain ⟨hcz33_0, hcz33_1, hcz33_2, hfz33_0, hfz33_1, hfz33_2⟩ := cz3 BK317; obtain ⟨hcz34_0, hcz34_1, hcz34_2, hcz34_3, hfz34_0, hfz34_1, hfz34_2, hfz34_3⟩ := cz4 BK318) | (go_at_call 130; (with_reducible refine (impl_isBeat.calls _ _ l0_0 a1_0 a1_1 false _ ?side1 ?side2 A11.out).mono ?_); (case side1 => repeat (first | exact (Kd.C_below HR0_0.out HB.out) | (with_reducible refine Kd.C_alloc ?_ _) | (with_reducible refine Kd.C_drewN ?_ _) | (with_reducible refine Kd.C_drew ?_))); (case side2 => exact HC0_0.out); rintro e w' ⟨rfl, ⟨nd, rfl⟩⟩))
   go_ret
   exact ⟨Zk, (have z0_ := GE317; have z1_ := GE318; Zh)⟩
end Go.Proofs.Ytnlbaflbhicooaa.F
namespace Go.Proofs.Ytnlbaflbhicooaa.F
open Go.RowKit Go.Proofs.YtnlbaflbhicooaaW.PrintWords Go.Proofs.YtnlbaflbhicooaaW.PrintLast Go.Proofs.YtnlbaflbhicooaaW.PrintMore
attribute [local go_sem] max2_int min2_int max_two min_two max_three min_three max_four min_four   -- for this text's walks alone
set_option linter.unusedVariables false
set_option linter.unusedSimpArgs false
mutual
def impl_IsShow.j0 : Nat → Bool → List (S108) → List (S92) → List (S43) → Option (Bool)
 | 0, _, _, _, _ => none
 | k + 1, x20, x324000, x324001, x324002 => if x20 = true then (some false) else (impl_IsShow.l0 k x324002 (x324002.length : Int) 0 x324000 x324001 x324002)
def impl_IsShow.l0 : Nat → List (S43) → Int → Int → List (S108) → List (S92) → List (S43) → Option (Bool)
 | 0, _, _, _, _, _, _ => none
 | k + 1, x22, x23, x24, x324000, x324001, x324002 => if x24 < x23 then (if 0 ≤ x24 then (if x24 < (x22.length : Int) then ((impl_within.f ((rd_T43 x22 x24).f3) 0 11).bind fun t328 => (if t328 = true then ((impl_firedAt.f k x324000 x324001 x324002 ((rd_T43 x22 x24).f0) ((rd_T43 x22 x24).f1) ((rd_T43 x22 x24).f2) ((rd_T43 x22 x24).f3)).bind fun t329 => (if t329 < 0 then (some false) else (impl_IsShow.l0 k x22 x23 (wrap64 (x24 + 1)) x324000 x324001 x324002))) else (some false))) else (none)) else (none)) else (some true)
end
def impl_IsShow.f (k : Nat) (l0_0 : List (S108)) (l0_1 : List (S92)) (l0_2 : List (S43)) : Option (Bool) := (impl_IsScore.f k l0_0).bind fun t324 => (if t324 = true then ((impl_AreArticles.f k l0_1).bind fun t325 => (if t325 = true then (impl_IsShow.j0 k (decide ((l0_2.length : Int) > 20)) l0_0 l0_1 l0_2) else (impl_IsShow.j0 k true l0_0 l0_1 l0_2))) else (impl_IsShow.j0 k true l0_0 l0_1 l0_2))
set_option maxHeartbeats 8000000 in
set_option maxRecDepth 100000 in
theorem impl_IsShow.calls (k : Nat) (A0_0 : Option Addr) (c0_0 : Nat) (l0_0 : List (S108)) (A0_1 : Option Addr) (c0_1 : Nat) (l0_1 : List (S92)) (A0_2 : Option Addr) (c0_2 : Nat) (l0_2 : List (S43)) (r : Bool) (w : World) (hr0_0 : Kd.C k108 w A0_0 l0_0.length l0_0) (hc0_0 : l0_0.length ≤ c0_0) (hr0_1 : Kd.C k92 w A0_1 l0_1.length l0_1) (hc0_1 : l0_1.length ≤ c0_1) (hr0_2 : Kd.C k43 w A0_2 l0_2.length l0_2) (hc0_2 : l0_2.length ≤ c0_2) (h : impl_IsShow.f k l0_0 l0_1 l0_2 = some r) :
  Calls Try.prog 37 #[.agg #[.slice A0_0 l0_0.length c0_0, .slice A0_1 l0_1.length c0_1, .slice A0_2 l0_2.length c0_2]] w fun e w' => e = .returned (.bool r) ∧ Below w.heap.size w w' := by
 have hu32 := Try.underlying32
 have hu43 := Try.underlying43
 have HR0_0 := Aside0.mk hr0_0
 have HC0_0 := Aside0.mk hc0_0
 clear hr0_0 hc0_0
 have HR0_1 := Aside0.mk hr0_1
 have HC0_1 := Aside0.mk hc0_1
 clear hr0_1 hc0_1
 have HR0_2 := Aside0.mk hr0_2
 have HC0_2 := Aside0.mk hc0_2
 clear hr0_2 hc0_2
 have HB := Aside0.mk (Below.refl w.heap.size w)
 have H : ((impl_IsScore.f k l0_0).bind fun t324 => (if t324 = true then ((impl_AreArticles.f k l0_1).bind fun t325 => (if t325 = true then (impl_IsShow.j0 k (decide ((l0_2.length : Int) > 20)) l0_0 l0_1 l0_2) else (impl_IsShow.j0 k true l0_0 l0_1 l0_2))) else (impl_IsShow.j0 k true l0_0 l0_1 l0_2))) = some r := h
 clear h
 have HC2 := Aside0.mk H
 clear H
 go_enter Try.func37, Try.ntmps37
 go_upto_region 1 with (first | ((with_reducible refine gate_dst (N := 1) rfl ?_); (try (refine gate_guard (by rfl) ?_; dsimp only)); refine box_event ?hg (N := 1) ?hd (cs := #[.slice A0_0 l0_0.length c0_0, .slice A0_1 l0_1.length c0_1, .slice A0_2 l0_2.length c0_2]) (t := 32) ?hr ?_; (case hd => rfl); (case hg => rfl); (case hr => first | (go_simp; done) | (go_simp; rfl)); intro gb323 hg w3 hbox hb; have n0_ := Aside0.mk (below_step Zc hb); have n1_ := Aside0.mk (hbox); have n2_ := Aside0.mk ((Zd : w.heap.size ≤ gb323)); have n3_ := Aside0.mk ((Zd : w.heap.size ≤ gb323)); clear HB; have HB := n0_; have BK323 := n1_; have GW323 := n2_; have GE323 := n3_; clear n0_ n1_ n2_ n3_; clear hb hbox hg))
 (try simp only [Act.put, List.setIfInBounds_toArray, List.set_cons_zero, List.set_cons_succ])
 go_cut [20] (fun v20 wc => ∃ (kq : Nat) (x20_1 : Bool), v20 = .bool x20_1 ∧ Aside0 (impl_IsShow.j0 kq x20_1 l0_0 l0_1 l0_2 = some r) ∧ Aside0 (kq ≤ k) ∧ Aside0 (wc.heap[gb323]? = some (.cells #[(.slice A0_0 l0_0.length c0_0), (.slice A0_1 l0_1.length c0_1), (.slice A0_2 l0_2.length c0_2)] 32 (0, 0))) ∧ Aside0 (Below w.heap.size w wc))
 case first =>
  have H := HC2.out
  clear HC2
  replace H := Option.bind_eq_some_iff.mp H
  obtain ⟨t324, A40, H⟩ := H
  replace H : (if t324 = true then ((impl_AreArticles.f k l0_1).bind fun t325 => (if t325 = true then (impl_IsShow.j0 k (decide ((l0_2.length : Int) > 20)) l0_0 l0_1 l0_2) else (impl_IsShow.j0 k true l0_0 l0_1 l0_2))) else (impl_IsShow.j0 k true l0_0 l0_1 l0_2)) = some r := H
  have A4 := Aside0.mk A40
  clear A40
  by_cases c5 : t324 = true
  ·subst c5
   have H1 : ((impl_AreArticles.f k l0_1).bind fun t325 => (if t325 = true then (impl_IsShow.j0 k (decide ((l0_2.length : Int) > 20)) l0_0 l0_1 l0_2) else (impl_IsShow.j0 k true l0_0 l0_1 l0_2))) = some r := by rw [if_pos rfl] at H; exact H
   clear H
   have H := H1
   clear H1
   replace H := Option.bind_eq_some_iff.mp H
   obtain ⟨t325, A60, H⟩ := H
   replace H : (if t325 = true then (impl_IsShow.j0 k (decide ((l0_2.length : Int) > 20)) l0_0 l0_1 l0_2) else (impl_IsShow.j0 k true l0_0 l0_1 l0_2)) = some r := H
   have A6 := Aside0.mk A60
   clear A60
   by_cases c7 : t325 = true
   ·subst c7
    have H1 : (impl_IsShow.j0 k (decide ((l0_2.length : Int) > 20)) l0_0 l0_1 l0_2) = some r := by rw [if_pos rfl] at H; exact H
    clear H
    have H := H1
    clear H1
    have H' := Aside0.mk H
    clear H
    obtain ⟨hcz8_0, hcz8_1, hcz8_2, hfz8_0, hfz8_1, hfz8_2⟩ := cz3 BK323
    go_wp2_with (first | ((with_reducible refine gate_callee (f := 96) rfl ?_); refine goesL_ (some 7) rfl rfl Try.func96 Zj rfl #[.slice A0_0 l0_0.length c0_0] rfl Zo ?_; (with_reducible refine (impl_IsScore.calls k _ _ l0_0 true _ ?side1 ?side2 A4.out).mono ?_); (case side1 => repeat (first | exact (Kd.C_below HR0_0.out HB.out) | (with_reducible refine Kd.C_alloc ?_ _) | (with_reducible refine Kd.C_drewN ?_ _) | (with_reducible refine Kd.C_drew ?_))); (case side2 => exact HC0_0.out); rintro e w9 ⟨rfl, hb⟩; refine ⟨_, rfl, ?_⟩; have n0_ := Aside0.mk (blk_below (g := gb323) (o := .cells #[.slice A0_0 l0_0.length c0_0, .slice A0_1 l0_1.length c0_1, .slice A0_2 l0_2.length c0_2] 32 (0, 0)) (have z0_ := BK323; Ze) hb); have n1_ := Aside0.mk (below_step (have z0_ := GE323; Zf) hb); clear BK323; clear HB; have BK323 := n0_; have HB := n1_; clear n0_ n1_; (try clear hb); (try clear hb2); (try clear hk); (try clear hi); obtain ⟨hcz10_0, hcz10_1, hcz10_2, hfz10_0, hfz10_1, hfz10_2⟩ := cz3 BK323) | (go_at_call 97; (with_reducible refine (impl_AreArticles.calls k _ _ l0_1 true _ ?side1 ?side2 A6.out).mono ?_); (case side1 => repeat (first | exact (Kd.C_below HR0_1.out HB.out) | (with_reducible refine Kd.C_alloc ?_ _) | (with_reducible refine Kd.C_drewN ?_ _) | (with_reducible refine Kd.C_drew ?_))); (case side2 => exact HC0_1.out); rintro e w11 ⟨rfl, hb⟩; have n0_ := Aside0.mk (blk_below (g := gb323) (o := .cells #[.slice A0_0 l0_0.length c0_0, .slice A0_1 l0_1.length c0_1, .slice A0_2 l0_2.length c0_2] 32 (0, 0)) (have z0_ := BK323; Ze) hb); have n1_ := Aside0.mk (below_step (have z0_ := GE323; Zf) hb); clear BK323; clear HB; have BK323 := n0_; have HB := n1_; clear n0_ n1_; (try clear hb); (try clear hb2); (try clear hk); (try clear hi); obtain ⟨hcz12_0, hcz12_1, hcz12_2, hfz12_0, hfz12_1, hfz12_2⟩ := cz3 BK323))
    go_meet
    case rel => exact ⟨_, (decide ((l0_2.length : Int) > 20)), Za, H', ⟨Zm⟩, ⟨(have z0_ := BK323; Ze)⟩, ⟨(have z0_ := GE323; Zf)⟩⟩
   ·replace c7 := Bool.eq_false_iff.mpr c7
    subst c7
    have H1 : (impl_IsShow.j0 k true l0_0 l0_1 l0_2) = some r := by rw [if_neg (show ¬ (false = true) by decide)] at H; exact H
    clear H
    have H := H1
    clear H1
    have H' := Aside0.mk H
    clear H
    obtain ⟨hcz13_0, hcz13_1, hcz13_2, hfz13_0, hfz13_1, hfz13_2⟩ := cz3 BK323
    go_wp2_with (first | ((with_reducible refine gate_callee (f := 96) rfl ?_); refine goesL_ (some 7) rfl rfl Try.func96 Zj rfl #[.slice A0_0 l0_0.length c0_0] rfl Zo ?_; (with_reducible refine (impl_IsScore.calls k _ _ l0_0 true _ ?side1 ?side2 A4.out).mono ?_); (case side1 => repeat (first | exact (Kd.C_below HR0_0.out HB.out) | (with_reducible refine Kd.C_alloc ?_ _) | (with_reducible refine Kd.C_drewN ?_ _) | (with_reducible refine Kd.C_drew ?_))); (case side2 => exact HC0_0.out); rintro e w14 ⟨rfl, hb⟩; refine ⟨_, rfl, ?_⟩; have n0_ := Aside0.mk (blk_below (g := gb323) (o := .cells #[.slice A0_0 l0_0.length c0_0, .slice A0_1 l0_1.length c0_1, .slice A0_2 l0_2.length c0_2] 32 (0, 0)) (have z0_ := BK323; Ze) hb); have n1_ := Aside0.mk (below_step (have z0_ := GE323; Zf) hb); clear BK323; clear HB; have BK323 := n0_; have HB := n1_; clear n0_ n1_; (try clear hb); (try clear hb2); (try clear hk); (try clear hi); obtain ⟨hcz15_0, hcz15_1, hcz15_2, hfz15_0, hfz15_1, hfz15_2⟩ := cz3 BK323) | (go_at_call 97; (with_reducible refine (impl_AreArticles.calls k _ _ l0_1 false _ ?side1 ?side2 A6.out).mono ?_); (case side1 => repeat (first | exact (Kd.C_below HR0_1.out HB.out) | (with_reducible refine Kd.C_alloc ?_ _) | (with_reducible refine Kd.C_drewN ?_ _) | (with_reducible refine Kd.C_drew ?_))); (case side2 => exact HC0_1.out); rintro e w16 ⟨rfl, hb⟩; have n0_ := Aside0.mk (blk_below (g := gb323) (o := .cells #[.slice A0_0 l0_0.length c0_0, .slice A0_1 l0_1.length c0_1, .slice A0_2 l0_2.length c0_2] 32 (0, 0)) (have z0_ := BK323; Ze) hb); have n1_ := Aside0.mk (below_step (have z0_ := GE323; Zf) hb); clear BK323; clear HB; have BK323 := n0_; have HB := n1_; clear n0_ n1_; (try clear hb); (try clear hb2); (try clear hk); (try clear hi)))
    go_meet
    case rel => exact ⟨_, (true), Za, H', ⟨Zm⟩, ⟨(have z0_ := BK323; Ze)⟩, ⟨(have z0_ := GE323; Zf)⟩⟩
  ·replace c5 := Bool.eq_false_iff.mpr c5
   subst c5
   have H1 : (impl_IsShow.j0 k true l0_0 l0_1 l0_2) = some r := by rw [if_neg (show ¬ (false = true) by decide)] at H; exact H
   clear H
   have H := H1
   clear H1
   have H' := Aside0.mk H
   clear H
   obtain ⟨hcz17_0, hcz17_1, hcz17_2, hfz17_0, hfz17_1, hfz17_2⟩ := cz3 BK323
   go_wp2_with (first | ((with_reducible refine gate_callee (f := 96) rfl ?_); refine goesL_ (some 7) rfl rfl Try.func96 Zj rfl #[.slice A0_0 l0_0.length c0_0] rfl Zo ?_; (with_reducible refine (impl_IsScore.calls k _ _ l0_0 false _ ?side1 ?side2 A4.out).mono ?_); (case side1 => repeat (first | exact (Kd.C_below HR0_0.out HB.out) | (with_reducible refine Kd.C_alloc ?_ _) | (with_reducible refine Kd.C_drewN ?_ _) | (with_reducible refine Kd.C_drew ?_))); (case side2 => exact HC0_0.out); rintro e w18 ⟨rfl, hb⟩; refine ⟨_, rfl, ?_⟩; have n0_ := Aside0.mk (blk_below (g := gb323) (o := .cells #[.slice A0_0 l0_0.length c0_0, .slice A0_1 l0_1.length c0_1, .slice A0_2 l0_2.length c0_2] 32 (0, 0)) (have z0_ := BK323; Ze) hb); have n1_ := Aside0.mk (below_step (have z0_ := GE323; Zf) hb); clear BK323; clear HB; have BK323 := n0_; have HB := n1_; clear n0_ n1_; (try clear hb); (try clear hb2); (try clear hk); (try clear hi)))
   go_meet
   case rel => exact ⟨_, (true), Za, H', ⟨Zm⟩, ⟨(have z0_ := BK323; Ze)⟩, ⟨(have z0_ := GE323; Zf)⟩⟩
 case rest =>
  clear HC2
  try clear p2
  try clear c3
  try clear c5
  try clear c7
  try clear c9
  try clear hcz10_0
  try clear hcz10_1
  try clear hcz10_2
  try clear hcz12_0
  try clear hcz12_1
  try clear hcz12_2
  try clear hcz13_0
  try clear hcz13_1
  try clear hcz13_2
  try clear hcz15_0
  try clear hcz15_1
  try clear hcz15_2
  try clear hcz17_0
  try clear hcz17_1
  try clear hcz17_2
  try clear hcz8_0
  try clear hcz8_1
  try clear hcz8_2
  try clear hfz10_0
  try clear hfz10_1
  try clear hfz10_2
  try clear hfz12_0
  try clear hfz12_1
  try clear hfz12_2
  try clear hfz13_0
  try clear hfz13_1
  try clear hfz13_2
  try clear hfz15_0
  try clear hfz15_1
  try clear hfz15_2
  try clear hfz17_0
  try clear hfz17_1
  try clear hfz17_2
  try clear hfz8_0
  try clear hfz8_1
  try clear hfz8_2
  obtain ⟨kq, x20_1, rfl, HA, HJ1, BK323, HB⟩ := hcut
  cases kq with
  | zero => exact absurd HA.out (by simp [impl_IsShow.j0])
  | succ kj1 =>
   have H := HA.out
   clear HA
   simp only [impl_IsShow.j0] at H
   by_cases c19 : x20_1 = true
   ·subst c19
    have H1 : (some false) = some r := by rw [if_pos rfl] at H; exact H
    clear H
    have H := H1
    clear H1
    obtain rfl := Option.some.inj H
    go_wp2
    go_ret
    exact ⟨Zk, (have z0_ := GE323; Zf)⟩
   ·replace c19 := Bool.eq_false_iff.mpr c19
    subst c19
    have H1 : (impl_IsShow.l0 kj1 l0_2 (l0_2.length : Int) 0 l0_0 l0_1 l0_2) = some r := by rw [if_neg (show ¬ (false = true) by decide)] at H; exact H
    clear H
    have H := H1
    clear H1
    have H' := Aside0.mk H
    clear H
    obtain ⟨hcz20_0, hcz20_1, hcz20_2, hfz20_0, hfz20_1, hfz20_2⟩ := cz3 BK323
    go_wp2
    go_loopg [24] kj1 (fun kq v24 w' => ∃ (x24_2 : Int), v24 = .int .i64 x24_2 ∧ Aside0 (impl_IsShow.l0 kq l0_2 (l0_2.length : Int) x24_2 l0_0 l0_1 l0_2 = some r) ∧ Aside0 (kq ≤ kj1) ∧ Aside0 (w'.heap[gb323]? = some (.cells #[(.slice A0_0 l0_0.length c0_0), (.slice A0_1 l0_1.length c0_1), (.slice A0_2 l0_2.length c0_2)] 32 (0, 0))) ∧ Aside0 (Below w.heap.size w w'))
    case atStart => exact ⟨(0), Za, H', ⟨Nat.le_refl _⟩, ⟨(have z0_ := BK323; Ze)⟩, ⟨(have z0_ := GE323; Zf)⟩⟩
    case round =>
     clear H'
     try clear c1
     try clear p2
     try clear c3
     try clear c5
     try clear c7
     try clear c9
     try clear c19
     try clear hcz10_0
     try clear hcz10_1
     try clear hcz10_2
     try clear hcz12_0
     try clear hcz12_1
     try clear hcz12_2
     try clear hcz13_0
     try clear hcz13_1
     try clear hcz13_2
     try clear hcz15_0
     try clear hcz15_1
     try clear hcz15_2
     try clear hcz17_0
     try clear hcz17_1
     try clear hcz17_2
     try clear hcz20_0
     try clear hcz20_1
     try clear hcz20_2
     try clear hcz8_0
     try clear hcz8_1
     try clear hcz8_2
     try clear hfz10_0
     try clear hfz10_1
     try clear hfz10_2
     try clear hfz12_0
     try clear hfz12_1
     try clear hfz12_2
     try clear hfz13_0
     try clear hfz13_1
     try clear hfz13_2
     try clear hfz15_0
     try clear hfz15_1
     try clear hfz15_2
     try clear hfz17_0
     try clear hfz17_1
     try clear hfz17_2
     try clear hfz20_0
     try clear hfz20_1
     try clear hfz20_2
     try clear hfz8_0
     try clear hfz8_1
     try clear hfz8_2
     try clear p2
     obtain ⟨x24_2, rfl, HA, HK2, BK323, HB⟩ := hrel
     cases gk with
     | zero => exact absurd HA.out (by simp [impl_IsShow.l0])
     | succ k2 =>
      have H := HA.out
      clear HA
      simp only [impl_IsShow.l0] at H
      by_cases c21 : x24_2 < (l0_2.length : Int)
      ·rw [if_pos c21] at H
       have c21b0 : decide (x24_2 < (l0_2.length : Int)) = true := decide_eq_true c21
       clear c21
       by_cases c22 : 0 ≤ x24_2
       ·rw [if_pos c22] at H
        have c22b0 : decide (0 ≤ x24_2) = true := decide_eq_true c22
        clear c22
        by_cases c23 : x24_2 < (l0_2.length : Int)
        ·rw [if_pos c23] at H
         have c23b0 : decide (x24_2 < (l0_2.length : Int)) = true := decide_eq_true c23
         clear c23
         replace H := Option.bind_eq_some_iff.mp H
         obtain ⟨t328, A240, H⟩ := H
         replace H : (if t328 = true then ((impl_firedAt.f k2 l0_0 l0_1 l0_2 ((rd_T43 l0_2 x24_2).f0) ((rd_T43 l0_2 x24_2).f1) ((rd_T43 l0_2 x24_2).f2) ((rd_T43 l0_2 x24_2).f3)).bind fun t329 => (if t329 < 0 then (some false) else (impl_IsShow.l0 k2 l0_2 (l0_2.length : Int) (wrap64 (x24_2 + 1)) l0_0 l0_1 l0_2))) else (some false)) = some r := H
         have A24 := Aside0.mk A240
         clear A240
         by_cases c25 : t328 = true
         ·subst c25
          have H1 : ((impl_firedAt.f k2 l0_0 l0_1 l0_2 ((rd_T43 l0_2 x24_2).f0) ((rd_T43 l0_2 x24_2).f1) ((rd_T43 l0_2 x24_2).f2) ((rd_T43 l0_2 x24_2).f3)).bind fun t329 => (if t329 < 0 then (some false) else (impl_IsShow.l0 k2 l0_2 (l0_2.length : Int) (wrap64 (x24_2 + 1)) l0_0 l0_1 l0_2))) = some r := by rw [if_pos rfl] at H; exact H
          clear H
          have H := H1
          clear H1
          replace H := Option.bind_eq_some_iff.mp H
          obtain ⟨t329, A260, H⟩ := H
          replace H : (if t329 < 0 then (some false) else (impl_IsShow.l0 k2 l0_2 (l0_2.length : Int) (wrap64 (x24_2 + 1)) l0_0 l0_1 l0_2)) = some r := H
          have A26 := Aside0.mk A260
          clear A260
          by_cases c27 : t329 < 0
          ·rw [if_pos c27] at H
           have c27b0 : decide (t329 < 0) = true := decide_eq_true c27
           clear c27
           obtain rfl := Option.some.inj H
           have p326 : 0 ≤ (x24_2 : Int) := of_decide_eq_true Zp
           have q326 : x24_2 < (l0_2.length : Int) := of_decide_eq_true Zp
           obtain ⟨ad326, e326, hx326_0, hx326_1, hx326_2, hx326_3⟩ := at_T43 HR0_2.out x24_2 p326 q326
           cases e326
           replace hx326_0 := cbH HB hx326_0
           replace hx326_1 := cbH HB hx326_1
           replace hx326_2 := cbH HB hx326_2
           replace hx326_3 := cbH HB hx326_3
           replace p326 := eq_true p326
           replace q326 := eq_true q326
           go_wp2_with (first | ((with_reducible refine gate_dst (N := 4) rfl ?_); (try (refine gate_guard (by rfl) ?_; dsimp only)); refine box_event ?hg (N := 4) ?hd (cs := #[.int .i64 0, .int .i64 0, .string (⟨#[]⟩ : ByteArray), .int .i64 0]) (t := 43) ?hr ?_; (case hd => rfl); (case hg => rfl); (case hr => first | (go_simp; done) | (go_simp; rfl)); intro gb327 hg w28 hbox hb; have n0_ := Aside0.mk (blk_below (g := gb323) (o := .cells #[.slice A0_0 l0_0.length c0_0, .slice A0_1 l0_1.length c0_1, .slice (some ad326) l0_2.length c0_2] 32 (0, 0)) (have z0_ := BK323; Ze) hb); have n1_ := Aside0.mk (below_step (have z0_ := GE323; Zf) hb); have n2_ := Aside0.mk (hbox); have n3_ := Aside0.mk (((have z0_ := GE323; Zg) : w.heap.size ≤ gb327)); have n4_ := Aside0.mk (((have z0_ := GE323; Zg) : w.heap.size ≤ gb327)); have n5_ := Aside0.mk (((have z0_ := BK323; Zaw) : gb323 ≠ gb327)); have n6_ := Aside0.mk (((have z0_ := BK323; Zax) : gb327 ≠ gb323)); clear BK323; clear HB; have BK323 := n0_; have HB := n1_; have BK327 := n2_; have GW327 := n3_; have GE327 := n4_; have NB323_327 := n5_; have NB327_323 := n6_; clear n0_ n1_ n2_ n3_ n4_ n5_ n6_; clear hb hbox hg; have hnb29 := NB327_323.out; have hnc29 := NB323_327.out; obtain ⟨hcz30_0, hcz30_1, hcz30_2, hcz30_3, hfz30_0, hfz30_1, hfz30_2, hfz30_3⟩ := cz4 BK327) | ((with_reducible refine gate_callee (f := 89) rfl ?_); refine goesL_ (some 30) rfl rfl Try.func89 Zj rfl #[.int .i64 ((rd_T43 l0_2 x24_2).f3), .int .i64 0, .int .i64 11] rfl Zo ?_; (with_reducible refine (impl_within.calls ((rd_T43 l0_2 x24_2).f3) 0 11 true _ A24.out).mono ?_); rintro e w' ⟨rfl, ⟨nd, rfl⟩⟩; refine ⟨_, rfl, ?_⟩; obtain ⟨hcz31_0, hcz31_1, hcz31_2, hfz31_0, hfz31_1, hfz31_2⟩ := cz3 BK323) | (go_at_call 98; (with_reducible refine (impl_firedAt.calls k2 _ _ l0_0 _ _ l0_1 _ _ l0_2 ((rd_T43 l0_2 x24_2).f0) ((rd_T43 l0_2 x24_2).f1) ((rd_T43 l0_2 x24_2).f2) ((rd_T43 l0_2 x24_2).f3) t329 _ ?side1 ?side2 ?side3 ?side4 ?side5 ?side6 A26.out).mono ?_); (case side1 => exact Kd.C_below HR0_0.out (have z0_ := GE323; have z1_ := GE327; Zh)); (case side2 => exact HC0_0.out); (case side3 => exact Kd.C_below HR0_1.out (have z0_ := GE323; have z1_ := GE327; Zh)); (case side4 => exact HC0_1.out); (case side5 => exact Kd.C_below HR0_2.out (have z0_ := GE323; have z1_ := GE327; Zh)); (case side6 => exact HC0_2.out); rintro e w32 ⟨rfl, hb⟩; have n0_ := Aside0.mk (blk_below (g := gb323) (o := .cells #[.slice A0_0 l0_0.length c0_0, .slice A0_1 l0_1.length c0_1, .slice (some ad326) l0_2.length c0_2] 32 (0, 0)) (have z0_ := NB323_327; have z1_ := BK323; Zar) hb); have n1_ := Aside0.mk (blk_below (g := gb327) (o := .cells #[.int .i64 ((rd_T43 l0_2 x24_2).f0), .int .i64 ((rd_T43 l0_2 x24_2).f1), .string ((rd_T43 l0_2 x24_2).f2), .int .i64 ((rd_T43 l0_2 x24_2).f3)] 43 (0, 0)) (have z0_ := BK327; Zay) hb); have n2_ := Aside0.mk (below_step (have z0_ := GE323; have z1_ := GE327; Zh) hb); clear BK323; clear BK327; clear HB; have BK323 := n0_; have BK327 := n1_; have HB := n2_; clear n0_ n1_ n2_; (try clear hb); (try clear hb2); (try clear hk); (try clear hi)))
           go_ret
           exact ⟨Zk, (have z0_ := GE323; have z1_ := GE327; Zh)⟩
          ·rw [if_neg c27] at H
           have c27b0 : decide (t329 < 0) = false := decide_eq_false c27
           clear c27
           have H' := Aside0.mk H
           clear H
           have p326 : 0 ≤ (x24_2 : Int) := of_decide_eq_true Zp
           have q326 : x24_2 < (l0_2.length : Int) := of_decide_eq_true Zp
           obtain ⟨ad326, e326, hx326_0, hx326_1, hx326_2, hx326_3⟩ := at_T43 HR0_2.out x24_2 p326 q326
           cases e326
           replace hx326_0 := cbH HB hx326_0
           replace hx326_1 := cbH HB hx326_1
           replace hx326_2 := cbH HB hx326_2
           replace hx326_3 := cbH HB hx326_3
           replace p326 := eq_true p326
           replace q326 := eq_true q326
           go_wp2_with (first | ((with_reducible refine gate_dst (N := 4) rfl ?_); (try (refine gate_guard (by rfl) ?_; dsimp only)); refine box_event ?hg (N := 4) ?hd (cs := #[.int .i64 0, .int .i64 0, .string (⟨#[]⟩ : ByteArray), .int .i64 0]) (t := 43) ?hr ?_; (case hd => rfl); (case hg => rfl); (case hr => first | (go_simp; done) | (go_simp; rfl)); intro gb327 hg w33 hbox hb; have n0_ := Aside0.mk (blk_below (g := gb323) (o := .cells #[.slice A0_0 l0_0.length c0_0, .slice A0_1 l0_1.length c0_1, .slice (some ad326) l0_2.length c0_2] 32 (0, 0)) (have z0_ := BK323; Ze) hb); have n1_ := Aside0.mk (below_step (have z0_ := GE323; Zf) hb); have n2_ := Aside0.mk (hbox); have n3_ := Aside0.mk (((have z0_ := GE323; Zg) : w.heap.size ≤ gb327)); have n4_ := Aside0.mk (((have z0_ := GE323; Zg) : w.heap.size ≤ gb327)); have n5_ := Aside0.mk (((have z0_ := BK323; Zaw) : gb323 ≠ gb327)); have n6_ := Aside0.mk (((have z0_ := BK323; Zax) : gb327 ≠ gb323)); clear BK323; clear HB; have BK323 := n0_; have HB := n1_; have BK327 := n2_; have GW327 := n3_; have GE327 := n4_; have NB323_327 := n5_; have NB327_323 := n6_; clear n0_ n1_ n2_ n3_ n4_ n5_ n6_; clear hb hbox hg; have hnb34 := NB327_323.out; have hnc34 := NB323_327.out; obtain ⟨hcz35_0, hcz35_1, hcz35_2, hcz35_3, hfz35_0, hfz35_1, hfz35_2, hfz35_3⟩ := cz4 BK327) | ((with_reducible refine gate_callee (f := 89) rfl ?_); refine goesL_ (some 30) rfl rfl Try.func89 Zj rfl #[.int .i64 ((rd_T43 l0_2 x24_2).f3), .int .i64 0, .int .i64 11] rfl Zo ?_; (with_reducible refine (impl_within.calls ((rd_T43 l0_2 x24_2).f3) 0 11 true _ A24.out).mono ?_); rintro e w' ⟨rfl, ⟨nd, rfl⟩⟩; refine ⟨_, rfl, ?_⟩; obtain ⟨hcz36_0, hcz36_1, hcz36_2, hfz36_0, hfz36_1, hfz36_2⟩ := cz3 BK323) | (go_at_call 98; (with_reducible refine (impl_firedAt.calls k2 _ _ l0_0 _ _ l0_1 _ _ l0_2 ((rd_T43 l0_2 x24_2).f0) ((rd_T43 l0_2 x24_2).f1) ((rd_T43 l0_2 x24_2).f2) ((rd_T43 l0_2 x24_2).f3) t329 _ ?side1 ?side2 ?side3 ?side4 ?side5 ?side6 A26.out).mono ?_); (case side1 => exact Kd.C_below HR0_0.out (have z0_ := GE323; have z1_ := GE327; Zh)); (case side2 => exact HC0_0.out); (case side3 => exact Kd.C_below HR0_1.out (have z0_ := GE323; have z1_ := GE327; Zh)); (case side4 => exact HC0_1.out); (case side5 => exact Kd.C_below HR0_2.out (have z0_ := GE323; have z1_ := GE327; Zh)); (case side6 => exact HC0_2.out); rintro e w37 ⟨rfl, hb⟩; have n0_ := Aside0.mk (blk_below (g := gb323) (o := .cells #[.slice A0_0 l0_0.length c0_0, .slice A0_1 l0_1.length c0_1, .slice (some ad326) l0_2.length c0_2] 32 (0, 0)) (have z0_ := NB323_327; have z1_ := BK323; Zar) hb); have n1_ := Aside0.mk (blk_below (g := gb327) (o := .cells #[.int .i64 ((rd_T43 l0_2 x24_2).f0), .int .i64 ((rd_T43 l0_2 x24_2).f1), .string ((rd_T43 l0_2 x24_2).f2), .int .i64 ((rd_T43 l0_2 x24_2).f3)] 43 (0, 0)) (have z0_ := BK327; Zay) hb); have n2_ := Aside0.mk (below_step (have z0_ := GE323; have z1_ := GE327; Zh) hb); clear BK323; clear BK327; clear HB; have BK323 := n0_; have BK327 := n1_; have HB := n2_; clear n0_ n1_ n2_; (try clear hb); (try clear hb2); (try clear hk); (try clear hi)))
           go_roundg k2
           case measure => have := HJ1.out; have := HK2.out; omega
           case rel => exact ⟨(wrap64 (x24_2 + 1)), Za, H', ⟨by have := HJ1.out; have := HK2.out; omega⟩, ⟨(have z0_ := BK323; Ze)⟩, ⟨(have z0_ := GE323; have z1_ := GE327; Zh)⟩⟩
         ·replace c25 := Bool.eq_false_iff.mpr c25
          subst c25
          have H1 : (some false) = some r := by rw [if_neg (show ¬ (false = true) by decide)] at H; exact H
          clear H
          have H := H1
          clear H1
          obtain rfl := Option.some.inj H
          have p326 : 0 ≤ (x24_2 : Int) := of_decide_eq_true Zp
          have q326 : x24_2 < (l0_2.length : Int) := of_decide_eq_true Zp
          obtain ⟨ad326, e326, hx326_0, hx326_1, hx326_2, hx326_3⟩ := at_T43 HR0_2.out x24_2 p326 q326
          cases e326
          replace hx326_0 := cbH HB hx326_0
          replace hx326_1 := cbH HB hx326_1
          replace hx326_2 := cbH HB hx326_2
          replace hx326_3 := cbH HB hx326_3
          replace p326 := eq_true p326
          replace q326 := eq_true q326
          go_wp2_with (first | ((with_reducible refine gate_dst (N := 4) rfl ?_); (try (refine gate_guard (by rfl) ?_; dsimp only)); refine box_event ?hg (N := 4) ?hd (cs := #[.int .i64 0, .int .i64 0, .string (⟨#[]⟩ : ByteArray), .int .i64 0]) (t := 43) ?hr ?_; (case hd => rfl); (case hg => rfl); (case hr => first | (go_simp; done) | (go_simp; rfl)); intro gb327 hg w38 hbox hb; have n0_ := Aside0.mk (blk_below (g := gb323) (o := .cells #[.slice A0_0 l0_0.length c0_0, .slice A0_1 l0_1.length c0_1, .slice (some ad326) l0_2.length c0_2] 32 (0, 0)) (have z0_ := BK323; Ze) hb); have n1_ := Aside0.mk (below_step (have z0_ := GE323; Zf) hb); have n2_ := Aside0.mk (hbox); have n3_ := Aside0.mk (((have z0_ := GE323; Zg) : w.heap.size ≤ gb327)); have n4_ := Aside0.mk (((have z0_ := GE323; Zg) : w.heap.size ≤ gb327)); have n5_ := Aside0.mk (((have z0_ := BK323; Zaw) : gb323 ≠ gb327)); have n6_ := Aside0.mk (((have z0_ := BK323; Zax) : gb327 ≠ gb323)); clear BK323; clear HB; have BK323 := n0_; have HB := n1_; have BK327 := n2_; have GW327 := n3_; have GE327 := n4_; have NB323_327 := n5_; have NB327_323 := n6_; clear n0_ n1_ n2_ n3_ n4_ n5_ n6_; clear hb hbox hg; have hnb39 := NB327_323.out; have hnc39 := NB323_327.out; obtain ⟨hcz40_0, hcz40_1, hcz40_2, hcz40_3, hfz40_0, hfz40_1, hfz40_2, hfz40_3⟩ := cz4 BK327) | ((with_reducible refine gate_callee (f := 89) rfl ?_); refine goesL_ (some 30) rfl rfl Try.func89 Zj rfl #[.int .i64 ((rd_T43 l0_2 x24_2).f3), .int .i64 0, .int .i64 11] rfl Zo ?_; (with_reducible refine (impl_within.calls ((rd_T43 l0_2 x24_2).f3) 0 11 false _ A24.out).mono ?_); rintro e w' ⟨rfl, ⟨nd, rfl⟩⟩; refine ⟨_, rfl, ?_⟩))
          go_ret
          exact ⟨Zk, (have z0_ := GE323; have z1_ := GE327; Zh)⟩
        ·rw [if_neg c23] at H
         exact absurd H (by simp)
       ·rw [if_neg c22] at H
        exact absurd H (by simp)
      ·rw [if_neg c21] at H
       have c21b0 : decide (x24_2 < (l0_2.length : Int)) = false := decide_eq_false c21
       clear c21
       obtain rfl := Option.some.inj H
       go_wp2
       go_ret
       exact ⟨Zk, (have z0_ := GE323; Zf)⟩
end Go.Proofs.Ytnlbaflbhicooaa.F
namespace Go.Proofs.Ytnlbaflbhicooaa.F
open Go.RowKit Go.Proofs.YtnlbaflbhicooaaW.PrintWords Go.Proofs.YtnlbaflbhicooaaW.PrintLast Go.Proofs.YtnlbaflbhicooaaW.PrintMore
attribute [local go_sem] max2_int min2_int max_two min_two max_three min_three max_four min_four   -- for this text's walks alone
set_option linter.unusedVariables false
set_option linter.unusedSimpArgs false
def impl_fireTimes.l0 : Nat → List Int → List (S43) → Int → Int → List (S108) → List (S92) → List (S43) → Option (List Int)
 | 0, _, _, _, _, _, _, _ => none
 | k + 1, x3, x7, x8, x9, x1219000, x1219001, x1219002 => if x9 < x8 then (if 0 ≤ x9 then (if x9 < (x7.length : Int) then ((impl_firedAt.f k x1219000 x1219001 x1219002 ((rd_T43 x7 x9).f0) ((rd_T43 x7 x9).f1) ((rd_T43 x7 x9).f2) ((rd_T43 x7 x9).f3)).bind fun t1221 => (if x3.length < 17592186044416 then (impl_fireTimes.l0 k (x3 ++ [t1221]) x7 x8 (wrap64 (x9 + 1)) x1219000 x1219001 x1219002) else (none))) else (none)) else (none)) else (some x3)
def impl_fireTimes.f (k : Nat) (l0_0 : List (S108)) (l0_1 : List (S92)) (l0_2 : List (S43)) : Option (List Int) := impl_fireTimes.l0 k ([] : List Int) l0_2 (l0_2.length : Int) 0 l0_0 l0_1 l0_2
set_option maxHeartbeats 8000000 in
set_option maxRecDepth 100000 in
theorem impl_fireTimes.calls (k : Nat) (A0_0 : Option Addr) (c0_0 : Nat) (l0_0 : List (S108)) (A0_1 : Option Addr) (c0_1 : Nat) (l0_1 : List (S92)) (A0_2 : Option Addr) (c0_2 : Nat) (l0_2 : List (S43)) (r : List Int) (w : World) (hr0_0 : Kd.C k108 w A0_0 l0_0.length l0_0) (hc0_0 : l0_0.length ≤ c0_0) (hr0_1 : Kd.C k92 w A0_1 l0_1.length l0_1) (hc0_1 : l0_1.length ≤ c0_1) (hr0_2 : Kd.C k43 w A0_2 l0_2.length l0_2) (hc0_2 : l0_2.length ≤ c0_2) (h : impl_fireTimes.f k l0_0 l0_1 l0_2 = some r) :
  Calls Try.prog 110 #[.agg #[.slice A0_0 l0_0.length c0_0, .slice A0_1 l0_1.length c0_1, .slice A0_2 l0_2.length c0_2]] w fun e w' => ∃ v0_ : Value, e = .returned (v0_) ∧ Kd.R (Kd.int .i64) 2 w' w.heap.size (fun _ => True) v0_ r ∧ Below w.heap.size w w' := by
 have hu32 := Try.underlying32
 have hu43 := Try.underlying43
 have HR0_0 := Aside0.mk hr0_0
 have HC0_0 := Aside0.mk hc0_0
 clear hr0_0 hc0_0
 have HR0_1 := Aside0.mk hr0_1
 have HC0_1 := Aside0.mk hc0_1
 clear hr0_1 hc0_1
 have HR0_2 := Aside0.mk hr0_2
 have HC0_2 := Aside0.mk hc0_2
 clear hr0_2 hc0_2
 have HB := Aside0.mk (Below.refl w.heap.size w)
 have H : (impl_fireTimes.l0 k ([] : List Int) l0_2 (l0_2.length : Int) 0 l0_0 l0_1 l0_2) = some r := h
 clear h
 have H' := Aside0.mk H
 clear H
 go_enter Try.func110, Try.ntmps110
 go_wp2_with (first | ((with_reducible refine gate_dst (N := 1) rfl ?_); refine box_event ?hg (N := 1) ?hd (cs := #[.slice A0_0 l0_0.length c0_0, .slice A0_1 l0_1.length c0_1, .slice A0_2 l0_2.length c0_2]) (t := 32) ?hr ?_; (case hd => rfl); (case hg => rfl); (case hr => first | (go_simp; done) | (go_simp; rfl)); intro gb1218 hg w2 hbox hb; have n0_ := Aside0.mk (below_step Zc hb); have n1_ := Aside0.mk (hbox); have n2_ := Aside0.mk ((Zd : w.heap.size ≤ gb1218)); have n3_ := Aside0.mk ((Zd : w.heap.size ≤ gb1218)); clear HB; have HB := n0_; have BK1218 := n1_; have GW1218 := n2_; have GE1218 := n3_; clear n0_ n1_ n2_ n3_; clear hb hbox hg; obtain ⟨hcz3_0, hcz3_1, hcz3_2, hfz3_0, hfz3_1, hfz3_2⟩ := cz3 BK1218))
 go_loopg [3, 9] k (fun kq v3 v9 w' => ∃ (x3_1 : List Int) (x9_1 : Int), v9 = .int .i64 x9_1 ∧ Aside0 (impl_fireTimes.l0 kq x3_1 l0_2 (l0_2.length : Int) x9_1 l0_0 l0_1 l0_2 = some r) ∧ Aside0 (kq ≤ k) ∧ Aside0 (Kd.R (Kd.int .i64) 2 w' w.heap.size (fun _ => True) v3 x3_1) ∧ Aside0 (w'.heap[gb1218]? = some (.cells #[(.slice A0_0 l0_0.length c0_0), (.slice A0_1 l0_1.length c0_1), (.slice A0_2 l0_2.length c0_2)] 32 (0, 0))) ∧ Aside0 (Below w.heap.size w w'))
 case atStart => exact ⟨(([] : List Int)), (0), Za, H', ⟨Nat.le_refl _⟩, ⟨Zn⟩, ⟨(have z0_ := BK1218; Ze)⟩, ⟨(have z0_ := GE1218; Zf)⟩⟩
 case round =>
  clear H'
  try clear c1
  try clear p2
  try clear hcz3_0
  try clear hcz3_1
  try clear hcz3_2
  try clear hfz3_0
  try clear hfz3_1
  try clear hfz3_2
  obtain ⟨x3_1, x9_1, rfl, HA, HK1, HO_3, BK1218, HB⟩ := hrel
  cases gk with
  | zero => exact absurd HA.out (by simp [impl_fireTimes.l0])
  | succ k1 =>
   have H := HA.out
   clear HA
   simp only [impl_fireTimes.l0] at H
   by_cases c4 : x9_1 < (l0_2.length : Int)
   ·rw [if_pos c4] at H
    have c4b0 : decide (x9_1 < (l0_2.length : Int)) = true := decide_eq_true c4
    clear c4
    by_cases c5 : 0 ≤ x9_1
    ·rw [if_pos c5] at H
     have c5b0 : decide (0 ≤ x9_1) = true := decide_eq_true c5
     clear c5
     by_cases c6 : x9_1 < (l0_2.length : Int)
     ·rw [if_pos c6] at H
      have c6b0 : decide (x9_1 < (l0_2.length : Int)) = true := decide_eq_true c6
      clear c6
      replace H := Option.bind_eq_some_iff.mp H
      obtain ⟨t1221, A70, H⟩ := H
      replace H : (if x3_1.length < 17592186044416 then (impl_fireTimes.l0 k1 (x3_1 ++ [t1221]) l0_2 (l0_2.length : Int) (wrap64 (x9_1 + 1)) l0_0 l0_1 l0_2) else (none)) = some r := H
      have A7 := Aside0.mk A70
      clear A70
      by_cases c8 : x3_1.length < 17592186044416
      ·rw [if_pos c8] at H
       have LMc8 := Aside0.mk c8
       clear c8
       obtain ⟨y1222, hy1222⟩ : ∃ y_ : List Int, y_ = (x3_1 ++ [t1221]) := ⟨_, rfl⟩
       replace H : (impl_fireTimes.l0 k1 y1222 l0_2 (l0_2.length : Int) (wrap64 (x9_1 + 1)) l0_0 l0_1 l0_2) = some r := by first | (rw [hy1222]; with_reducible exact H) | (have H2_ := (Option.bind_some _ _).symm.trans H; rw [hy1222]; with_reducible exact H2_) | (have H2_ := (Option.bind_some _ _).symm.trans H; with_reducible exact H2_) | with_reducible exact H | (rw [hy1222]; exact H) | exact H
       have Ny1222 := Aside0.mk hy1222
       clear hy1222
       have H' := Aside0.mk H
       clear H
       have p1219 : 0 ≤ (x9_1 : Int) := of_decide_eq_true Zp
       have q1219 : x9_1 < (l0_2.length : Int) := of_decide_eq_true Zp
       obtain ⟨ad1219, e1219, hx1219_0, hx1219_1, hx1219_2, hx1219_3⟩ := at_T43 HR0_2.out x9_1 p1219 q1219
       cases e1219
       replace hx1219_0 := cbH HB hx1219_0
       replace hx1219_1 := cbH HB hx1219_1
       replace hx1219_2 := cbH HB hx1219_2
       replace hx1219_3 := cbH HB hx1219_3
       replace p1219 := eq_true p1219
       replace q1219 := eq_true q1219
       go_wp2_with (first | ((with_reducible refine gate_dst (N := 5) rfl ?_); refine box_event ?hg (N := 5) ?hd (cs := #[.int .i64 0, .int .i64 0, .string (⟨#[]⟩ : ByteArray), .int .i64 0]) (t := 43) ?hr ?_; (case hd => rfl); (case hg => rfl); (case hr => first | (go_simp; done) | (go_simp; rfl)); intro gb1220 hg w9 hbox hb; have n0_ := Aside0.mk (Kd.R_below (have z0_ := HO_3; Zq) hb); have n1_ := Aside0.mk (blk_below (g := gb1218) (o := .cells #[.slice A0_0 l0_0.length c0_0, .slice A0_1 l0_1.length c0_1, .slice (some ad1219) l0_2.length c0_2] 32 (0, 0)) (have z0_ := BK1218; Ze) hb); have n2_ := Aside0.mk (below_step (have z0_ := GE1218; Zf) hb); have n3_ := Aside0.mk (hbox); have n4_ := Aside0.mk (((have z0_ := GE1218; Zg) : w.heap.size ≤ gb1220)); have n5_ := Aside0.mk (((have z0_ := GE1218; Zg) : w.heap.size ≤ gb1220)); have n6_ := Aside0.mk ((by rw [hg]; exact Nat.ne_of_lt (blk_lt (g := gb1218) (o := .cells #[.slice A0_0 l0_0.length c0_0, .slice A0_1 l0_1.length c0_1, .slice (some ad1219) l0_2.length c0_2] 32 (0, 0)) (have z0_ := BK1218; Ze)) : gb1218 ≠ gb1220)); have n7_ := Aside0.mk ((by rw [hg]; exact Nat.ne_of_gt (blk_lt (g := gb1218) (o := .cells #[.slice A0_0 l0_0.length c0_0, .slice A0_1 l0_1.length c0_1, .slice (some ad1219) l0_2.length c0_2] 32 (0, 0)) (have z0_ := BK1218; Ze)) : gb1220 ≠ gb1218)); clear HO_3; clear BK1218; clear HB; have HO_3 := n0_; have BK1218 := n1_; have HB := n2_; have BK1220 := n3_; have GW1220 := n4_; have GE1220 := n5_; have NB1218_1220 := n6_; have NB1220_1218 := n7_; clear n0_ n1_ n2_ n3_ n4_ n5_ n6_ n7_; clear hb hbox hg; have hnb10 := NB1220_1218.out; have hnc10 := NB1218_1220.out; obtain ⟨hcz11_0, hcz11_1, hcz11_2, hcz11_3, hfz11_0, hfz11_1, hfz11_2, hfz11_3⟩ := cz4 BK1220; obtain ⟨hcz12_0, hcz12_1, hcz12_2, hfz12_0, hfz12_1, hfz12_2⟩ := cz3 BK1218) | ((with_reducible refine gate_callee (f := 98) rfl ?_); refine goesL_ (some 16) rfl rfl Try.func98 Zj rfl #[.agg #[.slice A0_0 l0_0.length c0_0, .slice A0_1 l0_1.length c0_1, .slice (some ad1219) l0_2.length c0_2], .agg #[.int .i64 ((rd_T43 l0_2 x9_1).f0), .int .i64 ((rd_T43 l0_2 x9_1).f1), .string ((rd_T43 l0_2 x9_1).f2), .int .i64 ((rd_T43 l0_2 x9_1).f3)]] rfl Zo ?_; (with_reducible refine (impl_firedAt.calls k1 _ _ l0_0 _ _ l0_1 _ _ l0_2 ((rd_T43 l0_2 x9_1).f0) ((rd_T43 l0_2 x9_1).f1) ((rd_T43 l0_2 x9_1).f2) ((rd_T43 l0_2 x9_1).f3) t1221 _ ?side1 ?side2 ?side3 ?side4 ?side5 ?side6 A7.out).mono ?_); (case side1 => exact Kd.C_below HR0_0.out (have z0_ := GE1218; have z1_ := GE1220; Zh)); (case side2 => exact HC0_0.out); (case side3 => exact Kd.C_below HR0_1.out (have z0_ := GE1218; have z1_ := GE1220; Zh)); (case side4 => exact HC0_1.out); (case side5 => exact Kd.C_below HR0_2.out (have z0_ := GE1218; have z1_ := GE1220; Zh)); (case side6 => exact HC0_2.out); rintro e w13 ⟨rfl, hb⟩; refine ⟨_, rfl, ?_⟩; have n0_ := Aside0.mk (Kd.R_below (by (with_reducible repeat (first | apply Kd.R_alloc | apply Kd.R_drewN | apply Kd.R_drew)); exact (Kd.R_mono (Kd.R_far (p := ⟨gb1220, 3, none⟩) (Kd.R_far (p := ⟨gb1220, 2, none⟩) (Kd.R_far (p := ⟨gb1220, 1, none⟩) (Kd.R_far (p := ⟨gb1220, 0, none⟩) (Kd.R_types HO_3.out BK1220.out (by decide)) (fun _ hk => hk.2) (.int .i64 ((rd_T43 l0_2 x9_1).f0))) (fun _ hk => hk.2) (.int .i64 ((rd_T43 l0_2 x9_1).f1))) (fun _ hk => hk.2) (.string ((rd_T43 l0_2 x9_1).f2))) (fun _ hk => hk.2) (.int .i64 ((rd_T43 l0_2 x9_1).f3))) (fun _ h_ => h_.1))) hb); have n1_ := Aside0.mk (blk_below (g := gb1218) (o := .cells #[.slice A0_0 l0_0.length c0_0, .slice A0_1 l0_1.length c0_1, .slice (some ad1219) l0_2.length c0_2] 32 (0, 0)) (have z0_ := NB1218_1220; have z1_ := BK1218; Zar) hb); have n2_ := Aside0.mk (blk_below (g := gb1220) (o := .cells #[.int .i64 ((rd_T43 l0_2 x9_1).f0), .int .i64 ((rd_T43 l0_2 x9_1).f1), .string ((rd_T43 l0_2 x9_1).f2), .int .i64 ((rd_T43 l0_2 x9_1).f3)] 43 (0, 0)) (by (with_reducible repeat (first | refine blk_drewN ?_ _ | refine blk_drew ?_ | refine blk_alloc ?_ _)); refine blk_put (cs := #[.int .i64 ((rd_T43 l0_2 x9_1).f0), .int .i64 ((rd_T43 l0_2 x9_1).f1), .string ((rd_T43 l0_2 x9_1).f2), .int .i64 0]) ?_ 3 _ rfl; (with_reducible repeat (first | refine blk_drewN ?_ _ | refine blk_drew ?_ | refine blk_alloc ?_ _)); refine blk_put (cs := #[.int .i64 ((rd_T43 l0_2 x9_1).f0), .int .i64 ((rd_T43 l0_2 x9_1).f1), .string (⟨#[]⟩ : ByteArray), .int .i64 0]) ?_ 2 _ rfl; (with_reducible repeat (first | refine blk_drewN ?_ _ | refine blk_drew ?_ | refine blk_alloc ?_ _)); refine blk_put (cs := #[.int .i64 ((rd_T43 l0_2 x9_1).f0), .int .i64 0, .string (⟨#[]⟩ : ByteArray), .int .i64 0]) ?_ 1 _ rfl; (with_reducible repeat (first | refine blk_drewN ?_ _ | refine blk_drew ?_ | refine blk_alloc ?_ _)); refine blk_put (cs := #[.int .i64 0, .int .i64 0, .string (⟨#[]⟩ : ByteArray), .int .i64 0]) ?_ 0 _ rfl; (with_reducible repeat (first | refine blk_drewN ?_ _ | refine blk_drew ?_ | refine blk_alloc ?_ _)); exact BK1220.out) hb); have n3_ := Aside0.mk (below_step (have z0_ := GE1218; have z1_ := GE1220; Zh) hb); clear HO_3; clear BK1218; clear BK1220; clear HB; have HO_3 := n0_; have BK1218 := n1_; have BK1220 := n2_; have HB := n3_; clear n0_ n1_ n2_ n3_; (try clear hb); (try clear hb2); (try clear hk); (try clear hi)) | ((with_reducible refine gate_builtin (b := .append) (xs := #[.tmp 13, .tmp 17]) rfl ?_); at_builtin; refine Kd.R_append (Kd.int .i64) (w0 := w) w.heap.size rfl (.tmp 13) (.tmp 17) 61 2 (.int .i64 0) 8 rfl Try.underlying61 info2 rfl (by decide) (by omega) u3 x3_1 t1221 [.int .i64 t1221] (fun _ => True) (fun _ => False) rfl rfl ?aP (fun _ hk => hk.elim) ?aF ?aO ?aB ?aS ?aL ?_; (case aP => exact rfl); (case aB => exact (have z0_ := GE1218; have z1_ := GE1220; Zh)); (case aF => exact (fun _ _ => trivial)); (case aO => exact (have z0_ := HO_3; Zq)); (case aS => exact (below_size (have z0_ := GE1218; have z1_ := GE1220; Zh))); (case aL => have := LMc8.out; omega); intro v1223 w14 ho hb hg hat; rw [← Ny1222.out] at ho; have n0_ := Aside0.mk (blk_grown (g := gb1218) (o := .cells #[.slice A0_0 l0_0.length c0_0, .slice A0_1 l0_1.length c0_1, .slice (some ad1219) l0_2.length c0_2] 32 (0, 0)) (have z0_ := BK1218; Ze) hg (Kd.R_ne HO_3.out BK1218.out (by decide))); have n1_ := Aside0.mk (blk_grown (g := gb1220) (o := .cells #[.int .i64 ((rd_T43 l0_2 x9_1).f0), .int .i64 ((rd_T43 l0_2 x9_1).f1), .string ((rd_T43 l0_2 x9_1).f2), .int .i64 ((rd_T43 l0_2 x9_1).f3)] 43 (0, 0)) (have z0_ := BK1220; Ze) hg (Kd.R_ne HO_3.out BK1220.out (by decide))); have n2_ := Aside0.mk (hb); have n3_ := Aside0.mk (ho); clear BK1218; clear BK1220; clear HB; clear HO_3; have BK1218 := n0_; have BK1220 := n1_; have HB := n2_; have HO1224 := n3_; clear n0_ n1_ n2_ n3_; clear ho hb hg hat))
       go_roundg k1
       case measure => have := HK1.out; omega
       case rel => exact ⟨(y1222), (wrap64 (x9_1 + 1)), Za, H', ⟨Zt⟩, ⟨(have z0_ := HO1224; Zq)⟩, ⟨(have z0_ := BK1218; Ze)⟩, ⟨(have z0_ := GE1218; have z1_ := GE1220; Zh)⟩⟩
      ·rw [if_neg c8] at H
       exact absurd H (by simp)
     ·rw [if_neg c6] at H
      exact absurd H (by simp)
    ·rw [if_neg c5] at H
     exact absurd H (by simp)
   ·rw [if_neg c4] at H
    have c4b0 : decide (x9_1 < (l0_2.length : Int)) = false := decide_eq_false c4
    clear c4
    obtain rfl := Option.some.inj H
    go_wp2
    go_ret
    exact ⟨_, Zk, (have z0_ := HO_3; Zq), (have z0_ := GE1218; Zf)⟩
end Go.Proofs.Ytnlbaflbhicooaa.F
namespace Go.Proofs.Ytnlbaflbhicooaa.F
open Go.RowKit Go.Proofs.YtnlbaflbhicooaaW.PrintWords Go.Proofs.YtnlbaflbhicooaaW.PrintLast Go.Proofs.YtnlbaflbhicooaaW.PrintMore
attribute [local go_sem] max2_int min2_int max_two min_two max_three min_three max_four min_four   -- for this text's walks alone
set_option linter.unusedVariables false
set_option linter.unusedSimpArgs false
def impl_isTime.f (a0 : Int) : Option (Bool) := (impl_within.f a0 0 10000000).bind fun t1671 => (some t1671)
set_option maxHeartbeats 8000000 in
set_option maxRecDepth 100000 in
theorem impl_isTime.calls (a0 : Int) (r : Bool) (w : World) (h : impl_isTime.f a0 = some r) :
  Calls Try.prog 115 #[.int .i64 a0] w fun e w' => e = .returned (.bool r) ∧ Drawn0 w w' := by
 have H : ((impl_within.f a0 0 10000000).bind fun t1671 => (some t1671)) = some r := h
 clear h
 replace H := Option.bind_eq_some_iff.mp H
 obtain ⟨t1671, A20, H⟩ := H
 replace H : (some t1671) = some r := H
 have A2 := Aside0.mk A20
 clear A20
 obtain rfl := Option.some.inj H
 go_enter Try.func115, Try.ntmps115
 go_wp2_with (first | ((with_reducible refine gate_callee (f := 89) rfl ?_); refine goesL_ (some 4) rfl rfl Try.func89 Zj rfl #[.int .i64 a0, .int .i64 0, .int .i64 10000000] rfl Zo ?_; (with_reducible refine (impl_within.calls a0 0 10000000 t1671 _ A2.out).mono ?_); rintro e w' ⟨rfl, ⟨nd, rfl⟩⟩; refine ⟨_, rfl, ?_⟩))
 go_ret
 exact ⟨Za, Zb⟩
end Go.Proofs.Ytnlbaflbhicooaa.F
namespace Go.Proofs.Ytnlbaflbhicooaa.F
open Go.RowKit Go.Proofs.YtnlbaflbhicooaaW.PrintWords Go.Proofs.YtnlbaflbhicooaaW.PrintLast Go.Proofs.YtnlbaflbhicooaaW.PrintMore
attribute [local go_sem] max2_int min2_int max_two min_two max_three min_three max_four min_four   -- for this text's walks alone
set_option linter.unusedVariables false
set_option linter.unusedSimpArgs false
def impl_FiredAt.l0 : Nat → Int → List Int → List Int → Int → Int → Option (List Int × Int)
 | 0, _, _, _, _, _ => none
 | k + 1, x1, x6, x16, x17, x18 => if x18 < x17 then (if 0 ≤ x18 then (if x18 < (x16.length : Int) then (if (rd x16 x18) = x1 then (if x6.length < 17592186044416 then (impl_FiredAt.l0 k x1 (x6 ++ [x18]) x16 x17 (wrap64 (x18 + 1))) else (none)) else (impl_FiredAt.l0 k x1 x6 x16 x17 (wrap64 (x18 + 1)))) else (none)) else (none)) else (some (x6, 0))
def impl_FiredAt.f (k : Nat) (l0_0 : List (S108)) (l0_1 : List (S92)) (l0_2 : List (S43)) (a1 : Int) : Option (List Int × Int) := (impl_IsShow.f k l0_0 l0_1 l0_2).bind fun t1673 => (if t1673 = true then ((impl_isTime.f a1).bind fun t1674 => (if t1674 = true then ((impl_fireTimes.f k l0_0 l0_1 l0_2).bind fun t1675 => (impl_FiredAt.l0 k a1 ([] : List Int) t1675 (t1675.length : Int) 0)) else (some (([] : List Int), 2)))) else (some (([] : List Int), 1)))
set_option maxHeartbeats 8000000 in
set_option maxRecDepth 100000 in
theorem impl_FiredAt.calls (k : Nat) (A0_0 : Option Addr) (c0_0 : Nat) (l0_0 : List (S108)) (A0_1 : Option Addr) (c0_1 : Nat) (l0_1 : List (S92)) (A0_2 : Option Addr) (c0_2 : Nat) (l0_2 : List (S43)) (a1 : Int) (r1 : List Int) (r2 : Int) (w : World) (hr0_0 : Kd.C k108 w A0_0 l0_0.length l0_0) (hc0_0 : l0_0.length ≤ c0_0) (hr0_1 : Kd.C k92 w A0_1 l0_1.length l0_1) (hc0_1 : l0_1.length ≤ c0_1) (hr0_2 : Kd.C k43 w A0_2 l0_2.length l0_2) (hc0_2 : l0_2.length ≤ c0_2) (h : impl_FiredAt.f k l0_0 l0_1 l0_2 a1 = some (r1, r2)) :
  Calls Try.prog 60 #[.agg #[.slice A0_0 l0_0.length c0_0, .slice A0_1 l0_1.length c0_1, .slice A0_2 l0_2.length c0_2], .int .i64 a1] w fun e w' => ∃ v0_ : Value, e = .returned (.tuple #[v0_, .int .i64 r2]) ∧ Kd.R (Kd.int .i64) 2 w' w.heap.size (fun _ => True) v0_ r1 ∧ Below w.heap.size w w' := by
 have hu32 := Try.underlying32
 have HR0_0 := Aside0.mk hr0_0
 have HC0_0 := Aside0.mk hc0_0
 clear hr0_0 hc0_0
 have HR0_1 := Aside0.mk hr0_1
 have HC0_1 := Aside0.mk hc0_1
 clear hr0_1 hc0_1
 have HR0_2 := Aside0.mk hr0_2
 have HC0_2 := Aside0.mk hc0_2
 clear hr0_2 hc0_2
 have HB := Aside0.mk (Below.refl w.heap.size w)
 have H : ((impl_IsShow.f k l0_0 l0_1 l0_2).bind fun t1673 => (if t1673 = true then ((impl_isTime.f a1).bind fun t1674 => (if t1674 = true then ((impl_fireTimes.f k l0_0 l0_1 l0_2).bind fun t1675 => (impl_FiredAt.l0 k a1 ([] : List Int) t1675 (t1675.length : Int) 0)) else (some (([] : List Int), 2)))) else (some (([] : List Int), 1)))) = some (r1, r2) := h
 clear h
 replace H := Option.bind_eq_some_iff.mp H
 obtain ⟨t1673, A30, H⟩ := H
 replace H : (if t1673 = true then ((impl_isTime.f a1).bind fun t1674 => (if t1674 = true then ((impl_fireTimes.f k l0_0 l0_1 l0_2).bind fun t1675 => (impl_FiredAt.l0 k a1 ([] : List Int) t1675 (t1675.length : Int) 0)) else (some (([] : List Int), 2)))) else (some (([] : List Int), 1))) = some (r1, r2) := H
 have A3 := Aside0.mk A30
 clear A30
 by_cases c4 : t1673 = true
 ·subst c4
  have H1 : ((impl_isTime.f a1).bind fun t1674 => (if t1674 = true then ((impl_fireTimes.f k l0_0 l0_1 l0_2).bind fun t1675 => (impl_FiredAt.l0 k a1 ([] : List Int) t1675 (t1675.length : Int) 0)) else (some (([] : List Int), 2)))) = some (r1, r2) := by rw [if_pos rfl] at H; exact H
  clear H
  have H := H1
  clear H1
  replace H := Option.bind_eq_some_iff.mp H
  obtain ⟨t1674, A50, H⟩ := H
  replace H : (if t1674 = true then ((impl_fireTimes.f k l0_0 l0_1 l0_2).bind fun t1675 => (impl_FiredAt.l0 k a1 ([] : List Int) t1675 (t1675.length : Int) 0)) else (some (([] : List Int), 2))) = some (r1, r2) := H
  have A5 := Aside0.mk A50
  clear A50
  by_cases c6 : t1674 = true
  ·subst c6
   have H1 : ((impl_fireTimes.f k l0_0 l0_1 l0_2).bind fun t1675 => (impl_FiredAt.l0 k a1 ([] : List Int) t1675 (t1675.length : Int) 0)) = some (r1, r2) := by rw [if_pos rfl] at H; exact H
   clear H
   have H := H1
   clear H1
   replace H := Option.bind_eq_some_iff.mp H
   obtain ⟨t1675, A70, H⟩ := H
   replace H : (impl_FiredAt.l0 k a1 ([] : List Int) t1675 (t1675.length : Int) 0) = some (r1, r2) := H
   have A7 := Aside0.mk A70
   clear A70
   have H' := Aside0.mk H
   clear H
   go_enter Try.func60, Try.ntmps60
   go_wp2_with (first | ((with_reducible refine gate_dst (N := 2) rfl ?_); refine box_event ?hg (N := 2) ?hd (cs := #[.slice A0_0 l0_0.length c0_0, .slice A0_1 l0_1.length c0_1, .slice A0_2 l0_2.length c0_2]) (t := 32) ?hr ?_; (case hd => rfl); (case hg => rfl); (case hr => first | (go_simp; done) | (go_simp; rfl)); intro gb1672 hg w8 hbox hb; have n0_ := Aside0.mk (below_step Zc hb); have n1_ := Aside0.mk (hbox); have n2_ := Aside0.mk ((Zd : w.heap.size ≤ gb1672)); have n3_ := Aside0.mk ((Zd : w.heap.size ≤ gb1672)); clear HB; have HB := n0_; have BK1672 := n1_; have GW1672 := n2_; have GE1672 := n3_; clear n0_ n1_ n2_ n3_; clear hb hbox hg; obtain ⟨hcz9_0, hcz9_1, hcz9_2, hfz9_0, hfz9_1, hfz9_2⟩ := cz3 BK1672) | ((with_reducible refine gate_callee (f := 37) rfl ?_); refine goesL_ (some 10) rfl rfl Try.func37 Zj rfl #[.agg #[.slice A0_0 l0_0.length c0_0, .slice A0_1 l0_1.length c0_1, .slice A0_2 l0_2.length c0_2]] rfl Zo ?_; (with_reducible refine (impl_IsShow.calls k _ _ l0_0 _ _ l0_1 _ _ l0_2 true _ ?side1 ?side2 ?side3 ?side4 ?side5 ?side6 A3.out).mono ?_); (case side1 => repeat (first | exact (Kd.C_below HR0_0.out HB.out) | (with_reducible refine Kd.C_alloc ?_ _) | (with_reducible refine Kd.C_drewN ?_ _) | (with_reducible refine Kd.C_drew ?_))); (case side2 => exact HC0_0.out); (case side3 => repeat (first | exact (Kd.C_below HR0_1.out HB.out) | (with_reducible refine Kd.C_alloc ?_ _) | (with_reducible refine Kd.C_drewN ?_ _) | (with_reducible refine Kd.C_drew ?_))); (case side4 => exact HC0_1.out); (case side5 => repeat (first | exact (Kd.C_below HR0_2.out HB.out) | (with_reducible refine Kd.C_alloc ?_ _) | (with_reducible refine Kd.C_drewN ?_ _) | (with_reducible refine Kd.C_drew ?_))); (case side6 => exact HC0_2.out); rintro e w10 ⟨rfl, hb⟩; refine ⟨_, rfl, ?_⟩; have n0_ := Aside0.mk (blk_below (g := gb1672) (o := .cells #[.slice A0_0 l0_0.length c0_0, .slice A0_1 l0_1.length c0_1, .slice A0_2 l0_2.length c0_2] 32 (0, 0)) (have z0_ := BK1672; Ze) hb); have n1_ := Aside0.mk (below_step (have z0_ := GE1672; Zf) hb); clear BK1672; clear HB; have BK1672 := n0_; have HB := n1_; clear n0_ n1_; (try clear hb); (try clear hb2); (try clear hk); (try clear hi)) | ((with_reducible refine gate_callee (f := 115) rfl ?_); refine goesL_ (some 13) rfl rfl Try.func115 Zj rfl #[.int .i64 a1] rfl Zo ?_; (with_reducible refine (impl_isTime.calls a1 true _ A5.out).mono ?_); rintro e w' ⟨rfl, ⟨nd, rfl⟩⟩; refine ⟨_, rfl, ?_⟩; obtain ⟨hcz11_0, hcz11_1, hcz11_2, hfz11_0, hfz11_1, hfz11_2⟩ := cz3 BK1672) | ((with_reducible refine gate_callee (f := 110) rfl ?_); refine goesL_ (some 16) rfl rfl Try.func110 Zj rfl #[.agg #[.slice A0_0 l0_0.length c0_0, .slice A0_1 l0_1.length c0_1, .slice A0_2 l0_2.length c0_2]] rfl Zo ?_; (with_reducible refine (impl_fireTimes.calls k _ _ l0_0 _ _ l0_1 _ _ l0_2 t1675 _ ?side1 ?side2 ?side3 ?side4 ?side5 ?side6 A7.out).mono ?_); (case side1 => repeat (first | exact (Kd.C_below HR0_0.out (have z0_ := GE1672; Zf)) | (with_reducible refine Kd.C_alloc ?_ _) | (with_reducible refine Kd.C_drewN ?_ _) | (with_reducible refine Kd.C_drew ?_))); (case side2 => exact HC0_0.out); (case side3 => repeat (first | exact (Kd.C_below HR0_1.out (have z0_ := GE1672; Zf)) | (with_reducible refine Kd.C_alloc ?_ _) | (with_reducible refine Kd.C_drewN ?_ _) | (with_reducible refine Kd.C_drew ?_))); (case side4 => exact HC0_1.out); (case side5 => repeat (first | exact (Kd.C_below HR0_2.out (have z0_ := GE1672; Zf)) | (with_reducible refine Kd.C_alloc ?_ _) | (with_reducible refine Kd.C_drewN ?_ _) | (with_reducible refine Kd.C_drew ?_))); (case side6 => exact HC0_2.out); rintro e w12 ⟨v1676, rfl, ho0, hb⟩; refine ⟨_, rfl, ?_⟩; have n0_ := Aside0.mk (Kd.R_lower ho0 (below_size (have z0_ := GE1672; Zf))); have n1_ := Aside0.mk (blk_below (g := gb1672) (o := .cells #[.slice A0_0 l0_0.length c0_0, .slice A0_1 l0_1.length c0_1, .slice A0_2 l0_2.length c0_2] 32 (0, 0)) (have z0_ := BK1672; Ze) hb); have n2_ := Aside0.mk (below_step (have z0_ := GE1672; Zf) hb); clear BK1672; clear HB; have HO1677 := n0_; have BK1672 := n1_; have HB := n2_; clear n0_ n1_ n2_; (try clear hb); (try clear hb2); (try clear hk); (try clear hi); (try clear ho0); obtain ⟨Ao13, co13, eo13⟩ := Kd.R_slice HO1677.out; subst eo13))
   go_loopg [6, 18] k (fun kq v6 v18 w' => ∃ (x6_1 : List Int) (x18_1 : Int), v18 = .int .i64 x18_1 ∧ Aside0 (impl_FiredAt.l0 kq a1 x6_1 t1675 (t1675.length : Int) x18_1 = some (r1, r2)) ∧ Aside0 (kq ≤ k) ∧ Aside0 (Kd.R (Kd.int .i64) 2 w' w.heap.size (fun k_ => some k_ ≠ ((.slice Ao13 t1675.length co13) : Value).ownBlock) v6 x6_1) ∧ Aside0 (Kd.R (Kd.int .i64) 2 w' w.heap.size (fun k_ => some k_ ≠ (v6 : Value).ownBlock) (.slice Ao13 t1675.length co13) t1675) ∧ Aside0 (w'.heap[gb1672]? = some (.cells #[(.slice A0_0 l0_0.length c0_0), (.slice A0_1 l0_1.length c0_1), (.slice A0_2 l0_2.length c0_2)] 32 (0, 0))) ∧ Aside0 (Below w.heap.size w w'))
   case atStart => exact ⟨(([] : List Int)), (0), Za, H', ⟨Nat.le_refl _⟩, ⟨Zn⟩, ⟨by (with_reducible repeat (first | apply Kd.R_alloc | apply Kd.R_drewN | apply Kd.R_drew)); exact Kd.R_mono HO1677.out (fun _ hk => (by simp [Value.ownBlock]))⟩, ⟨(have z0_ := BK1672; Ze)⟩, ⟨(have z0_ := GE1672; Zf)⟩⟩
   case round =>
    clear H'
    try clear c1
    try clear p2
    try clear c3
    try clear c4
    try clear c6
    try clear c11
    try clear hcz11_0
    try clear hcz11_1
    try clear hcz11_2
    try clear hcz9_0
    try clear hcz9_1
    try clear hcz9_2
    try clear hfz11_0
    try clear hfz11_1
    try clear hfz11_2
    try clear hfz9_0
    try clear hfz9_1
    try clear hfz9_2
    obtain ⟨x6_1, x18_1, rfl, HA, HK1, HO_6, HO_16, BK1672, HB⟩ := hrel
    cases gk with
    | zero => exact absurd HA.out (by simp [impl_FiredAt.l0])
    | succ k1 =>
     have H := HA.out
     clear HA
     simp only [impl_FiredAt.l0] at H
     by_cases c14 : x18_1 < (t1675.length : Int)
     ·rw [if_pos c14] at H
      have c14b0 : decide (x18_1 < (t1675.length : Int)) = true := decide_eq_true c14
      clear c14
      by_cases c15 : 0 ≤ x18_1
      ·rw [if_pos c15] at H
       have c15b0 : decide (0 ≤ x18_1) = true := decide_eq_true c15
       clear c15
       by_cases c16 : x18_1 < (t1675.length : Int)
       ·rw [if_pos c16] at H
        have c16b0 : decide (x18_1 < (t1675.length : Int)) = true := decide_eq_true c16
        clear c16
        by_cases c17 : (rd t1675 x18_1) = a1
        ·rw [if_pos c17] at H
         have c17b0 : ((rd t1675 x18_1) == a1) = true := beq_iff_eq.mpr c17
         have c17b1 : ((rd t1675 x18_1) != a1) = false := bne_eq_false_iff_eq.mpr c17
         clear c17
         by_cases c18 : x6_1.length < 17592186044416
         ·rw [if_pos c18] at H
          have LMc18 := Aside0.mk c18
          clear c18
          obtain ⟨y1679, hy1679⟩ : ∃ y_ : List Int, y_ = (x6_1 ++ [x18_1]) := ⟨_, rfl⟩
          replace H : (impl_FiredAt.l0 k1 a1 y1679 t1675 (t1675.length : Int) (wrap64 (x18_1 + 1))) = some (r1, r2) := by first | (rw [hy1679]; with_reducible exact H) | (have H2_ := (Option.bind_some _ _).symm.trans H; rw [hy1679]; with_reducible exact H2_) | (have H2_ := (Option.bind_some _ _).symm.trans H; with_reducible exact H2_) | with_reducible exact H | (rw [hy1679]; exact H) | exact H
          have Ny1679 := Aside0.mk hy1679
          clear hy1679
          have H' := Aside0.mk H
          clear H
          have p1678 : 0 ≤ (x18_1 : Int) := of_decide_eq_true Zp
          have q1678 : x18_1 < (t1675.length : Int) := of_decide_eq_true Zp
          obtain ⟨ad1678, e1678, hx1678_0⟩ := Kd.at_int (Kd.R_reads' HO_16.out).2.2 x18_1 p1678 q1678
          cases e1678
          replace p1678 := eq_true p1678
          replace q1678 := eq_true q1678
          go_wp2_with (first | ((with_reducible refine gate_builtin (b := .append) (xs := #[.tmp 26, .tmp 28]) rfl ?_); at_builtin; refine Kd.R_append (Kd.int .i64) (w0 := w) w.heap.size rfl (.tmp 26) (.tmp 28) 61 2 (.int .i64 0) 8 rfl Try.underlying61 info2 rfl (by decide) (by omega) u6 x6_1 x18_1 [.int .i64 x18_1] (fun k_ => some k_ ≠ (.slice (some ad1678) t1675.length co13 : Value).ownBlock) (fun _ => False) rfl rfl ?aP (fun _ hk => hk.elim) ?aF ?aO ?aB ?aS ?aL ?_; (case aP => exact rfl); (case aB => exact (have z0_ := GE1672; Zf)); (case aF => exact (fun k_ hk => Kd.fresh' (Kd.R_lt (have z0_ := HO_16; Zq)) k_ hk)); (case aO => exact (have z0_ := HO_6; Zq)); (case aS => exact (below_size (have z0_ := GE1672; Zf))); (case aL => have := LMc18.out; omega); intro v1680 w19 ho hb hg hat; rw [← Ny1679.out] at ho; have n0_ := Aside0.mk (Kd.R_after (ok := (fun _ => True)) (by (with_reducible repeat (first | apply Kd.R_alloc | apply Kd.R_drewN | apply Kd.R_drew)); exact Kd.R_mono HO_16.out (fun _ hk => ⟨trivial, hk⟩)) hg hat); have n1_ := Aside0.mk (blk_grown (g := gb1672) (o := .cells #[.slice A0_0 l0_0.length c0_0, .slice A0_1 l0_1.length c0_1, .slice A0_2 l0_2.length c0_2] 32 (0, 0)) (have z0_ := BK1672; Ze) hg (Kd.R_ne HO_6.out BK1672.out (by decide))); have n2_ := Aside0.mk (hb); have n3_ := Aside0.mk (ho); clear HO_16; clear BK1672; clear HB; clear HO_6; have HO_16 := n0_; have BK1672 := n1_; have HB := n2_; have HO1681 := n3_; clear n0_ n1_ n2_ n3_; clear ho hb hg hat))
          go_roundg k1
          case measure => have := HK1.out; omega
          case rel => exact ⟨(y1679), (wrap64 (x18_1 + 1)), Za, H', ⟨Zt⟩, ⟨(have z0_ := HO1681; Zq)⟩, ⟨by (with_reducible repeat (first | apply Kd.R_alloc | apply Kd.R_drewN | apply Kd.R_drew)); exact Kd.R_mono HO_16.out (fun _ hk => hk.2)⟩, ⟨(have z0_ := BK1672; Ze)⟩, ⟨(have z0_ := GE1672; Zf)⟩⟩
         ·rw [if_neg c18] at H
          exact absurd H (by simp)
        ·rw [if_neg c17] at H
         have c17b0 : ((rd t1675 x18_1) == a1) = false := beq_eq_false_iff_ne.mpr c17
         have c17b1 : ((rd t1675 x18_1) != a1) = true := bne_iff_ne.mpr c17
         have H' := Aside0.mk H
         clear H
         have p1678 : 0 ≤ (x18_1 : Int) := of_decide_eq_true Zp
         have q1678 : x18_1 < (t1675.length : Int) := of_decide_eq_true Zp
         obtain ⟨ad1678, e1678, hx1678_0⟩ := Kd.at_int (Kd.R_reads' HO_16.out).2.2 x18_1 p1678 q1678
         cases e1678
         replace p1678 := eq_true p1678
         replace q1678 := eq_true q1678
         go_wp2
         go_roundg k1
         case measure => have := HK1.out; omega
         case rel => exact ⟨(x6_1), (wrap64 (x18_1 + 1)), Za, H', ⟨Zt⟩, ⟨(have z0_ := HO_6; Zq)⟩, ⟨(have z0_ := HO_16; Zq)⟩, ⟨(have z0_ := BK1672; Ze)⟩, ⟨(have z0_ := GE1672; Zf)⟩⟩
       ·rw [if_neg c16] at H
        exact absurd H (by simp)
      ·rw [if_neg c15] at H
       exact absurd H (by simp)
     ·rw [if_neg c14] at H
      have c14b0 : decide (x18_1 < (t1675.length : Int)) = false := decide_eq_false c14
      clear c14
      simp only [Option.some.injEq, Prod.mk.injEq] at H
      obtain ⟨rfl, rfl⟩ := H
      go_wp2
      go_ret2
      exact ⟨_, Zk, by (with_reducible repeat (first | apply Kd.R_alloc | apply Kd.R_drewN | apply Kd.R_drew)); exact Kd.R_mono HO_6.out (fun _ hk => trivial), (have z0_ := GE1672; Zf)⟩
  ·replace c6 := Bool.eq_false_iff.mpr c6
   subst c6
   have H1 : (some (([] : List Int), 2)) = some (r1, r2) := by rw [if_neg (show ¬ (false = true) by decide)] at H; exact H
   clear H
   have H := H1
   clear H1
   simp only [Option.some.injEq, Prod.mk.injEq] at H
   obtain ⟨rfl, rfl⟩ := H
   go_enter Try.func60, Try.ntmps60
   go_wp2_with (first | ((with_reducible refine gate_dst (N := 2) rfl ?_); refine box_event ?hg (N := 2) ?hd (cs := #[.slice A0_0 l0_0.length c0_0, .slice A0_1 l0_1.length c0_1, .slice A0_2 l0_2.length c0_2]) (t := 32) ?hr ?_; (case hd => rfl); (case hg => rfl); (case hr => first | (go_simp; done) | (go_simp; rfl)); intro gb1672 hg w20 hbox hb; have n0_ := Aside0.mk (below_step Zc hb); have n1_ := Aside0.mk (hbox); have n2_ := Aside0.mk ((Zd : w.heap.size ≤ gb1672)); have n3_ := Aside0.mk ((Zd : w.heap.size ≤ gb1672)); clear HB; have HB := n0_; have BK1672 := n1_; have GW1672 := n2_; have GE1672 := n3_; clear n0_ n1_ n2_ n3_; clear hb hbox hg; obtain ⟨hcz21_0, hcz21_1, hcz21_2, hfz21_0, hfz21_1, hfz21_2⟩ := cz3 BK1672) | ((with_reducible refine gate_callee (f := 37) rfl ?_); refine goesL_ (some 10) rfl rfl Try.func37 Zj rfl #[.agg #[.slice A0_0 l0_0.length c0_0, .slice A0_1 l0_1.length c0_1, .slice A0_2 l0_2.length c0_2]] rfl Zo ?_; (with_reducible refine (impl_IsShow.calls k _ _ l0_0 _ _ l0_1 _ _ l0_2 true _ ?side1 ?side2 ?side3 ?side4 ?side5 ?side6 A3.out).mono ?_); (case side1 => repeat (first | exact (Kd.C_below HR0_0.out HB.out) | (with_reducible refine Kd.C_alloc ?_ _) | (with_reducible refine Kd.C_drewN ?_ _) | (with_reducible refine Kd.C_drew ?_))); (case side2 => exact HC0_0.out); (case side3 => repeat (first | exact (Kd.C_below HR0_1.out HB.out) | (with_reducible refine Kd.C_alloc ?_ _) | (with_reducible refine Kd.C_drewN ?_ _) | (with_reducible refine Kd.C_drew ?_))); (case side4 => exact HC0_1.out); (case side5 => repeat (first | exact (Kd.C_below HR0_2.out HB.out) | (with_reducible refine Kd.C_alloc ?_ _) | (with_reducible refine Kd.C_drewN ?_ _) | (with_reducible refine Kd.C_drew ?_))); (case side6 => exact HC0_2.out); rintro e w22 ⟨rfl, hb⟩; refine ⟨_, rfl, ?_⟩; have n0_ := Aside0.mk (blk_below (g := gb1672) (o := .cells #[.slice A0_0 l0_0.length c0_0, .slice A0_1 l0_1.length c0_1, .slice A0_2 l0_2.length c0_2] 32 (0, 0)) (have z0_ := BK1672; Ze) hb); have n1_ := Aside0.mk (below_step (have z0_ := GE1672; Zf) hb); clear BK1672; clear HB; have BK1672 := n0_; have HB := n1_; clear n0_ n1_; (try clear hb); (try clear hb2); (try clear hk); (try clear hi)) | ((with_reducible refine gate_callee (f := 115) rfl ?_); refine goesL_ (some 13) rfl rfl Try.func115 Zj rfl #[.int .i64 a1] rfl Zo ?_; (with_reducible refine (impl_isTime.calls a1 false _ A5.out).mono ?_); rintro e w' ⟨rfl, ⟨nd, rfl⟩⟩; refine ⟨_, rfl, ?_⟩))
   go_ret2
   exact ⟨_, Zk, Zn, (have z0_ := GE1672; Zf)⟩
 ·replace c4 := Bool.eq_false_iff.mpr c4
  subst c4
  have H1 : (some (([] : List Int), 1)) = some (r1, r2) := by rw [if_neg (show ¬ (false = true) by decide)] at H; exact H
  clear H
  have H := H1
  clear H1
  simp only [Option.some.injEq, Prod.mk.injEq] at H
  obtain ⟨rfl, rfl⟩ := H
  go_enter Try.func60, Try.ntmps60
  go_wp2_with (first | ((with_reducible refine gate_dst (N := 2) rfl ?_); refine box_event ?hg (N := 2) ?hd (cs := #[.slice A0_0 l0_0.length c0_0, .slice A0_1 l0_1.length c0_1, .slice A0_2 l0_2.length c0_2]) (t := 32) ?hr ?_; (case hd => rfl); (case hg => rfl); (case hr => first | (go_simp; done) | (go_simp; rfl)); intro gb1672 hg w23 hbox hb; have n0_ := Aside0.mk (below_step Zc hb); have n1_ := Aside0.mk (hbox); have n2_ := Aside0.mk ((Zd : w.heap.size ≤ gb1672)); have n3_ := Aside0.mk ((Zd : w.heap.size ≤ gb1672)); clear HB; have HB := n0_; have BK1672 := n1_; have GW1672 := n2_; have GE1672 := n3_; clear n0_ n1_ n2_ n3_; clear hb hbox hg; obtain ⟨hcz24_0, hcz24_1, hcz24_2, hfz24_0, hfz24_1, hfz24_2⟩ := cz3 BK1672) | ((with_reducible refine gate_callee (f := 37) rfl ?_); refine goesL_ (some 10) rfl rfl Try.func37 Zj rfl #[.agg #[.slice A0_0 l0_0.length c0_0, .slice A0_1 l0_1.length c0_1, .slice A0_2 l0_2.length c0_2]] rfl Zo ?_; (with_reducible refine (impl_IsShow.calls k _ _ l0_0 _ _ l0_1 _ _ l0_2 false _ ?side1 ?side2 ?side3 ?side4 ?side5 ?side6 A3.out).mono ?_); (case side1 => repeat (first | exact (Kd.C_below HR0_0.out HB.out) | (with_reducible refine Kd.C_alloc ?_ _) | (with_reducible refine Kd.C_drewN ?_ _) | (with_reducible refine Kd.C_drew ?_))); (case side2 => exact HC0_0.out); (case side3 => repeat (first | exact (Kd.C_below HR0_1.out HB.out) | (with_reducible refine Kd.C_alloc ?_ _) | (with_reducible refine Kd.C_drewN ?_ _) | (with_reducible refine Kd.C_drew ?_))); (case side4 => exact HC0_1.out); (case side5 => repeat (first | exact (Kd.C_below HR0_2.out HB.out) | (with_reducible refine Kd.C_alloc ?_ _) | (with_reducible refine Kd.C_drewN ?_ _) | (with_reducible refine Kd.C_drew ?_))); (case side6 => exact HC0_2.out); rintro e w25 ⟨rfl, hb⟩; refine ⟨_, rfl, ?_⟩; have n0_ := Aside0.mk (blk_below (g := gb1672) (o := .cells #[.slice A0_0 l0_0.length c0_0, .slice A0_1 l0_1.length c0_1, .slice A0_2 l0_2.length c0_2] 32 (0, 0)) (have z0_ := BK1672; Ze) hb); have n1_ := Aside0.mk (below_step (have z0_ := GE1672; Zf) hb); clear BK1672; clear HB; have BK1672 := n0_; have HB := n1_; clear n0_ n1_; (try clear hb); (try clear hb2); (try clear hk); (try clear hi)))
  go_ret2
  exact ⟨_, Zk, Zn, (have z0_ := GE1672; Zf)⟩
end Go.Proofs.Ytnlbaflbhicooaa.F
namespace Go.Proofs.Ytnlbaflbhicooaa.F
open Go.RowKit Go.Proofs.YtnlbaflbhicooaaW.PrintWords Go.Proofs.YtnlbaflbhicooaaW.PrintLast Go.Proofs.YtnlbaflbhicooaaW.PrintMore
attribute [local go_sem] max2_int min2_int max_two min_two max_three min_three max_four min_four   -- for this text's walks alone
set_option linter.unusedVariables false
set_option linter.unusedSimpArgs false
def laws_eqInt64S.l0 : Nat → List Int → List Int → Int → Option (Bool)
 | 0, _, _, _ => none
 | k + 1, x0, x1, x5 => if x5 < (x0.length : Int) then (if 0 ≤ x5 then (if x5 < (x1.length : Int) then (if (rd x0 x5) = (rd x1 x5) then (laws_eqInt64S.l0 k x0 x1 (wrap64 (x5 + 1))) else (some false)) else (none)) else (none)) else (some true)
def laws_eqInt64S.f (k : Nat) (l0 : List Int) (l1 : List Int) : Option (Bool) := if (l0.length : Int) = (l1.length : Int) then (laws_eqInt64S.l0 k l0 l1 0) else (some false)
set_option maxHeartbeats 8000000 in
set_option maxRecDepth 100000 in
theorem laws_eqInt64S.calls (k : Nat) (A0 : Option Addr) (c0 : Nat) (l0 : List Int) (A1 : Option Addr) (c1 : Nat) (l1 : List Int) (r : Bool) (w : World) (hr0 : Kd.C (Kd.int .i64) w A0 l0.length l0) (hc0 : l0.length ≤ c0) (hr1 : Kd.C (Kd.int .i64) w A1 l1.length l1) (hc1 : l1.length ≤ c1) (h : laws_eqInt64S.f k l0 l1 = some r) :
  Calls Try.prog 50 #[.slice A0 l0.length c0, .slice A1 l1.length c1] w fun e w' => e = .returned (.bool r) ∧ Drawn0 w w' := by
 have HR0 := Aside0.mk hr0
 have HC0 := Aside0.mk hc0
 clear hr0 hc0
 have HR1 := Aside0.mk hr1
 have HC1 := Aside0.mk hc1
 clear hr1 hc1
 have H : (if (l0.length : Int) = (l1.length : Int) then (laws_eqInt64S.l0 k l0 l1 0) else (some false)) = some r := h
 clear h
 by_cases c3 : (l0.length : Int) = (l1.length : Int)
 ·rw [if_pos c3] at H
  have c3b0 : ((l0.length : Int) == (l1.length : Int)) = true := beq_iff_eq.mpr c3
  have c3b1 : ((l0.length : Int) != (l1.length : Int)) = false := bne_eq_false_iff_eq.mpr c3
  have c3b2 : (l0.length == l1.length) = true := by first | simpa using c3 | (simp at c3 ⊢; omega)
  clear c3
  have H' := Aside0.mk H
  clear H
  go_enter Try.func50, Try.ntmps50
  go_wp2
  repeat (go_quiet (fail); try go_wp2)
  go_loopg [5] k (fun kq v5 w' => ∃ (x5_1 : Int), v5 = .int .i64 x5_1 ∧ Aside0 (laws_eqInt64S.l0 kq l0 l1 x5_1 = some r) ∧ Aside0 (kq ≤ k) ∧ Drawn0 w w')
  case atStart => exact ⟨(0), Za, H', ⟨Nat.le_refl _⟩, Zb⟩
  case round =>
   clear H'
   try clear c1
   try clear p2
   try clear c3
   try clear c3b0
   try clear c3b1
   try clear c3b2
   obtain ⟨x5_1, rfl, HA, HK1, ⟨m1, rfl⟩⟩ := hrel
   cases gk with
   | zero => exact absurd HA.out (by simp [laws_eqInt64S.l0])
   | succ k1 =>
    have H := HA.out
    clear HA
    simp only [laws_eqInt64S.l0] at H
    by_cases c4 : x5_1 < (l0.length : Int)
    ·rw [if_pos c4] at H
     have c4b0 : decide (x5_1 < (l0.length : Int)) = true := decide_eq_true c4
     clear c4
     by_cases c5 : 0 ≤ x5_1
     ·rw [if_pos c5] at H
      have c5b0 : decide (0 ≤ x5_1) = true := decide_eq_true c5
      clear c5
      by_cases c6 : x5_1 < (l1.length : Int)
      ·rw [if_pos c6] at H
       have c6b0 : decide (x5_1 < (l1.length : Int)) = true := decide_eq_true c6
       clear c6
       by_cases c7 : (rd l0 x5_1) = (rd l1 x5_1)
       ·rw [if_pos c7] at H
        have c7b0 : ((rd l0 x5_1) == (rd l1 x5_1)) = true := beq_iff_eq.mpr c7
        have c7b1 : ((rd l0 x5_1) != (rd l1 x5_1)) = false := bne_eq_false_iff_eq.mpr c7
        clear c7
        have H' := Aside0.mk H
        clear H
        have p887 : 0 ≤ (x5_1 : Int) := of_decide_eq_true Zp
        have q887 : x5_1 < (l0.length : Int) := of_decide_eq_true Zp
        obtain ⟨ad887, e887, hx887_0⟩ := Kd.at_int HR0.out x5_1 p887 q887
        cases e887
        replace p887 := eq_true p887
        replace q887 := eq_true q887
        have p888 : 0 ≤ (x5_1 : Int) := of_decide_eq_true Zp
        have q888 : x5_1 < (l1.length : Int) := of_decide_eq_true Zp
        obtain ⟨ad888, e888, hx888_0⟩ := Kd.at_int HR1.out x5_1 p888 q888
        cases e888
        replace p888 := eq_true p888
        replace q888 := eq_true q888
        go_wp2
        repeat (go_quiet (fail); try go_wp2)
        go_roundg k1
        case measure => have := HK1.out; omega
        case rel => exact ⟨(wrap64 (x5_1 + 1)), Za, H', ⟨Zt⟩, Zb⟩
       ·rw [if_neg c7] at H
        have c7b0 : ((rd l0 x5_1) == (rd l1 x5_1)) = false := beq_eq_false_iff_ne.mpr c7
        have c7b1 : ((rd l0 x5_1) != (rd l1 x5_1)) = true := bne_iff_ne.mpr c7
        obtain rfl := Option.some.inj H
        have p887 : 0 ≤ (x5_1 : Int) := of_decide_eq_true Zp
        have q887 : x5_1 < (l0.length : Int) := of_decide_eq_true Zp
        obtain ⟨ad887, e887, hx887_0⟩ := Kd.at_int HR0.out x5_1 p887 q887
        cases e887
        replace p887 := eq_true p887
        replace q887 := eq_true q887
        have p888 : 0 ≤ (x5_1 : Int) := of_decide_eq_true Zp
        have q888 : x5_1 < (l1.length : Int) := of_decide_eq_true Zp
        obtain ⟨ad888, e888, hx888_0⟩ := Kd.at_int HR1.out x5_1 p888 q888
        cases e888
        replace p888 := eq_true p888
        replace q888 := eq_true q888
        go_wp2
        repeat (go_quiet (fail); try go_wp2)
        go_ret
        exact ⟨Za, Zb⟩
      ·rw [if_neg c6] at H
       exact absurd H (by simp)
     ·rw [if_neg c5] at H
      exact absurd H (by simp)
    ·rw [if_neg c4] at H
     have c4b0 : decide (x5_1 < (l0.length : Int)) = false := decide_eq_false c4
     clear c4
     obtain rfl := Option.some.inj H
     go_wp2
     repeat (go_quiet (fail); try go_wp2)
     go_ret
     exact ⟨Za, Zb⟩
 ·rw [if_neg c3] at H
  have c3b0 : ((l0.length : Int) == (l1.length : Int)) = false := beq_eq_false_iff_ne.mpr c3
  have c3b1 : ((l0.length : Int) != (l1.length : Int)) = true := bne_iff_ne.mpr c3
  have c3b2 : (l0.length == l1.length) = false := by first | simpa using c3 | (simp at c3 ⊢; omega)
  obtain rfl := Option.some.inj H
  go_enter Try.func50, Try.ntmps50
  go_wp2
  repeat (go_quiet (fail); try go_wp2)
  go_ret
  exact ⟨Za, Zb⟩
def laws_markInt64S.l0 : Nat → List Int → Int → Int → Option (Int × List Int)
 | 0, _, _, _ => none
 | k + 1, x0, x1, x5 => if x5 < (x0.length : Int) then (if 0 ≤ x5 then (laws_markInt64S.l0 k (x0.set (x5 : Int).toNat x1) (wrap64 (x1 + 1)) (wrap64 (x5 + 1))) else (none)) else (some (x1, x0))
def laws_markInt64S.f (k : Nat) (l0 : List Int) (a1 : Int) : Option (Int × List Int) := laws_markInt64S.l0 k l0 a1 0
set_option maxHeartbeats 8000000 in
set_option maxRecDepth 100000 in
theorem laws_markInt64S.calls (k : Nat) (P0_ : Nat → Prop) (u9000_ : Value) (l0 : List Int) (a1 : Int) (r1 : Int) (r2 : List Int) (w0 w : World) (hB : Below w0.heap.size w0 w) (ho0 : Kd.R (Kd.int .i64) 2 w w0.heap.size P0_ u9000_ l0) (h : laws_markInt64S.f k l0 a1 = some (r1, r2)) :
  Calls Try.prog 51 #[u9000_, .int .i64 a1] w fun e w' => e = .returned (.int .i64 r1) ∧ Kd.R (Kd.int .i64) 2 w' w0.heap.size (fun k_ => (P0_ k_ ∨ w.heap.size ≤ k_)) u9000_ r2 ∧ Below w0.heap.size w0 w' ∧ Kept w w' (fun k_ => P0_ k_) := by
 have HO0 := Aside0.mk (show Kd.R (Kd.int .i64) 2 w w0.heap.size (fun k_ => (P0_ k_ ∨ w.heap.size ≤ k_)) u9000_ l0 from Kd.R_mono ho0 (fun k_ hk => (.inl hk)))
 have HK := Aside0.mk (Kept.refl w (fun k_ => P0_ k_))
 have HW0 := Aside0.mk hB.size
 have HB := Aside0.mk hB
 clear hB
 have H : (laws_markInt64S.l0 k l0 a1 0) = some (r1, r2) := h
 clear h
 have H' := Aside0.mk H
 clear H
 go_enter Try.func51, Try.ntmps51
 go_wp2
 go_loopg [1, 5] k (fun kq v1 v5 w' => ∃ (x0_1 : List Int) (x1_1 : Int) (x5_1 : Int), v1 = .int .i64 x1_1 ∧ v5 = .int .i64 x5_1 ∧ Aside0 (laws_markInt64S.l0 kq x0_1 x1_1 x5_1 = some (r1, r2)) ∧ Aside0 (kq ≤ k) ∧ Aside0 (Kd.R (Kd.int .i64) 2 w' w0.heap.size (fun k_ => (P0_ k_ ∨ w.heap.size ≤ k_)) u9000_ x0_1) ∧ Aside0 (Kept w w' (fun k_ => P0_ k_)) ∧ Aside0 (Below w0.heap.size w0 w'))
 case atStart => exact ⟨(l0), (a1), (0), Za, Za, H', ⟨Nat.le_refl _⟩, ⟨(have z0_ := HO0; Zq)⟩, ⟨Zu⟩, ⟨Zc⟩⟩
 case round =>
  clear H'
  try clear p2
  obtain ⟨x0_1, x1_1, x5_1, rfl, rfl, HA, HK1, HO_0, HK, HB⟩ := hrel
  cases gk with
  | zero => exact absurd HA.out (by simp [laws_markInt64S.l0])
  | succ k1 =>
   have H := HA.out
   clear HA
   simp only [laws_markInt64S.l0] at H
   by_cases c3 : x5_1 < (x0_1.length : Int)
   ·rw [if_pos c3] at H
    have c3b0 : decide (x5_1 < (x0_1.length : Int)) = true := decide_eq_true c3
    clear c3
    by_cases c4 : 0 ≤ x5_1
    ·rw [if_pos c4] at H
     have c4b0 : decide (0 ≤ x5_1) = true := decide_eq_true c4
     clear c4
     obtain ⟨y892, hy892⟩ : ∃ y_ : List Int, y_ = (x0_1.set (x5_1 : Int).toNat x1_1) := ⟨_, rfl⟩
     replace H : (laws_markInt64S.l0 k1 y892 (wrap64 (x1_1 + 1)) (wrap64 (x5_1 + 1))) = some (r1, r2) := by first | (rw [hy892]; with_reducible exact H) | (have H2_ := (Option.bind_some _ _).symm.trans H; rw [hy892]; with_reducible exact H2_) | (have H2_ := (Option.bind_some _ _).symm.trans H; with_reducible exact H2_) | with_reducible exact H | (rw [hy892]; exact H) | exact H
     have Ny892 := Aside0.mk hy892
     clear hy892
     have H' := Aside0.mk H
     clear H
     obtain ⟨Ao6, co6, eo6⟩ := Kd.R_slice HO_0.out
     subst eo6
     have p5 : 0 ≤ (x5_1 : Int) := of_decide_eq_true Zp
     have q5 : (x5_1 : Int) < ((x0_1.length : Int) : Int) := of_decide_eq_true Zp
     obtain ⟨go5, co5, eo5, gb5, gl5, cl5, HG5⟩ := Kd.R_form HO_0.out (by omega)
     (first | cases eo5 | (injection eo5 with ea_ en_ ec_; (first | subst ea_ | (injection ea_ with ea_; subst ea_)); subst ec_; clear en_))
     have GB5 := Aside0.mk gb5
     have GG5 := Aside0.mk HG5
     clear gb5 gl5 HG5
     have HMgo5 := Aside0.mk (show (P0_ go5 ∨ w.heap.size ≤ go5) from (HO_0.out.1 _ rfl))
     obtain ⟨hx5_0, hf5_0⟩ := Kd.R_celln 0 HO_0.out (x5_1 : Int) p5 q5
     replace p5 := eq_true p5
     replace q5 := eq_true q5
     have HP7 := Kd.R_putg HO_0.out (x5_1 : Int) x1_1
     go_wp2_with (first | ((with_reducible refine gate_store (t := 2) (p := 15) rfl ?_); refine store_event (t := 2) (p := 15) (v := ?vo_w8) (w1 := (wr.setCell ⟨go5, (x5_1 : Int).toNat, none⟩ (.int .i64 x1_1))) ?hg ?ho ?hn ?hr ?_; (case ho => rfl); (case hg => rfl); (case hn => rfl); (case hr => first | (go_simp; done) | (go_simp; rfl)); intro w8 hw; have hg : wr.grownBy w8 (some go5) := (by rw [hw]; exact HP7.2); have hp_ : Kd.R (Kd.int .i64) 2 w8 w0.heap.size (fun k_ => (P0_ k_ ∨ w.heap.size ≤ k_)) (.slice (some ⟨go5, 0, none⟩) x0_1.length co6) y892 := (by rw [hw, Ny892.out]; exact HP7.1); clear HP7; have n0_ := Aside0.mk (hp_); have n1_ := Aside0.mk (((have z0_ := GB5; Zv) : Below w0.heap.size w0 w8)); have n2_ := Aside0.mk (Kept.of_grown (S := (fun k_ => P0_ k_)) hg Zu (fun k_ e_ => (HO_0.out.1 k_ e_))); clear HO_0; clear HB; clear HK; have HO_0 := n0_; have HB := n1_; have HK := n2_; clear n0_ n1_ n2_; clear hg hw hp_))
     go_roundg k1
     case measure => have := HK1.out; omega
     case rel => exact ⟨(y892), (wrap64 (x1_1 + 1)), (wrap64 (x5_1 + 1)), Za, Za, H', ⟨Zt⟩, ⟨(have z0_ := HO_0; Zq)⟩, ⟨Zu⟩, ⟨Zc⟩⟩
    ·rw [if_neg c4] at H
     exact absurd H (by simp)
   ·rw [if_neg c3] at H
    have c3b0 : decide (x5_1 < (x0_1.length : Int)) = false := decide_eq_false c3
    clear c3
    simp only [Option.some.injEq, Prod.mk.injEq] at H
    obtain ⟨rfl, rfl⟩ := H
    obtain ⟨Ao9, co9, eo9⟩ := Kd.R_slice HO_0.out
    subst eo9
    go_wp2
    go_ret
    exact ⟨Zk, (have z0_ := HO_0; Zq), Zc, Zu⟩
def laws_heldInt64S.l0 : Nat → List Int → Int → Int → Option (Int)
 | 0, _, _, _ => none
 | k + 1, x0, x1, x5 => if x5 < (x0.length : Int) then (if 0 ≤ x5 then (if (rd x0 x5) = x1 then (laws_heldInt64S.l0 k x0 (wrap64 (x1 + 1)) (wrap64 (x5 + 1))) else (some (-1))) else (none)) else (some x1)
def laws_heldInt64S.f (k : Nat) (l0 : List Int) (a1 : Int) : Option (Int) := laws_heldInt64S.l0 k l0 a1 0
set_option maxHeartbeats 8000000 in
set_option maxRecDepth 100000 in
theorem laws_heldInt64S.calls (k : Nat) (A0 : Option Addr) (c0 : Nat) (l0 : List Int) (a1 : Int) (r : Int) (w : World) (hr0 : Kd.C (Kd.int .i64) w A0 l0.length l0) (hc0 : l0.length ≤ c0) (h : laws_heldInt64S.f k l0 a1 = some r) :
  Calls Try.prog 52 #[.slice A0 l0.length c0, .int .i64 a1] w fun e w' => e = .returned (.int .i64 r) ∧ Drawn0 w w' := by
 have HR0 := Aside0.mk hr0
 have HC0 := Aside0.mk hc0
 clear hr0 hc0
 have H : (laws_heldInt64S.l0 k l0 a1 0) = some r := h
 clear h
 have H' := Aside0.mk H
 clear H
 go_enter Try.func52, Try.ntmps52
 go_wp2
 go_loopg [1, 5] k (fun kq v1 v5 w' => ∃ (x1_1 : Int) (x5_1 : Int), v1 = .int .i64 x1_1 ∧ v5 = .int .i64 x5_1 ∧ Aside0 (laws_heldInt64S.l0 kq l0 x1_1 x5_1 = some r) ∧ Aside0 (kq ≤ k) ∧ Drawn0 w w')
 case atStart => exact ⟨(a1), (0), Za, Za, H', ⟨Nat.le_refl _⟩, Zb⟩
 case round =>
  clear H'
  try clear p2
  obtain ⟨x1_1, x5_1, rfl, rfl, HA, HK1, ⟨m1, rfl⟩⟩ := hrel
  cases gk with
  | zero => exact absurd HA.out (by simp [laws_heldInt64S.l0])
  | succ k1 =>
   have H := HA.out
   clear HA
   simp only [laws_heldInt64S.l0] at H
   by_cases c3 : x5_1 < (l0.length : Int)
   ·rw [if_pos c3] at H
    have c3b0 : decide (x5_1 < (l0.length : Int)) = true := decide_eq_true c3
    clear c3
    by_cases c4 : 0 ≤ x5_1
    ·rw [if_pos c4] at H
     have c4b0 : decide (0 ≤ x5_1) = true := decide_eq_true c4
     clear c4
     by_cases c5 : (rd l0 x5_1) = x1_1
     ·rw [if_pos c5] at H
      have c5b0 : ((rd l0 x5_1) == x1_1) = true := beq_iff_eq.mpr c5
      have c5b1 : ((rd l0 x5_1) != x1_1) = false := bne_eq_false_iff_eq.mpr c5
      clear c5
      have H' := Aside0.mk H
      clear H
      have p894 : 0 ≤ (x5_1 : Int) := of_decide_eq_true Zp
      have q894 : x5_1 < (l0.length : Int) := of_decide_eq_true Zp
      obtain ⟨ad894, e894, hx894_0⟩ := Kd.at_int HR0.out x5_1 p894 q894
      cases e894
      replace p894 := eq_true p894
      replace q894 := eq_true q894
      go_wp2
      go_roundg k1
      case measure => have := HK1.out; omega
      case rel => exact ⟨(wrap64 (x1_1 + 1)), (wrap64 (x5_1 + 1)), Za, Za, H', ⟨Zt⟩, Zb⟩
     ·rw [if_neg c5] at H
      have c5b0 : ((rd l0 x5_1) == x1_1) = false := beq_eq_false_iff_ne.mpr c5
      have c5b1 : ((rd l0 x5_1) != x1_1) = true := bne_iff_ne.mpr c5
      obtain rfl := Option.some.inj H
      have p894 : 0 ≤ (x5_1 : Int) := of_decide_eq_true Zp
      have q894 : x5_1 < (l0.length : Int) := of_decide_eq_true Zp
      obtain ⟨ad894, e894, hx894_0⟩ := Kd.at_int HR0.out x5_1 p894 q894
      cases e894
      replace p894 := eq_true p894
      replace q894 := eq_true q894
      go_wp2
      go_ret
      exact ⟨Za, Zb⟩
    ·rw [if_neg c4] at H
     exact absurd H (by simp)
   ·rw [if_neg c3] at H
    have c3b0 : decide (x5_1 < (l0.length : Int)) = false := decide_eq_false c3
    clear c3
    obtain rfl := Option.some.inj H
    go_wp2
    go_ret
    exact ⟨Za, Zb⟩
end Go.Proofs.Ytnlbaflbhicooaa.F
namespace Go.Proofs.Ytnlbaflbhicooaa.F
open Go.RowKit Go.Proofs.YtnlbaflbhicooaaW.PrintWords Go.Proofs.YtnlbaflbhicooaaW.PrintLast Go.Proofs.YtnlbaflbhicooaaW.PrintMore
set_option linter.unusedVariables false
set_option linter.unusedSimpArgs false
structure Ok_FnExactFiredAt (k : Nat) (l0_0 : List S110) (l0_1 : List S105) (l0_2 : List S40) (a1 : Int) (L0_0 : List S108) (M0_0 : List S108) (t0_0 : Int) (L0_1 : List S92) (M0_1 : List S92) (t0_1 : Int) (L0_2 : List S43) (M0_2 : List S43) (t0_2 : Int) (q1 : List Int) (q2 : Int) (k1 : Int) (M0_0k : List (S108)) (M0_1k : List (S92)) (M0_2k : List (S43)) (m1 : Int) (q1k : List Int) : Prop where
 ne0_0 : L0_0 ≠ []
 tk0_0 : M0_0 = L0_0.take l0_0.length ∧ l0_0.length ≤ L0_0.length
 ln0_0 : M0_0.length = l0_0.length
 rm0_0 : laws_roomBehind.f (M0_0.length : Int) = some t0_0
 jn0_0 : wrap64 ((M0_0.length : Int) + t0_0) = (L0_0.length : Int)
 eq0_0 : laws_eqBarS.f k L0_0 L0_0 = some true
 ne0_1 : L0_1 ≠ []
 tk0_1 : M0_1 = L0_1.take l0_1.length ∧ l0_1.length ≤ L0_1.length
 ln0_1 : M0_1.length = l0_1.length
 rm0_1 : laws_roomBehind.f (M0_1.length : Int) = some t0_1
 jn0_1 : wrap64 ((M0_1.length : Int) + t0_1) = (L0_1.length : Int)
 eq0_1 : laws_eqArticleS.f k L0_1 L0_1 = some true
 ne0_2 : L0_2 ≠ []
 tk0_2 : M0_2 = L0_2.take l0_2.length ∧ l0_2.length ≤ L0_2.length
 ln0_2 : M0_2.length = l0_2.length
 rm0_2 : laws_roomBehind.f (M0_2.length : Int) = some t0_2
 jn0_2 : wrap64 ((M0_2.length : Int) + t0_2) = (L0_2.length : Int)
 eq0_2 : laws_eqCueS.f k L0_2 L0_2 = some true
 fu0 : full_toShow.f k l0_0 l0_1 l0_2 false = some (L0_0, L0_1, L0_2)
 to0 : laws_toShow.f k l0_0 l0_1 l0_2 true = some (M0_0, M0_1, M0_2)
 sp : spec_FiredAt.f k M0_0 M0_1 M0_2 a1 = some (q1, q2)
 im : impl_FiredAt.f k M0_0 M0_1 M0_2 a1 = some (q1, q2)
 er : laws_eqInt64S.f k q1 q1 = some true
 mk1 : laws_markShow.f k M0_0 M0_1 M0_2 101 = some (k1, M0_0k, M0_1k, M0_2k)
 mk10 : 0 ≤ k1
 mg : laws_markInt64S.f k q1 101 = some (m1, q1k)
 mg0 : 0 ≤ m1
 hd : laws_heldInt64S.f k q1k 101 = some m1
 hl : q1k.length = q1.length
def Law_FnExactFiredAt (k : Nat) (l0_0 : List S110) (l0_1 : List S105) (l0_2 : List S40) (a1 : Int) : Prop := ∃ s1 : Int, laws_szShow.f k l0_0 l0_1 l0_2 1000000 = some s1 ∧ (s1 < 0 ∨ (0 ≤ s1 ∧ ∃ (L0_0 : List S108) (M0_0 : List S108) (t0_0 : Int) (L0_1 : List S92) (M0_1 : List S92) (t0_1 : Int) (L0_2 : List S43) (M0_2 : List S43) (t0_2 : Int) (q1 : List Int) (q2 : Int) (k1 : Int) (M0_0k : List (S108)) (M0_1k : List (S92)) (M0_2k : List (S43)) (m1 : Int) (q1k : List Int), Ok_FnExactFiredAt k l0_0 l0_1 l0_2 a1 L0_0 M0_0 t0_0 L0_1 M0_1 t0_1 L0_2 M0_2 t0_2 q1 q2 k1 M0_0k M0_1k M0_2k m1 q1k))
def Pure_FnExactFiredAt : Prop := ∀ (l0_0 : List S110) (l0_1 : List S105) (l0_2 : List S40) (a1 : Int), l0_0.length ≤ maxLen → (∀ x ∈ l0_0, Pr110 x) → l0_1.length ≤ maxLen → (∀ x ∈ l0_1, Pr105 x) → l0_2.length ≤ maxLen → (∀ x ∈ l0_2, Pr40 x) → I64 a1 → ∃ k, Law_FnExactFiredAt k l0_0 l0_1 l0_2 a1
def law_FnExactFiredAt.T : Bool × List (List Nat × List Nat) := (true, [([], []), ([], []), ([1], [1]), ([0, 2, 2], [0, 2]), ([3], [3])])
def law_FnExactFiredAt.B : List Nat := [0, 0, 2, 7, 15]
theorem law_FnExactFiredAt.tab : rtab .any (opsOf Try.f16 10) = law_FnExactFiredAt.T := by kernel_rfl
theorem law_FnExactFiredAt.bits : waitsOk law_FnExactFiredAt.T.2 law_FnExactFiredAt.B = true := by kernel_rfl
set_option maxHeartbeats 8000000 in
set_option maxRecDepth 100000 in
theorem law_FnExactFiredAt (k : Nat) (A0_0 : Option Addr) (c0_0 : Nat) (l0_0 : List S110) (A0_1 : Option Addr) (c0_1 : Nat) (l0_1 : List S105) (A0_2 : Option Addr) (c0_2 : Nat) (l0_2 : List S40) (a1 : Int) (w : World) (hr0_0 : Kd.C k110 w A0_0 l0_0.length l0_0) (hc0_0 : l0_0.length ≤ c0_0) (hr0_1 : Kd.C k105 w A0_1 l0_1.length l0_1) (hc0_1 : l0_1.length ≤ c0_1) (hr0_2 : Kd.C k40 w A0_2 l0_2.length l0_2) (hc0_2 : l0_2.length ≤ c0_2) (h : Law_FnExactFiredAt k l0_0 l0_1 l0_2 a1) :
  Calls Try.prog 16 #[.agg #[.slice A0_0 l0_0.length c0_0, .slice A0_1 l0_1.length c0_1, .slice A0_2 l0_2.length c0_2], .int .i64 a1] w fun e w' => e = .returned (.bool true) ∧ Below w.heap.size w w' := by
 have HR0_0 := Aside0.mk hr0_0
 have HC0_0 := Aside0.mk hc0_0
 clear hr0_0 hc0_0
 have HR0_1 := Aside0.mk hr0_1
 have HC0_1 := Aside0.mk hc0_1
 clear hr0_1 hc0_1
 have HR0_2 := Aside0.mk hr0_2
 have HC0_2 := Aside0.mk hc0_2
 clear hr0_2 hc0_2
 have HB := Aside0.mk (Below.refl w.heap.size w)
 obtain ⟨s1, hs_, h⟩ := h
 have HS1 := Aside0.mk hs_
 clear hs_
 rcases h with h | ⟨h', h⟩
 ·have f_ : decide (s1 < 0) = true := decide_eq_true h
  clear h
  go_enter Try.func16, Try.ntmps16
  go_wp2_with (first | ((with_reducible refine gate_dst (N := 2) rfl ?_); refine box_event ?hg (N := 2) ?hd (cs := #[.slice A0_0 l0_0.length c0_0, .slice A0_1 l0_1.length c0_1, .slice A0_2 l0_2.length c0_2]) (t := 26) ?hr ?_; (case hd => rfl); (case hg => rfl); (case hr => first | (go_simp; done) | (go_simp; rfl)); intro g_0 hg w1 hbox hb; have nk_ := Aside0.mk hbox; have ne_ := Aside0.mk (Zd : w.heap.size ≤ g_0); have OB0 := Aside0.mk (Zam : w.heap.size ≤ g_0); clear hbox hg; have nb_ := Aside0.mk (below_step Zc hb); clear HB; have HB := nb_; clear nb_ hb; have BK0 := nk_; have GE0 := ne_; clear nk_ ne_; obtain ⟨hcz1_0, hcz1_1, hcz1_2, hfz1_0, hfz1_1, hfz1_2⟩ := cz3 BK0) | ((with_reducible refine gate_callee (f := 19) rfl ?_); (try (refine gate_guard (by rfl) ?_; dsimp only)); refine goesL_ (some 18) rfl rfl Try.func19 Zj rfl #[.agg #[.slice A0_0 l0_0.length c0_0, .slice A0_1 l0_1.length c0_1, .slice A0_2 l0_2.length c0_2], .int .i64 1000000] rfl Zo ?_; (with_reducible refine (laws_szShow.calls k _ _ l0_0 _ _ l0_1 _ _ l0_2 1000000 s1 _ (Kd.C_below HR0_0.out Zc) HC0_0.out (Kd.C_below HR0_1.out Zc) HC0_1.out (Kd.C_below HR0_2.out Zc) HC0_2.out HS1.out).mono ?_); rintro e w1 ⟨rfl, hb⟩; refine ⟨_, rfl, ?_⟩; have nb_ := Aside0.mk (below_step Zc hb); have nk0_ := Aside0.mk (blk_below (g := g_0) (o := .cells #[.slice A0_0 l0_0.length c0_0, .slice A0_1 l0_1.length c0_1, .slice A0_2 l0_2.length c0_2] 26 (0, 0)) (have z0_ := BK0; Ze) hb); clear HB; have HB := nb_; clear nb_ hb; clear BK0; have BK0 := nk0_; clear nk0_; obtain ⟨hcz2_0, hcz2_1, hcz2_2, hfz2_0, hfz2_1, hfz2_2⟩ := cz3 BK0))
  go_ret
  exact ⟨rfl, Zc⟩
 have fs1 : decide (s1 < 0) = false := decide_eq_false (by omega)
 clear h'
 obtain ⟨L0_0, M0_0, t0_0, L0_1, M0_1, t0_1, L0_2, M0_2, t0_2, q1, q2, k1, M0_0k, M0_1k, M0_2k, m1, q1k, h⟩ := h
 have HF := Aside0.mk h
 clear h
 have f1q2 : (q2 != q2) = false := by simp
 have f2q2 : (q2 == q2) = true := by simp
 have fnk1 : decide (k1 < 0) = false := decide_eq_false (by have := HF.out.mk10; omega)
 have fnm1 : decide (m1 < 0) = false := decide_eq_false (by have := HF.out.mg0; omega)
 have f1m1 : (m1 != m1) = false := by simp
 have f2m1 : (m1 == m1) = true := by simp
 go_enter Try.func16, Try.ntmps16
 go_wp2_with (first | ((with_reducible refine gate_dst (N := 2) rfl ?_); refine box_event ?hg (N := 2) ?hd (cs := #[.slice A0_0 l0_0.length c0_0, .slice A0_1 l0_1.length c0_1, .slice A0_2 l0_2.length c0_2]) (t := 26) ?hr ?_; (case hd => rfl); (case hg => rfl); (case hr => first | (go_simp; done) | (go_simp; rfl)); intro g_0 hg w1 hbox hb; have nk_ := Aside0.mk hbox; have ne_ := Aside0.mk (Zd : w.heap.size ≤ g_0); have OB0 := Aside0.mk (Zam : w.heap.size ≤ g_0); clear hbox hg; have nb_ := Aside0.mk (below_step Zc hb); clear HB; have HB := nb_; clear nb_ hb; have BK0 := nk_; have GE0 := ne_; clear nk_ ne_; obtain ⟨hcz1_0, hcz1_1, hcz1_2, hfz1_0, hfz1_1, hfz1_2⟩ := cz3 BK0) | ((with_reducible refine gate_callee (f := 19) rfl ?_); (try (refine gate_guard (by rfl) ?_; dsimp only)); refine goesL_ (some 18) rfl rfl Try.func19 Zj rfl #[.agg #[.slice A0_0 l0_0.length c0_0, .slice A0_1 l0_1.length c0_1, .slice A0_2 l0_2.length c0_2], .int .i64 1000000] rfl Zo ?_; (with_reducible refine (laws_szShow.calls k _ _ l0_0 _ _ l0_1 _ _ l0_2 1000000 s1 _ (Kd.C_below HR0_0.out Zc) HC0_0.out (Kd.C_below HR0_1.out Zc) HC0_1.out (Kd.C_below HR0_2.out Zc) HC0_2.out HS1.out).mono ?_); rintro e w1 ⟨rfl, hb⟩; refine ⟨_, rfl, ?_⟩; have nb_ := Aside0.mk (below_step Zc hb); have nk0_ := Aside0.mk (blk_below (g := g_0) (o := .cells #[.slice A0_0 l0_0.length c0_0, .slice A0_1 l0_1.length c0_1, .slice A0_2 l0_2.length c0_2] 26 (0, 0)) (have z0_ := BK0; Ze) hb); clear HB; have HB := nb_; clear nb_ hb; clear BK0; have BK0 := nk0_; clear nk0_; obtain ⟨hcz2_0, hcz2_1, hcz2_2, hfz2_0, hfz2_1, hfz2_2⟩ := cz3 BK0) | ((with_reducible refine gate_callee (f := 21) rfl ?_); (try (refine gate_guard (by rfl) ?_; dsimp only)); refine goesL_ (some 23) rfl rfl Try.func21 Zj rfl #[.agg #[.slice A0_0 l0_0.length c0_0, .slice A0_1 l0_1.length c0_1, .slice A0_2 l0_2.length c0_2], .bool false] rfl Zo ?_; (with_reducible refine (full_toShow.calls k _ _ l0_0 _ _ l0_1 _ _ l0_2 false L0_0 L0_1 L0_2 _ (Kd.C_below HR0_0.out Zc) HC0_0.out (Kd.C_below HR0_1.out Zc) HC0_1.out (Kd.C_below HR0_2.out Zc) HC0_2.out HF.out.fu0 HF.out.ne0_0 HF.out.ne0_1 HF.out.ne0_2).mono ?_); rintro e w1 ⟨a_1, b_1, a_2, b_2, a_3, b_3, he_, ho0, ho1, ho2, hb⟩; rw [← HF.out.ln0_0, ← HF.out.ln0_1, ← HF.out.ln0_2] at he_; subst he_; refine ⟨_, rfl, ?_⟩; obtain ⟨lo1, hi1, hx0_, hx1_, hx2_, ha_, hz_, _⟩ := Ob_mk3 (base := w.heap.size) ho0 ho1 ho2 hb (below_le Zc) (Nat.succ_le_of_lt (blk_lt (have z0_ := BK0; Ze))); have X1 := Aside0.mk hx0_; have X2 := Aside0.mk hx1_; have X3 := Aside0.mk hx2_; have OX1 := Aside0.mk (And.intro ha_ hz_); clear hx0_ hx1_ hx2_ ha_ hz_ ho0 ho1 ho2; have nb_ := Aside0.mk (below_step Zc hb); have nk0_ := Aside0.mk (blk_below (g := g_0) (o := .cells #[.slice A0_0 l0_0.length c0_0, .slice A0_1 l0_1.length c0_1, .slice A0_2 l0_2.length c0_2] 26 (0, 0)) (have z0_ := BK0; Ze) hb); clear HB; have HB := nb_; clear nb_ hb; clear BK0; have BK0 := nk0_; clear nk0_; obtain ⟨hcz3_0, hcz3_1, hcz3_2, hfz3_0, hfz3_1, hfz3_2⟩ := cz3 BK0) | ((with_reducible refine gate_callee (f := 59) rfl ?_); (try (refine gate_guard (by rfl) ?_; dsimp only)); refine goesL_ (some 25) rfl rfl Try.func59 Zj rfl #[.agg #[.slice a_1 M0_0.length b_1, .slice a_2 M0_1.length b_2, .slice a_3 M0_2.length b_3], .int .i64 a1] rfl Zo ?_; (with_reducible refine (spec_FiredAt.calls k _ _ M0_0 _ _ M0_1 _ _ M0_2 a1 q1 q2 _ (fullC (have z0_ := X1; Zaz) HF.out.tk0_0).1 (fullC X1.out HF.out.tk0_0).2.1 (fullC (have z0_ := X2; Zaz) HF.out.tk0_1).1 (fullC X2.out HF.out.tk0_1).2.1 (fullC (have z0_ := X3; Zaz) HF.out.tk0_2).1 (fullC X3.out HF.out.tk0_2).2.1 HF.out.sp).mono ?_); rintro e w1 ⟨v0_, rfl, ho0, hb⟩; refine ⟨_, rfl, ?_⟩; obtain ⟨lo4, hi4, hx_, ha_, hz_, _⟩ := Ob_mk (base := w.heap.size) ho0 hb (below_le Zc) (Ob_hi (have z0_ := X1; Zaz)); have X4 := Aside0.mk hx_; have OX4 := Aside0.mk (And.intro ha_ hz_); clear hx_ ha_ hz_ ho0; have n0_ := Aside0.mk (Ob_below (have z0_ := X1; Zaz) hb); have n1_ := Aside0.mk (Ob_below (have z0_ := X2; Zaz) hb); have n2_ := Aside0.mk (Ob_below (have z0_ := X3; Zaz) hb); have nb_ := Aside0.mk (below_step Zc hb); have nk0_ := Aside0.mk (blk_below (g := g_0) (o := .cells #[.slice A0_0 l0_0.length c0_0, .slice A0_1 l0_1.length c0_1, .slice A0_2 l0_2.length c0_2] 26 (0, 0)) (have z0_ := BK0; Ze) hb); clear X1; clear X2; clear X3; clear HB; have X1 := n0_; clear n0_; have X2 := n1_; clear n1_; have X3 := n2_; clear n2_; have HB := nb_; clear nb_ hb; clear BK0; have BK0 := nk0_; clear nk0_; obtain ⟨hcz4_0, hcz4_1, hcz4_2, hfz4_0, hfz4_1, hfz4_2⟩ := cz3 BK0; obtain ⟨a_4, b_4, e_⟩ := Ob_slice X4.out; subst e_) | ((with_reducible refine gate_callee (f := 21) rfl ?_); (try (refine gate_guard (by rfl) ?_; dsimp only)); refine goesL_ (some 29) rfl rfl Try.func21 Zj rfl #[.agg #[.slice A0_0 l0_0.length c0_0, .slice A0_1 l0_1.length c0_1, .slice A0_2 l0_2.length c0_2], .bool false] rfl Zo ?_; (with_reducible refine (full_toShow.calls k _ _ l0_0 _ _ l0_1 _ _ l0_2 false L0_0 L0_1 L0_2 _ (Kd.C_below HR0_0.out Zc) HC0_0.out (Kd.C_below HR0_1.out Zc) HC0_1.out (Kd.C_below HR0_2.out Zc) HC0_2.out HF.out.fu0 HF.out.ne0_0 HF.out.ne0_1 HF.out.ne0_2).mono ?_); rintro e w1 ⟨a_5, b_5, a_6, b_6, a_7, b_7, he_, ho0, ho1, ho2, hb⟩; rw [← HF.out.ln0_0, ← HF.out.ln0_1, ← HF.out.ln0_2] at he_; subst he_; refine ⟨_, rfl, ?_⟩; obtain ⟨lo5, hi5, hx0_, hx1_, hx2_, ha_, hz_, _⟩ := Ob_mk3 (base := w.heap.size) ho0 ho1 ho2 hb (below_le Zc) (Ob_hi (have z0_ := X4; Zaz)); have X5 := Aside0.mk hx0_; have X6 := Aside0.mk hx1_; have X7 := Aside0.mk hx2_; have OX5 := Aside0.mk (And.intro ha_ hz_); clear hx0_ hx1_ hx2_ ha_ hz_ ho0 ho1 ho2; have n0_ := Aside0.mk (Ob_below (have z0_ := X1; Zaz) hb); have n1_ := Aside0.mk (Ob_below (have z0_ := X2; Zaz) hb); have n2_ := Aside0.mk (Ob_below (have z0_ := X3; Zaz) hb); have n3_ := Aside0.mk (Ob_below (have z0_ := X4; Zaz) hb); have nb_ := Aside0.mk (below_step Zc hb); have nk0_ := Aside0.mk (blk_below (g := g_0) (o := .cells #[.slice A0_0 l0_0.length c0_0, .slice A0_1 l0_1.length c0_1, .slice A0_2 l0_2.length c0_2] 26 (0, 0)) (have z0_ := BK0; Ze) hb); clear X1; clear X2; clear X3; clear X4; clear HB; have X1 := n0_; clear n0_; have X2 := n1_; clear n1_; have X3 := n2_; clear n2_; have X4 := n3_; clear n3_; have HB := nb_; clear nb_ hb; clear BK0; have BK0 := nk0_; clear nk0_; obtain ⟨hcz5_0, hcz5_1, hcz5_2, hfz5_0, hfz5_1, hfz5_2⟩ := cz3 BK0) | ((with_reducible refine gate_dst (N := 8) rfl ?_); refine box_event ?hg (N := 8) ?hd (cs := #[.slice none 0 0, .slice none 0 0, .slice none 0 0]) (t := 32) ?hr ?_; (case hd => rfl); (case hg => rfl); (case hr => first | (go_simp; done) | (go_simp; rfl)); intro g_91 hg w1 hbox hb; have nk_ := Aside0.mk hbox; have ne_ := Aside0.mk (Zd : w.heap.size ≤ g_91); have OB91 := Aside0.mk (by rw [hg]; exact (Ob_hi (have z0_ := X5; Zaz)) : hi5 ≤ g_91); clear hbox hg; have n0_ := Aside0.mk (Ob_below (have z0_ := X1; Zaz) hb); have n1_ := Aside0.mk (Ob_below (have z0_ := X2; Zaz) hb); have n2_ := Aside0.mk (Ob_below (have z0_ := X3; Zaz) hb); have n3_ := Aside0.mk (Ob_below (have z0_ := X4; Zaz) hb); have n4_ := Aside0.mk (Ob_below (have z0_ := X5; Zaz) hb); have n5_ := Aside0.mk (Ob_below (have z0_ := X6; Zaz) hb); have n6_ := Aside0.mk (Ob_below (have z0_ := X7; Zaz) hb); have nb_ := Aside0.mk (below_step Zc hb); have nk0_ := Aside0.mk (blk_below (g := g_0) (o := .cells #[.slice A0_0 l0_0.length c0_0, .slice A0_1 l0_1.length c0_1, .slice A0_2 l0_2.length c0_2] 26 (0, 0)) (have z0_ := BK0; Ze) hb); clear X1; clear X2; clear X3; clear X4; clear X5; clear X6; clear X7; clear HB; have X1 := n0_; clear n0_; have X2 := n1_; clear n1_; have X3 := n2_; clear n2_; have X4 := n3_; clear n3_; have X5 := n4_; clear n4_; have X6 := n5_; clear n5_; have X7 := n6_; clear n6_; have HB := nb_; clear nb_ hb; clear BK0; have BK0 := nk0_; clear nk0_; obtain ⟨hcz6_0, hcz6_1, hcz6_2, hfz6_0, hfz6_1, hfz6_2⟩ := cz3 BK0; have BK91 := nk_; have GE91 := ne_; clear nk_ ne_; skip) | ((with_reducible refine gate_store (t := 32) (p := 8) rfl ?_); obtain ⟨hcz7_0, hcz7_1, hcz7_2, hfz7_0, hfz7_1, hfz7_2⟩ := cz3 BK91; refine store_event (t := 32) (p := 8) (v := ?vo) (w1 := (((w1.setCell ⟨g_91, 0, none⟩ (.slice a_5 M0_0.length b_5)).setCell ⟨g_91, 1, none⟩ (.slice a_6 M0_1.length b_6)).setCell ⟨g_91, 2, none⟩ (.slice a_7 M0_2.length b_7))) ?hg ?ho ?hn ?hr ?_; (case ho => rfl); (case hg => rfl); (case hn => rfl); (case hr => first | (go_simp; done) | (go_simp; rfl)); intro w2 hw; clear hcz7_0 hfz7_0 hcz7_1 hfz7_1 hcz7_2 hfz7_2; have n0_ := Aside0.mk (Ob_set (g := g_91) (j := 2) (Ob_set (g := g_91) (j := 1) (Ob_set (g := g_91) (j := 0) (X1.out) Zba (.slice a_5 M0_0.length b_5)) Zba (.slice a_6 M0_1.length b_6)) Zba (.slice a_7 M0_2.length b_7)); rw [← hw] at n0_; have n1_ := Aside0.mk (Ob_set (g := g_91) (j := 2) (Ob_set (g := g_91) (j := 1) (Ob_set (g := g_91) (j := 0) (X2.out) Zba (.slice a_5 M0_0.length b_5)) Zba (.slice a_6 M0_1.length b_6)) Zba (.slice a_7 M0_2.length b_7)); rw [← hw] at n1_; have n2_ := Aside0.mk (Ob_set (g := g_91) (j := 2) (Ob_set (g := g_91) (j := 1) (Ob_set (g := g_91) (j := 0) (X3.out) Zba (.slice a_5 M0_0.length b_5)) Zba (.slice a_6 M0_1.length b_6)) Zba (.slice a_7 M0_2.length b_7)); rw [← hw] at n2_; have n3_ := Aside0.mk (Ob_set (g := g_91) (j := 2) (Ob_set (g := g_91) (j := 1) (Ob_set (g := g_91) (j := 0) (X4.out) Zba (.slice a_5 M0_0.length b_5)) Zba (.slice a_6 M0_1.length b_6)) Zba (.slice a_7 M0_2.length b_7)); rw [← hw] at n3_; have n4_ := Aside0.mk (Ob_set (g := g_91) (j := 2) (Ob_set (g := g_91) (j := 1) (Ob_set (g := g_91) (j := 0) (X5.out) Zba (.slice a_5 M0_0.length b_5)) Zba (.slice a_6 M0_1.length b_6)) Zba (.slice a_7 M0_2.length b_7)); rw [← hw] at n4_; have n5_ := Aside0.mk (Ob_set (g := g_91) (j := 2) (Ob_set (g := g_91) (j := 1) (Ob_set (g := g_91) (j := 0) (X6.out) Zba (.slice a_5 M0_0.length b_5)) Zba (.slice a_6 M0_1.length b_6)) Zba (.slice a_7 M0_2.length b_7)); rw [← hw] at n5_; have n6_ := Aside0.mk (Ob_set (g := g_91) (j := 2) (Ob_set (g := g_91) (j := 1) (Ob_set (g := g_91) (j := 0) (X7.out) Zba (.slice a_5 M0_0.length b_5)) Zba (.slice a_6 M0_1.length b_6)) Zba (.slice a_7 M0_2.length b_7)); rw [← hw] at n6_; have nb_ : Aside0 (Below w.heap.size w w2) := ⟨by rw [hw]; exact below_set (below_set (below_set (HB.out) GE91.out) GE91.out) GE91.out⟩; have nk0_ : Aside0 (w2.heap[g_0]? = some (.cells #[.slice A0_0 l0_0.length c0_0, .slice A0_1 l0_1.length c0_1, .slice A0_2 l0_2.length c0_2] 26 (0, 0))) := ⟨by rw [hw]; exact blk_far (blk_far (blk_far (BK0.out) (show g_0 ≠ g_91 from Zba) _) (show g_0 ≠ g_91 from Zba) _) (show g_0 ≠ g_91 from Zba) _⟩; have nk91_ : Aside0 (w2.heap[g_91]? = some (.cells #[.slice a_5 M0_0.length b_5, .slice a_6 M0_1.length b_6, .slice a_7 M0_2.length b_7] 32 (0, 0))) := ⟨by rw [hw]; exact blk_put (cs := #[.slice a_5 M0_0.length b_5, .slice a_6 M0_1.length b_6, .slice none 0 0]) (blk_put (cs := #[.slice a_5 M0_0.length b_5, .slice none 0 0, .slice none 0 0]) (blk_put (cs := #[.slice none 0 0, .slice none 0 0, .slice none 0 0]) (BK91.out) 0 _ rfl) 1 _ rfl) 2 _ rfl⟩; clear X1; clear X2; clear X3; clear X4; clear X5; clear X6; clear X7; clear HB; have X1 := n0_; clear n0_; have X2 := n1_; clear n1_; have X3 := n2_; clear n2_; have X4 := n3_; clear n3_; have X5 := n4_; clear n4_; have X6 := n5_; clear n5_; have X7 := n6_; clear n6_; have HB := nb_; clear nb_ hw; clear BK0; have BK0 := nk0_; clear nk0_; clear BK91; have BK91 := nk91_; clear nk91_; obtain ⟨hcz8_0, hcz8_1, hcz8_2, hfz8_0, hfz8_1, hfz8_2⟩ := cz3 BK0; obtain ⟨hcz9_0, hcz9_1, hcz9_2, hfz9_0, hfz9_1, hfz9_2⟩ := cz3 BK91) | ((with_reducible refine gate_callee (f := 60) rfl ?_); (try (refine gate_guard (by rfl) ?_; dsimp only)); refine goesL_ (some 33) rfl rfl Try.func60 Zj rfl #[.agg #[.slice a_5 M0_0.length b_5, .slice a_6 M0_1.length b_6, .slice a_7 M0_2.length b_7], .int .i64 a1] rfl Zo ?_; (with_reducible refine (impl_FiredAt.calls k _ _ M0_0 _ _ M0_1 _ _ M0_2 a1 q1 q2 _ (fullC (have z0_ := X5; Zaz) HF.out.tk0_0).1 (fullC X5.out HF.out.tk0_0).2.1 (fullC (have z0_ := X6; Zaz) HF.out.tk0_1).1 (fullC X6.out HF.out.tk0_1).2.1 (fullC (have z0_ := X7; Zaz) HF.out.tk0_2).1 (fullC X7.out HF.out.tk0_2).2.1 HF.out.im).mono ?_); rintro e w1 ⟨v0_, rfl, ho0, hb⟩; refine ⟨_, rfl, ?_⟩; obtain ⟨lo8, hi8, hx_, ha_, hz_, _⟩ := Ob_mk (base := w.heap.size) ho0 hb (below_le Zc) (Nat.succ_le_of_lt (blk_lt (have z0_ := BK91; Ze))); have X8 := Aside0.mk hx_; have OX8 := Aside0.mk (And.intro ha_ hz_); clear hx_ ha_ hz_ ho0; have n0_ := Aside0.mk (Ob_below (have z0_ := X1; Zaz) hb); have n1_ := Aside0.mk (Ob_below (have z0_ := X2; Zaz) hb); have n2_ := Aside0.mk (Ob_below (have z0_ := X3; Zaz) hb); have n3_ := Aside0.mk (Ob_below (have z0_ := X4; Zaz) hb); have n4_ := Aside0.mk (Ob_below (have z0_ := X5; Zaz) hb); have n5_ := Aside0.mk (Ob_below (have z0_ := X6; Zaz) hb); have n6_ := Aside0.mk (Ob_below (have z0_ := X7; Zaz) hb); have nb_ := Aside0.mk (below_step Zc hb); have nk0_ := Aside0.mk (blk_below (g := g_0) (o := .cells #[.slice A0_0 l0_0.length c0_0, .slice A0_1 l0_1.length c0_1, .slice A0_2 l0_2.length c0_2] 26 (0, 0)) (have z0_ := BK0; Ze) hb); have nk91_ := Aside0.mk (blk_below (g := g_91) (o := .cells #[.slice a_5 M0_0.length b_5, .slice a_6 M0_1.length b_6, .slice a_7 M0_2.length b_7] 32 (0, 0)) (have z0_ := BK91; Ze) hb); clear X1; clear X2; clear X3; clear X4; clear X5; clear X6; clear X7; clear HB; have X1 := n0_; clear n0_; have X2 := n1_; clear n1_; have X3 := n2_; clear n2_; have X4 := n3_; clear n3_; have X5 := n4_; clear n4_; have X6 := n5_; clear n5_; have X7 := n6_; clear n6_; have HB := nb_; clear nb_ hb; clear BK0; have BK0 := nk0_; clear nk0_; clear BK91; have BK91 := nk91_; clear nk91_; obtain ⟨hcz10_0, hcz10_1, hcz10_2, hfz10_0, hfz10_1, hfz10_2⟩ := cz3 BK0; obtain ⟨hcz11_0, hcz11_1, hcz11_2, hfz11_0, hfz11_1, hfz11_2⟩ := cz3 BK91; obtain ⟨a_8, b_8, e_⟩ := Ob_slice X8.out; subst e_) | ((with_reducible refine gate_callee (f := 50) rfl ?_); (try (refine gate_guard (by rfl) ?_; dsimp only)); refine goesL_ (some 38) rfl rfl Try.func50 Zj rfl #[.slice a_8 q1.length b_8, .slice a_4 q1.length b_4] rfl Zo ?_; (with_reducible refine (laws_eqInt64S.calls k _ _ q1 _ _ q1 true _ (Ob_C (have z0_ := X8; Zaz)).2.2 (Ob_C X8.out).2.1 (Ob_C (have z0_ := X4; Zaz)).2.2 (Ob_C X4.out).2.1 HF.out.er).mono ?_); rintro e w' ⟨rfl, ⟨nd, rfl⟩⟩; refine ⟨_, rfl, ?_⟩))
 refine start_w (n := 5) (S := fun w' => w'.cell? ⟨g_91, 0, none⟩ = some (.slice a_5 M0_0.length b_5) ∧ w'.cell? ⟨g_91, 1, none⟩ = some (.slice a_6 M0_1.length b_6) ∧ w'.cell? ⟨g_91, 2, none⟩ = some (.slice a_7 M0_2.length b_7) ∧ w'.cell? ⟨g_0, 0, none⟩ = some (.slice A0_0 l0_0.length c0_0) ∧ w'.cell? ⟨g_0, 1, none⟩ = some (.slice A0_1 l0_1.length c0_1) ∧ w'.cell? ⟨g_0, 2, none⟩ = some (.slice A0_2 l0_2.length c0_2)) (ds := []) (bT 5 0) Zj rfl rfl (fun w1 hb => ?_)
 have n0_ := Aside0.mk (Ob_below (have z0_ := X1; Zaz) hb); have n1_ := Aside0.mk (Ob_below (have z0_ := X2; Zaz) hb); have n2_ := Aside0.mk (Ob_below (have z0_ := X3; Zaz) hb); have n3_ := Aside0.mk (Ob_below (have z0_ := X4; Zaz) hb); have n4_ := Aside0.mk (Ob_below (have z0_ := X5; Zaz) hb); have n5_ := Aside0.mk (Ob_below (have z0_ := X6; Zaz) hb); have n6_ := Aside0.mk (Ob_below (have z0_ := X7; Zaz) hb); have n7_ := Aside0.mk (Ob_below (have z0_ := X8; Zaz) hb); have nb_ := Aside0.mk (below_step Zc hb); have nk0_ := Aside0.mk (blk_below (g := g_0) (o := .cells #[.slice A0_0 l0_0.length c0_0, .slice A0_1 l0_1.length c0_1, .slice A0_2 l0_2.length c0_2] 26 (0, 0)) (have z0_ := BK0; Ze) hb); have nk91_ := Aside0.mk (blk_below (g := g_91) (o := .cells #[.slice a_5 M0_0.length b_5, .slice a_6 M0_1.length b_6, .slice a_7 M0_2.length b_7] 32 (0, 0)) (have z0_ := BK91; Ze) hb); clear X1; clear X2; clear X3; clear X4; clear X5; clear X6; clear X7; clear X8; clear HB; have X1 := n0_; clear n0_; have X2 := n1_; clear n1_; have X3 := n2_; clear n2_; have X4 := n3_; clear n3_; have X5 := n4_; clear n4_; have X6 := n5_; clear n5_; have X7 := n6_; clear n6_; have X8 := n7_; clear n7_; have HB := nb_; clear nb_ hb; clear BK0; have BK0 := nk0_; clear nk0_; clear BK91; have BK91 := nk91_; clear nk91_; obtain ⟨hcz12_0, hcz12_1, hcz12_2, hfz12_0, hfz12_1, hfz12_2⟩ := cz3 BK0; obtain ⟨hcz13_0, hcz13_1, hcz13_2, hfz13_0, hfz13_1, hfz13_2⟩ := cz3 BK91
 refine ⟨⟨(blk_cell BK91.out 0).trans rfl, (blk_cell BK91.out 1).trans rfl, (blk_cell BK91.out 2).trans rfl, (blk_cell BK0.out 0).trans rfl, (blk_cell BK0.out 1).trans rfl, (blk_cell BK0.out 2).trans rfl⟩, fun hHeld => ?_⟩
 refine with_tabW law_FnExactFiredAt.tab law_FnExactFiredAt.bits (fun HT_ HW_ => ?_)
 refine take_ (i := 0) (N := some 45) (v := ?_) (a' := ?_) (bT 5 1) rfl rfl (take_ofW HT_.out HW_.out Zj) (fun _ _ _ h => h) (Or.inl ⟨by rfl, ?_⟩) hHeld ?_ ?_
 rotate_left
 ·rintro w' ⟨s0, s1, s2, s3, s4, s5⟩
  go_simp
  with_reducible rfl
 rotate_left
 ·exact Zput
 refine take_ (i := 1) (N := some 46) (v := ?_) (a' := ?_) (bT 5 2) rfl rfl (take_ofW HT_.out HW_.out Zj) (fun _ _ _ h => h) (Or.inl ⟨by rfl, ?_⟩) hHeld ?_ ?_
 rotate_left
 ·rintro w' ⟨s0, s1, s2, s3, s4, s5⟩
  go_simp
  with_reducible rfl
 rotate_left
 ·exact Zput
 refine one_ (i := 2) (N := some 47) (bT 5 3) rfl rfl (one_of HT_.out Zj) (by decide) (fun K hK => ?_)
 refine goes_ Try.func21 Zj rfl #[.agg #[.slice A0_0 l0_0.length c0_0, .slice A0_1 l0_1.length c0_1, .slice A0_2 l0_2.length c0_2], .bool false] (by rfl) rfl rfl Zo ?_
 (with_reducible refine (full_toShow.calls k _ _ l0_0 _ _ l0_1 _ _ l0_2 false L0_0 L0_1 L0_2 _ (Kd.C_below HR0_0.out Zc) HC0_0.out (Kd.C_below HR0_1.out Zc) HC0_1.out (Kd.C_below HR0_2.out Zc) HC0_2.out HF.out.fu0 HF.out.ne0_0 HF.out.ne0_1 HF.out.ne0_2).mono ?_)
 rintro e w1 ⟨a_9, b_9, a_10, b_10, a_11, b_11, he_, ho0, ho1, ho2, hb⟩; rw [← HF.out.ln0_0, ← HF.out.ln0_1, ← HF.out.ln0_2] at he_; subst he_; refine ⟨_, rfl, ?_⟩; obtain ⟨lo9, hi9, hx0_, hx1_, hx2_, ha_, hz_, _⟩ := Ob_mk3 (base := w.heap.size) ho0 ho1 ho2 hb (below_le Zc) (Ob_hi (have z0_ := X8; Zaz)); have X9 := Aside0.mk hx0_; have X10 := Aside0.mk hx1_; have X11 := Aside0.mk hx2_; have OX9 := Aside0.mk (And.intro ha_ hz_); clear hx0_ hx1_ hx2_ ha_ hz_ ho0 ho1 ho2; have n0_ := Aside0.mk (Ob_below (have z0_ := X1; Zaz) hb); have n1_ := Aside0.mk (Ob_below (have z0_ := X2; Zaz) hb); have n2_ := Aside0.mk (Ob_below (have z0_ := X3; Zaz) hb); have n3_ := Aside0.mk (Ob_below (have z0_ := X4; Zaz) hb); have n4_ := Aside0.mk (Ob_below (have z0_ := X5; Zaz) hb); have n5_ := Aside0.mk (Ob_below (have z0_ := X6; Zaz) hb); have n6_ := Aside0.mk (Ob_below (have z0_ := X7; Zaz) hb); have n7_ := Aside0.mk (Ob_below (have z0_ := X8; Zaz) hb); have nb_ := Aside0.mk (below_step Zc hb); have nk0_ := Aside0.mk (blk_below (g := g_0) (o := .cells #[.slice A0_0 l0_0.length c0_0, .slice A0_1 l0_1.length c0_1, .slice A0_2 l0_2.length c0_2] 26 (0, 0)) (have z0_ := BK0; Ze) hb); have nk91_ := Aside0.mk (blk_below (g := g_91) (o := .cells #[.slice a_5 M0_0.length b_5, .slice a_6 M0_1.length b_6, .slice a_7 M0_2.length b_7] 32 (0, 0)) (have z0_ := BK91; Ze) hb); clear X1; clear X2; clear X3; clear X4; clear X5; clear X6; clear X7; clear X8; clear HB; have X1 := n0_; clear n0_; have X2 := n1_; clear n1_; have X3 := n2_; clear n2_; have X4 := n3_; clear n3_; have X5 := n4_; clear n4_; have X6 := n5_; clear n5_; have X7 := n6_; clear n6_; have X8 := n7_; clear n7_; have HB := nb_; clear nb_ hb; clear BK0; have BK0 := nk0_; clear nk0_; clear BK91; have BK91 := nk91_; clear nk91_; obtain ⟨hcz14_0, hcz14_1, hcz14_2, hfz14_0, hfz14_1, hfz14_2⟩ := cz3 BK0; obtain ⟨hcz15_0, hcz15_1, hcz15_2, hfz15_0, hfz15_1, hfz15_2⟩ := cz3 BK91
 clear hHeld
 refine hK.out _ _ ⟨(blk_cell BK91.out 0).trans rfl, (blk_cell BK91.out 1).trans rfl, (blk_cell BK91.out 2).trans rfl, (blk_cell BK0.out 0).trans rfl, (blk_cell BK0.out 1).trans rfl, (blk_cell BK0.out 2).trans rfl⟩ (fun hHeld => ?_)
 clear hK K
 refine norm_ (a' := ?_) ?_ ?_
 rotate_left
 ·show Act.put _ (some 47) _ = _
  simp only [Act.put, List.setIfInBounds_toArray, List.set_cons_zero, List.set_cons_succ, i64_w, i32_w]
  rfl
 refine one_ (i := 3) (N := some 48) (bT 5 4) rfl rfl (one_of HT_.out Zj) (by decide) (fun K hK => ?_)
 refine goes_ Try.func24 Zj rfl #[.agg #[.slice a_5 M0_0.length b_5, .slice a_6 M0_1.length b_6, .slice a_7 M0_2.length b_7], .agg #[.slice a_9 M0_0.length b_9, .slice a_10 M0_1.length b_10, .slice a_11 M0_2.length b_11]] (by rfl) rfl rfl Zo ?_
 (with_reducible refine (same_intactShow k M0_0.length M0_1.length M0_2.length _ _ _ _ _ _ _ _ _ _ _ _ L0_0 L0_1 L0_2 t0_0 t0_1 t0_2 _ (fullC (have z0_ := X5; Zaz) HF.out.tk0_0).2.2.2 (fullC X5.out HF.out.tk0_0).2.2.1 (fullC (have z0_ := X9; Zaz) HF.out.tk0_0).2.2.2 (fullC X9.out HF.out.tk0_0).2.2.1 HF.out.rm0_0 HF.out.jn0_0 HF.out.eq0_0 (fullC (have z0_ := X6; Zaz) HF.out.tk0_1).2.2.2 (fullC X6.out HF.out.tk0_1).2.2.1 (fullC (have z0_ := X10; Zaz) HF.out.tk0_1).2.2.2 (fullC X10.out HF.out.tk0_1).2.2.1 HF.out.rm0_1 HF.out.jn0_1 HF.out.eq0_1 (fullC (have z0_ := X7; Zaz) HF.out.tk0_2).2.2.2 (fullC X7.out HF.out.tk0_2).2.2.1 (fullC (have z0_ := X11; Zaz) HF.out.tk0_2).2.2.2 (fullC X11.out HF.out.tk0_2).2.2.1 HF.out.rm0_2 HF.out.jn0_2 HF.out.eq0_2).mono ?_)
 rintro e w1 ⟨rfl, hb⟩; refine ⟨_, rfl, ?_⟩; have n0_ := Aside0.mk (Ob_below (have z0_ := X1; Zaz) hb); have n1_ := Aside0.mk (Ob_below (have z0_ := X2; Zaz) hb); have n2_ := Aside0.mk (Ob_below (have z0_ := X3; Zaz) hb); have n3_ := Aside0.mk (Ob_below (have z0_ := X4; Zaz) hb); have n4_ := Aside0.mk (Ob_below (have z0_ := X5; Zaz) hb); have n5_ := Aside0.mk (Ob_below (have z0_ := X6; Zaz) hb); have n6_ := Aside0.mk (Ob_below (have z0_ := X7; Zaz) hb); have n7_ := Aside0.mk (Ob_below (have z0_ := X8; Zaz) hb); have n8_ := Aside0.mk (Ob_below (have z0_ := X9; Zaz) hb); have n9_ := Aside0.mk (Ob_below (have z0_ := X10; Zaz) hb); have n10_ := Aside0.mk (Ob_below (have z0_ := X11; Zaz) hb); have nb_ := Aside0.mk (below_step Zc hb); have nk0_ := Aside0.mk (blk_below (g := g_0) (o := .cells #[.slice A0_0 l0_0.length c0_0, .slice A0_1 l0_1.length c0_1, .slice A0_2 l0_2.length c0_2] 26 (0, 0)) (have z0_ := BK0; Ze) hb); have nk91_ := Aside0.mk (blk_below (g := g_91) (o := .cells #[.slice a_5 M0_0.length b_5, .slice a_6 M0_1.length b_6, .slice a_7 M0_2.length b_7] 32 (0, 0)) (have z0_ := BK91; Ze) hb); clear X1; clear X2; clear X3; clear X4; clear X5; clear X6; clear X7; clear X8; clear X9; clear X10; clear X11; clear HB; have X1 := n0_; clear n0_; have X2 := n1_; clear n1_; have X3 := n2_; clear n2_; have X4 := n3_; clear n3_; have X5 := n4_; clear n4_; have X6 := n5_; clear n5_; have X7 := n6_; clear n6_; have X8 := n7_; clear n7_; have X9 := n8_; clear n8_; have X10 := n9_; clear n9_; have X11 := n10_; clear n10_; have HB := nb_; clear nb_ hb; clear BK0; have BK0 := nk0_; clear nk0_; clear BK91; have BK91 := nk91_; clear nk91_; obtain ⟨hcz16_0, hcz16_1, hcz16_2, hfz16_0, hfz16_1, hfz16_2⟩ := cz3 BK0; obtain ⟨hcz17_0, hcz17_1, hcz17_2, hfz17_0, hfz17_1, hfz17_2⟩ := cz3 BK91
 clear hHeld
 refine hK.out _ _ ⟨(blk_cell BK91.out 0).trans rfl, (blk_cell BK91.out 1).trans rfl, (blk_cell BK91.out 2).trans rfl, (blk_cell BK0.out 0).trans rfl, (blk_cell BK0.out 1).trans rfl, (blk_cell BK0.out 2).trans rfl⟩ (fun hHeld => ?_)
 clear hK K
 refine norm_ (a' := ?_) ?_ ?_
 rotate_left
 ·show Act.put _ (some 48) _ = _
  simp only [Act.put, List.setIfInBounds_toArray, List.set_cons_zero, List.set_cons_succ, i64_w, i32_w]
  rfl
 refine pureZ HT_ 4 (some 49) (bT 5 5) ?_
 refine done_ (done_of HT_.out Zj) ?_
 clear hHeld HT_ HW_
 go_wp2_with (first | ((with_reducible refine gate_callee (f := 25) rfl ?_); (try (refine gate_guard (by rfl) ?_; dsimp only)); refine goesL_ (some 52) rfl rfl Try.func25 Zj rfl #[.agg #[.slice a_5 M0_0.length b_5, .slice a_6 M0_1.length b_6, .slice a_7 M0_2.length b_7], .int .i64 101] rfl Zo ?_; (with_reducible refine (laws_markShow.calls k _ _ M0_0 _ _ M0_1 _ _ M0_2 101 k1 M0_0k M0_1k M0_2k w _ Zc (Ob_R (lo := lo5) (hi := hi5) (fullT (have z0_ := X5; Zaz) HF.out.tk0_0)) (Ob_R (lo := lo5) (hi := hi5) (fullT (have z0_ := X6; Zaz) HF.out.tk0_1)) (Ob_R (lo := lo5) (hi := hi5) (fullT (have z0_ := X7; Zaz) HF.out.tk0_2)) HF.out.mk1).mono ?_); rintro e w1 ⟨rfl, hr0_, hr1_, hr2_, hB_, hk3_⟩; refine ⟨_, rfl, ?_⟩; have hk_ := Kept3 hk3_; clear hk3_; have n0_ := Aside0.mk (Ob_kept (have z0_ := X1; Zaz) hk_ Zbb); have n1_ := Aside0.mk (Ob_kept (have z0_ := X2; Zaz) hk_ Zbb); have n2_ := Aside0.mk (Ob_kept (have z0_ := X3; Zaz) hk_ Zbb); have n3_ := Aside0.mk (Ob_kept (have z0_ := X4; Zaz) hk_ Zbb); have n4_ := Aside0.mk (Ob_kept (have z0_ := X8; Zaz) hk_ Zbb); have n5_ := Aside0.mk (Ob_kept (have z0_ := X9; Zaz) hk_ Zbb); have n6_ := Aside0.mk (Ob_kept (have z0_ := X10; Zaz) hk_ Zbb); have n7_ := Aside0.mk (Ob_kept (have z0_ := X11; Zaz) hk_ Zbb); have nk0_ := Aside0.mk ((hk_.2 g_0 (blk_lt (g := g_0) (o := .cells #[.slice A0_0 l0_0.length c0_0, .slice A0_1 l0_1.length c0_1, .slice A0_2 l0_2.length c0_2] 26 (0, 0)) (have z0_ := BK0; Ze)) Zbb).trans (show _ = some (Obj.cells #[.slice A0_0 l0_0.length c0_0, .slice A0_1 l0_1.length c0_1, .slice A0_2 l0_2.length c0_2] 26 (0, 0)) from (have z0_ := BK0; Ze))); have nk91_ := Aside0.mk ((hk_.2 g_91 (blk_lt (g := g_91) (o := .cells #[.slice a_5 M0_0.length b_5, .slice a_6 M0_1.length b_6, .slice a_7 M0_2.length b_7] 32 (0, 0)) (have z0_ := BK91; Ze)) Zbb).trans (show _ = some (Obj.cells #[.slice a_5 M0_0.length b_5, .slice a_6 M0_1.length b_6, .slice a_7 M0_2.length b_7] 32 (0, 0)) from (have z0_ := BK91; Ze))); clear X1; clear X2; clear X3; clear X4; clear X5; clear X6; clear X7; clear X8; clear X9; clear X10; clear X11; clear HB; have X1 := n0_; clear n0_; have X2 := n1_; clear n1_; have X3 := n2_; clear n2_; have X4 := n3_; clear n3_; have X8 := n4_; clear n4_; have X9 := n5_; clear n5_; have X10 := n6_; clear n6_; have X11 := n7_; clear n7_; have HB := Aside0.mk hB_; clear hB_ hk_; clear BK0; have BK0 := nk0_; clear nk0_; obtain ⟨hcz18_0, hcz18_1, hcz18_2, hfz18_0, hfz18_1, hfz18_2⟩ := cz3 BK0; clear BK91; have BK91 := nk91_; clear nk91_; obtain ⟨hcz19_0, hcz19_1, hcz19_2, hfz19_0, hfz19_1, hfz19_2⟩ := cz3 BK91; clear hr0_ hr1_ hr2_) | ((with_reducible refine gate_callee (f := 50) rfl ?_); (try (refine gate_guard (by rfl) ?_; dsimp only)); refine goesL_ (some 58) rfl rfl Try.func50 Zj rfl #[.slice a_8 q1.length b_8, .slice a_4 q1.length b_4] rfl Zo ?_; (with_reducible refine (laws_eqInt64S.calls k _ _ q1 _ _ q1 true _ (Ob_C (have z0_ := X8; Zaz)).2.2 (Ob_C X8.out).2.1 (Ob_C (have z0_ := X4; Zaz)).2.2 (Ob_C X4.out).2.1 HF.out.er).mono ?_); rintro e w' ⟨rfl, ⟨nd, rfl⟩⟩; refine ⟨_, rfl, ?_⟩) | ((with_reducible refine gate_callee (f := 51) rfl ?_); (try (refine gate_guard (by rfl) ?_; dsimp only)); refine goesL_ (some 68) rfl rfl Try.func51 Zj rfl #[.slice a_8 q1.length b_8, .int .i64 101] rfl Zo ?_; (with_reducible refine (laws_markInt64S.calls k _ _ q1 101 m1 q1k w _ Zc (Ob_R (lo := lo8) (hi := hi8) (have z0_ := X8; Zaz)) HF.out.mg).mono ?_); rintro e w1 ⟨rfl, hr_, hB_, hk_⟩; refine ⟨_, rfl, ?_⟩; have n0_ := Aside0.mk (Ob_kept (have z0_ := X1; Zaz) hk_ Zbb); have n1_ := Aside0.mk (Ob_kept (have z0_ := X2; Zaz) hk_ Zbb); have n2_ := Aside0.mk (Ob_kept (have z0_ := X3; Zaz) hk_ Zbb); have n3_ := Aside0.mk (Ob_kept (have z0_ := X4; Zaz) hk_ Zbb); have n4_ := Aside0.mk (Ob_kept (have z0_ := X9; Zaz) hk_ Zbb); have n5_ := Aside0.mk (Ob_kept (have z0_ := X10; Zaz) hk_ Zbb); have n6_ := Aside0.mk (Ob_kept (have z0_ := X11; Zaz) hk_ Zbb); have nk0_ := Aside0.mk ((hk_.2 g_0 (blk_lt (g := g_0) (o := .cells #[.slice A0_0 l0_0.length c0_0, .slice A0_1 l0_1.length c0_1, .slice A0_2 l0_2.length c0_2] 26 (0, 0)) (have z0_ := BK0; Ze)) Zbb).trans (show _ = some (Obj.cells #[.slice A0_0 l0_0.length c0_0, .slice A0_1 l0_1.length c0_1, .slice A0_2 l0_2.length c0_2] 26 (0, 0)) from (have z0_ := BK0; Ze))); have nk91_ := Aside0.mk ((hk_.2 g_91 (blk_lt (g := g_91) (o := .cells #[.slice a_5 M0_0.length b_5, .slice a_6 M0_1.length b_6, .slice a_7 M0_2.length b_7] 32 (0, 0)) (have z0_ := BK91; Ze)) Zbb).trans (show _ = some (Obj.cells #[.slice a_5 M0_0.length b_5, .slice a_6 M0_1.length b_6, .slice a_7 M0_2.length b_7] 32 (0, 0)) from (have z0_ := BK91; Ze))); have ng_ := Aside0.mk (show Ob _ _ _ w.heap.size _ _ _ _ from ⟨Kd.R_mono (Kd.R_bound hr_) (fun _ hz => ⟨hz.2.1, hz.2.2.1⟩), Nat.le_refl _, Nat.le_refl _⟩); clear X1; clear X2; clear X3; clear X4; clear X8; clear X9; clear X10; clear X11; clear HB; have X1 := n0_; clear n0_; have X2 := n1_; clear n1_; have X3 := n2_; clear n2_; have X4 := n3_; clear n3_; have X9 := n4_; clear n4_; have X10 := n5_; clear n5_; have X11 := n6_; clear n6_; have HB := Aside0.mk hB_; clear hB_ hk_; clear BK0; have BK0 := nk0_; clear nk0_; obtain ⟨hcz20_0, hcz20_1, hcz20_2, hfz20_0, hfz20_1, hfz20_2⟩ := cz3 BK0; clear BK91; have BK91 := nk91_; clear nk91_; obtain ⟨hcz21_0, hcz21_1, hcz21_2, hfz21_0, hfz21_1, hfz21_2⟩ := cz3 BK91; have X8 := ng_; clear ng_ hr_; skip) | ((with_reducible refine gate_callee (f := 52) rfl ?_); (try (refine gate_guard (by rfl) ?_; dsimp only)); refine goesL_ (some 71) rfl rfl Try.func52 Zj rfl #[.slice a_8 q1.length b_8, .int .i64 101] rfl Zo ?_; (with_reducible refine (calls_len HF.out.hl (laws_heldInt64S.calls k _ _ q1k 101 m1 _ (Ob_C (have z0_ := X8; Zaz)).2.2 (Ob_C X8.out).2.1 HF.out.hd)).mono ?_); rintro e w' ⟨rfl, ⟨nd, rfl⟩⟩; refine ⟨_, rfl, ?_⟩) | ((with_reducible refine gate_callee (f := 21) rfl ?_); (try (refine gate_guard (by rfl) ?_; dsimp only)); refine goesL_ (some 79) rfl rfl Try.func21 Zj rfl #[.agg #[.slice A0_0 l0_0.length c0_0, .slice A0_1 l0_1.length c0_1, .slice A0_2 l0_2.length c0_2], .bool true] rfl Zo ?_; (with_reducible refine (laws_toShow.calls k _ _ l0_0 _ _ l0_1 _ _ l0_2 true M0_0 M0_1 M0_2 _ (Kd.C_below HR0_0.out Zc) HC0_0.out (Kd.C_below HR0_1.out Zc) HC0_1.out (Kd.C_below HR0_2.out Zc) HC0_2.out HF.out.to0).mono ?_); rintro e w1 ⟨v0_, v1_, v2_, rfl, ho0, ho1, ho2, hb⟩; refine ⟨_, rfl, ?_⟩; obtain ⟨lo12, hi12, hx0_, hx1_, hx2_, ha_, hz_, _⟩ := Ob_mk3 (base := w.heap.size) ho0 ho1 ho2 hb (below_le Zc) (Ob_hi (have z0_ := X9; Zaz)); have X12 := Aside0.mk hx0_; have X13 := Aside0.mk hx1_; have X14 := Aside0.mk hx2_; have OX12 := Aside0.mk (And.intro ha_ hz_); clear hx0_ hx1_ hx2_ ha_ hz_ ho0 ho1 ho2; have n0_ := Aside0.mk (Ob_below (have z0_ := X1; Zaz) hb); have n1_ := Aside0.mk (Ob_below (have z0_ := X2; Zaz) hb); have n2_ := Aside0.mk (Ob_below (have z0_ := X3; Zaz) hb); have n3_ := Aside0.mk (Ob_below (have z0_ := X4; Zaz) hb); have n4_ := Aside0.mk (Ob_below (have z0_ := X9; Zaz) hb); have n5_ := Aside0.mk (Ob_below (have z0_ := X10; Zaz) hb); have n6_ := Aside0.mk (Ob_below (have z0_ := X11; Zaz) hb); have n7_ := Aside0.mk (Ob_below (have z0_ := X8; Zaz) hb); have nb_ := Aside0.mk (below_step Zc hb); have nk0_ := Aside0.mk (blk_below (g := g_0) (o := .cells #[.slice A0_0 l0_0.length c0_0, .slice A0_1 l0_1.length c0_1, .slice A0_2 l0_2.length c0_2] 26 (0, 0)) (have z0_ := BK0; Ze) hb); have nk91_ := Aside0.mk (blk_below (g := g_91) (o := .cells #[.slice a_5 M0_0.length b_5, .slice a_6 M0_1.length b_6, .slice a_7 M0_2.length b_7] 32 (0, 0)) (have z0_ := BK91; Ze) hb); clear X1; clear X2; clear X3; clear X4; clear X9; clear X10; clear X11; clear X8; clear HB; have X1 := n0_; clear n0_; have X2 := n1_; clear n1_; have X3 := n2_; clear n2_; have X4 := n3_; clear n3_; have X9 := n4_; clear n4_; have X10 := n5_; clear n5_; have X11 := n6_; clear n6_; have X8 := n7_; clear n7_; have HB := nb_; clear nb_ hb; clear BK0; have BK0 := nk0_; clear nk0_; clear BK91; have BK91 := nk91_; clear nk91_; obtain ⟨hcz22_0, hcz22_1, hcz22_2, hfz22_0, hfz22_1, hfz22_2⟩ := cz3 BK0; obtain ⟨hcz23_0, hcz23_1, hcz23_2, hfz23_0, hfz23_1, hfz23_2⟩ := cz3 BK91; obtain ⟨a_12, b_12, e_⟩ := Ob_slice X12.out; subst e_; obtain ⟨a_13, b_13, e_⟩ := Ob_slice X13.out; subst e_; obtain ⟨a_14, b_14, e_⟩ := Ob_slice X14.out; subst e_) | ((with_reducible refine gate_callee (f := 60) rfl ?_); (try (refine gate_guard (by rfl) ?_; dsimp only)); refine goesL_ (some 81) rfl rfl Try.func60 Zj rfl #[.agg #[.slice a_12 M0_0.length b_12, .slice a_13 M0_1.length b_13, .slice a_14 M0_2.length b_14], .int .i64 a1] rfl Zo ?_; (with_reducible refine (impl_FiredAt.calls k _ _ M0_0 _ _ M0_1 _ _ M0_2 a1 q1 q2 _ (Ob_C (have z0_ := X12; Zaz)).2.2 (Ob_C X12.out).2.1 (Ob_C (have z0_ := X13; Zaz)).2.2 (Ob_C X13.out).2.1 (Ob_C (have z0_ := X14; Zaz)).2.2 (Ob_C X14.out).2.1 HF.out.im).mono ?_); rintro e w1 ⟨v0_, rfl, ho0, hb⟩; refine ⟨_, rfl, ?_⟩; obtain ⟨lo15, hi15, hx_, ha_, hz_, _⟩ := Ob_mk (base := w.heap.size) ho0 hb (below_le Zc) (Ob_hi (have z0_ := X12; Zaz)); have X15 := Aside0.mk hx_; have OX15 := Aside0.mk (And.intro ha_ hz_); clear hx_ ha_ hz_ ho0; have n0_ := Aside0.mk (Ob_below (have z0_ := X1; Zaz) hb); have n1_ := Aside0.mk (Ob_below (have z0_ := X2; Zaz) hb); have n2_ := Aside0.mk (Ob_below (have z0_ := X3; Zaz) hb); have n3_ := Aside0.mk (Ob_below (have z0_ := X4; Zaz) hb); have n4_ := Aside0.mk (Ob_below (have z0_ := X9; Zaz) hb); have n5_ := Aside0.mk (Ob_below (have z0_ := X10; Zaz) hb); have n6_ := Aside0.mk (Ob_below (have z0_ := X11; Zaz) hb); have n7_ := Aside0.mk (Ob_below (have z0_ := X8; Zaz) hb); have n8_ := Aside0.mk (Ob_below (have z0_ := X12; Zaz) hb); have n9_ := Aside0.mk (Ob_below (have z0_ := X13; Zaz) hb); have n10_ := Aside0.mk (Ob_below (have z0_ := X14; Zaz) hb); have nb_ := Aside0.mk (below_step Zc hb); have nk0_ := Aside0.mk (blk_below (g := g_0) (o := .cells #[.slice A0_0 l0_0.length c0_0, .slice A0_1 l0_1.length c0_1, .slice A0_2 l0_2.length c0_2] 26 (0, 0)) (have z0_ := BK0; Ze) hb); have nk91_ := Aside0.mk (blk_below (g := g_91) (o := .cells #[.slice a_5 M0_0.length b_5, .slice a_6 M0_1.length b_6, .slice a_7 M0_2.length b_7] 32 (0, 0)) (have z0_ := BK91; Ze) hb); clear X1; clear X2; clear X3; clear X4; clear X9; clear X10; clear X11; clear X8; clear X12; clear X13; clear X14; clear HB; have X1 := n0_; clear n0_; have X2 := n1_; clear n1_; have X3 := n2_; clear n2_; have X4 := n3_; clear n3_; have X9 := n4_; clear n4_; have X10 := n5_; clear n5_; have X11 := n6_; clear n6_; have X8 := n7_; clear n7_; have X12 := n8_; clear n8_; have X13 := n9_; clear n9_; have X14 := n10_; clear n10_; have HB := nb_; clear nb_ hb; clear BK0; have BK0 := nk0_; clear nk0_; clear BK91; have BK91 := nk91_; clear nk91_; obtain ⟨hcz24_0, hcz24_1, hcz24_2, hfz24_0, hfz24_1, hfz24_2⟩ := cz3 BK0; obtain ⟨hcz25_0, hcz25_1, hcz25_2, hfz25_0, hfz25_1, hfz25_2⟩ := cz3 BK91; obtain ⟨a_15, b_15, e_⟩ := Ob_slice X15.out; subst e_) | ((with_reducible refine gate_callee (f := 50) rfl ?_); (try (refine gate_guard (by rfl) ?_; dsimp only)); refine goesL_ (some 86) rfl rfl Try.func50 Zj rfl #[.slice a_15 q1.length b_15, .slice a_4 q1.length b_4] rfl Zo ?_; (with_reducible refine (laws_eqInt64S.calls k _ _ q1 _ _ q1 true _ (Ob_C (have z0_ := X15; Zaz)).2.2 (Ob_C X15.out).2.1 (Ob_C (have z0_ := X4; Zaz)).2.2 (Ob_C X4.out).2.1 HF.out.er).mono ?_); rintro e w' ⟨rfl, ⟨nd, rfl⟩⟩; refine ⟨_, rfl, ?_⟩) | ((with_reducible refine gate_callee (f := 52) rfl ?_); (try (refine gate_guard (by rfl) ?_; dsimp only)); refine goesL_ (some 95) rfl rfl Try.func52 Zj rfl #[.slice a_8 q1.length b_8, .int .i64 101] rfl Zo ?_; (with_reducible refine (calls_len HF.out.hl (laws_heldInt64S.calls k _ _ q1k 101 m1 _ (Ob_C (have z0_ := X8; Zaz)).2.2 (Ob_C X8.out).2.1 HF.out.hd)).mono ?_); rintro e w' ⟨rfl, ⟨nd, rfl⟩⟩; refine ⟨_, rfl, ?_⟩))
 go_ret
 exact ⟨rfl, Zc⟩
end Go.Proofs.Ytnlbaflbhicooaa.F
namespace Go.Proofs.Ytnlbaflbhicooaa.F
open Go.RowKit Go.Proofs.YtnlbaflbhicooaaW.PrintWords Go.Proofs.YtnlbaflbhicooaaW.PrintLast Go.Proofs.YtnlbaflbhicooaaW.PrintMore
set_option linter.unusedVariables false
set_option linter.unusedSimpArgs false
def Evt (P : Nat → Prop) : Prop := ∃ K, ∀ k, K ≤ k → P k
theorem Evt.and {P Q : Nat → Prop} (h : Evt P) (h' : Evt Q) : Evt (fun k => P k ∧ Q k) := by
 obtain ⟨K, h⟩ := h
 obtain ⟨K', h'⟩ := h'
 exact ⟨K + K', fun k hk => ⟨h k (by omega), h' k (by omega)⟩⟩
theorem Evt.mono {P Q : Nat → Prop} (h : Evt P) (hq : ∀ k, P k → Q k) : Evt Q := by
 obtain ⟨K, h⟩ := h
 exact ⟨K, fun k hk => hq k (h k hk)⟩
theorem Evt.of {P : Nat → Prop} (h : ∀ k, P k) : Evt P := ⟨0, fun k _ => h k⟩
theorem Evt.ex {P : Nat → Prop} (h : Evt P) : ∃ k, P k := by
 obtain ⟨K, h⟩ := h
 exact ⟨K, h K (Nat.le_refl _)⟩
theorem Evt.succ {P : Nat → Prop} (h : Evt (fun k => P (k + 1))) : Evt P := by
 obtain ⟨K, h⟩ := h
 refine ⟨K + 1, fun k hk => ?_⟩
 obtain ⟨m, rfl⟩ : ∃ m, k = m + 1 := ⟨k - 1, by omega⟩
 exact h m (by omega)
theorem w64 {n : Int} (h : -9223372036854775808 ≤ n ∧ n ≤ 9223372036854775807) : wrap64 n = n := by unfold wrap64; omega
theorem room_some (n : Nat) : ∃ t : Int, laws_roomBehind.f (n : Int) = some t ∧ 0 ≤ t ∧ t ≤ n + 1 ∧ (n = 0 → 1 ≤ t) := by
 unfold laws_roomBehind.f
 have h6 : Int.tmod (n : Int) 6 = (n : Int) % 6 := Int.tmod_eq_emod_of_nonneg (by omega)
 have h3 : Int.tmod (n : Int) 3 = (n : Int) % 3 := Int.tmod_eq_emod_of_nonneg (by omega)
 rw [h6, h3]
 by_cases a : (n : Int) % 6 = 5
 ·rw [if_pos a]
  exact ⟨0, rfl, by omega, by omega, by omega⟩
 ·rw [if_neg a]
  by_cases b : (n : Int) % 3 = 0
  ·rw [if_pos b]
   exact ⟨1, rfl, by omega, by omega, by omega⟩
  ·rw [if_neg b]
   exact ⟨n, rfl, by omega, by omega, by omega⟩
theorem getD_at {α : Type} (xs : List α) (z : α) (i : Nat) (h : i < xs.length) : xs.getD ((i : Int)).toNat z = xs[i] := by
 rw [Int.toNat_natCast, List.getD_eq_getElem?_getD, List.getElem?_eq_getElem h]; rfl
theorem take_set_ge {α : Type} (xs : List α) (n i : Nat) (v : α) (h : n ≤ i) : (xs.set i v).take n = xs.take n := by
 apply List.ext_getElem?
 intro j
 simp only [List.getElem?_take, List.getElem?_set]
 by_cases hj : j < n
 ·rw [if_pos hj, if_pos hj, if_neg (by omega)]
 ·rw [if_neg hj, if_neg hj]
theorem take_set_snoc {α : Type} (xs : List α) (i : Nat) (v : α) (h : i < xs.length) : (xs.set i v).take (i + 1) = xs.take i ++ [v] := by
 rw [List.take_succ_eq_append_getElem (by simpa using h), take_set_ge _ _ _ _ (Nat.le_refl _), List.getElem_set_self]
def allF (p : Nat → Bool) : Nat → Nat → Bool
 | _, 0 => true
 | i, d + 1 => p i && allF p (i + 1) d
theorem allF_true {p : Nat → Bool} : ∀ (d i : Nat), allF p i d = true ↔ ∀ j, i ≤ j → j < i + d → p j = true
 | 0, i => by simp [allF]; intro j h1 h2; omega
 | d + 1, i => by
  unfold allF
  rw [Bool.and_eq_true, allF_true d (i + 1)]
  constructor
  ·rintro ⟨h1, h2⟩ j h3 h4
   rcases Nat.eq_or_lt_of_le h3 with e | e
   ·exact e ▸ h1
   ·exact h2 j e (by omega)
  ·exact fun h => ⟨h i (Nat.le_refl _) (by omega), fun j h1 h2 => h j (by omega) (by omega)⟩
theorem all_loopF {f : Nat → Nat → Option Bool} {p : Nat → Bool} {e : Bool} (a n : Nat) (hs : ∀ k i, a ≤ i → i < n → f (k + 1) i = if p i = true then f k (i + 1) else some false) (he : ∀ k, f (k + 1) n = some e) :
  ∀ d k i, a ≤ i → n - i = d → i ≤ n → d < k → f k i = some (allF p i d && e) := by
 intro d
 induction d with
 | zero =>
  intro k i ha hd hi hk
  obtain ⟨k, rfl⟩ : ∃ m, k = m + 1 := ⟨k - 1, by omega⟩
  have : i = n := by omega
  subst this
  rw [he]
  rfl
 | succ d ih =>
  intro k i ha hd hi hk
  obtain ⟨k, rfl⟩ : ∃ m, k = m + 1 := ⟨k - 1, by omega⟩
  rw [hs k i ha (by omega)]
  unfold allF
  by_cases hp : p i = true
  ·rw [if_pos hp, ih k (i + 1) (by omega) (by omega) (by omega) (by omega), hp, Bool.true_and]
  ·rw [if_neg hp]
   replace hp := Bool.eq_false_iff.mpr hp
   rw [hp, Bool.false_and, Bool.false_and]
theorem all_loop {f : Nat → Nat → Option Bool} {p : Nat → Bool} {e : Bool} (n : Nat) (hs : ∀ k i, i < n → f (k + 1) i = if p i = true then f k (i + 1) else some false) (he : ∀ k, f (k + 1) n = some e) :
  ∀ d k i, n - i = d → i ≤ n → d < k → f k i = some (allF p i d && e) := fun d k i => all_loopF 0 n (fun k i _ h => hs k i h) he d k i (Nat.zero_le _)
def foldF {σ : Type} (step : Nat → σ → σ) : Nat → Nat → σ → σ
 | _, 0, s => s
 | i, d + 1, s => foldF step (i + 1) d (step i s)
theorem foldF_snoc {σ : Type} (f : Nat → σ → σ) : ∀ (d i : Nat) (s : σ), foldF f i (d + 1) s = f (i + d) (foldF f i d s)
 | 0, i, s => rfl
 | d + 1, i, s => by
  have h := foldF_snoc f d (i + 1) (f i s)
  rw [show i + 1 + d = i + (d + 1) by omega] at h
  exact h
theorem fold_loop {σ β : Type} {f : Nat → Nat → σ → Option β} {step : Nat → σ → σ} {I : Nat → σ → Prop} {e : σ → Option β} (n : Nat) (hs : ∀ k i s, i < n → I i s → f (k + 1) i s = f k (i + 1) (step i s)) (hI : ∀ i s, i < n → I i s → I (i + 1) (step i s)) (he : ∀ k s, I n s → f (k + 1) n s = e s) :
  ∀ d k i s, n - i = d → i ≤ n → I i s → d < k → f k i s = e (foldF step i d s) := by
 intro d
 induction d with
 | zero =>
  intro k i s hd hi h0 hk
  obtain ⟨k, rfl⟩ : ∃ m, k = m + 1 := ⟨k - 1, by omega⟩
  have : i = n := by omega
  subst this
  exact he k s h0
 | succ d ih =>
  intro k i s hd hi h0 hk
  obtain ⟨k, rfl⟩ : ∃ m, k = m + 1 := ⟨k - 1, by omega⟩
  rw [hs k i s (by omega) h0]
  exact ih k (i + 1) _ (by omega) (by omega) (hI i s (by omega) h0) (by omega)
def inB (n lo hi : Int) : Bool := decide (lo ≤ n ∧ n ≤ hi)
theorem inB_true {n lo hi : Int} : inB n lo hi = true ↔ lo ≤ n ∧ n ≤ hi := by unfold inB; exact decide_eq_true_iff
theorem inB_false {n lo hi : Int} : inB n lo hi = false ↔ ¬ (lo ≤ n ∧ n ≤ hi) := by unfold inB; exact decide_eq_false_iff_not
theorem set_set {α : Type} (xs : List α) (i : Nat) (a b : α) : (xs.set i a).set i b = xs.set i b := by simp
theorem getD_set {α : Type} (xs : List α) (i : Nat) (v z : α) (h : i < xs.length) : (xs.set i v).getD i z = v := by
 rw [List.getD_eq_getElem?_getD, List.getElem?_set_self h]; rfl
theorem set_take_app {α : Type} (xs ys : List α) (i : Nat) (v : α) (hi : i < xs.length) : ((xs.set i v).take (i + 1)) ++ ys = xs.take i ++ (v :: ys) := by
 rw [take_set_snoc _ _ _ hi, List.append_assoc, List.singleton_append]
theorem getD_take {α : Type} (xs : List α) (z : α) (n i : Nat) (h : i < n) : (xs.take n).getD i z = xs.getD i z := by
 rw [List.getD_eq_getElem?_getD, List.getD_eq_getElem?_getD, List.getElem?_take, if_pos h]
theorem getD_app {α : Type} (xs ys : List α) (z : α) (i : Nat) (h : xs.length = i) : (xs ++ ys).getD i z = ys.getD 0 z := by
 rw [List.getD_eq_getElem?_getD, List.getD_eq_getElem?_getD, List.getElem?_append_right (by omega), h, Nat.sub_self]
end Go.Proofs.Ytnlbaflbhicooaa.F
namespace Go.Proofs.Ytnlbaflbhicooaa.F
open Go.RowKit Go.Proofs.YtnlbaflbhicooaaW.PrintWords Go.Proofs.YtnlbaflbhicooaaW.PrintLast Go.Proofs.YtnlbaflbhicooaaW.PrintMore
set_option linter.unusedVariables false
set_option linter.unusedSimpArgs false
def conv_BarS (x : S110) : S108 := ⟨x.f0, x.f1⟩
theorem full_BarS_l1 (d : Nat) : ∀ (k : Nat) (x0 : List S110) (x5 : List S108) (i : Nat), x5.length - i = d → x0.length ≤ i → i ≤ x5.length → x5.length ≤ 4000000 → d < k →
  full_toBarS.l1 k x0 x5 (i : Int) = some (x5.take i ++ List.replicate d (⟨(-7000000000000000101), (-7000000000000000101)⟩ : S108)) := by
 induction d with
 | zero =>
  intro k x0 x5 i hd h1 h2 h3 hk
  obtain ⟨k, rfl⟩ : ∃ m, k = m + 1 := ⟨k - 1, by omega⟩
  simp only [full_toBarS.l1]
  rw [if_neg (by omega), if_pos (by omega), if_pos (by omega), List.take_of_length_le (by omega)]
  simp
 | succ d ih =>
  intro k x0 x5 i hd h1 h2 h3 hk
  obtain ⟨k, rfl⟩ : ∃ m, k = m + 1 := ⟨k - 1, by omega⟩
  have hr := ih k x0 (x5.set i (⟨(-7000000000000000101), (-7000000000000000101)⟩ : S108)) (i + 1) Zbc (by omega) Zbc Zbc (by omega)
  rw [take_set_snoc _ _ _ (by omega), List.append_assoc, List.singleton_append, ← List.replicate_succ] at hr
  rw [← hr]
  simp only [full_toBarS.l1, laws_fillerBar.f, Option.bind_some]
  rw [if_pos (by omega)]
  rw [if_pos (by omega), w64 (by omega)]
  rfl
theorem full_BarS_l0 (d : Nat) : ∀ (k : Nat) (x0 : List S110) (x5 : List S108) (i : Nat), x0.length - i = d → i ≤ x0.length → x0.length ≤ x5.length → x5.length ≤ 4000000 → x5.take i = (x0.take i).map conv_BarS → d + x5.length + 1 < k →
  full_toBarS.l0 k x0 x5 (i : Int) = some (x0.map conv_BarS ++ List.replicate (x5.length - x0.length) (⟨(-7000000000000000101), (-7000000000000000101)⟩ : S108)) := by
 induction d with
 | zero =>
  intro k x0 x5 i hd h1 h2 h3 h4 hk
  obtain ⟨k, rfl⟩ : ∃ m, k = m + 1 := ⟨k - 1, by omega⟩
  simp only [full_toBarS.l0]
  rw [if_neg (by omega), full_BarS_l1 (x5.length - x0.length) k x0 x5 x0.length rfl (Nat.le_refl _) h2 h3 (by omega)]
  have e : i = x0.length := by omega
  subst e
  rw [h4, List.take_length]
 | succ d ih =>
  intro k x0 x5 i hd h1 h2 h3 h4 hk
  obtain ⟨k, rfl⟩ : ∃ m, k = m + 1 := ⟨k - 1, by omega⟩
  have hi : i < x0.length := by omega
  have h5 : (x5.set i (conv_BarS x0[i])).take (i + 1) = (x0.take (i + 1)).map conv_BarS := by
   rw [take_set_snoc _ _ _ (by omega), h4, List.take_succ_eq_append_getElem hi, List.map_append]; rfl
  have hr := ih k x0 (x5.set i (conv_BarS x0[i])) (i + 1) (by omega) (by omega) Zbc Zbc h5 Zbc
  rw [List.length_set] at hr
  rw [← hr]
  simp only [full_toBarS.l0, laws_toBar.f, Option.bind_some]
  rw [if_pos (by omega), if_pos (by omega)]
  rw [if_pos (by omega), w64 (by omega), rd_T110, getD_at _ _ _ hi]
  rfl
theorem to_BarS_l1 (d : Nat) : ∀ (k : Nat) (x0 : List S110) (x5 : List S108) (i : Nat), x5.length - i = d → x0.length ≤ i → i ≤ x5.length → x5.length ≤ 4000000 → d < k →
  laws_toBarS.l1 k x0 x5 (i : Int) = some (x5.take x0.length) := by
 induction d with
 | zero =>
  intro k x0 x5 i hd h1 h2 h3 hk
  obtain ⟨k, rfl⟩ : ∃ m, k = m + 1 := ⟨k - 1, by omega⟩
  simp only [laws_toBarS.l1]; rw [if_neg (by omega), if_pos (by omega), if_pos (by omega), Int.toNat_natCast]
 | succ d ih =>
  intro k x0 x5 i hd h1 h2 h3 hk
  obtain ⟨k, rfl⟩ : ∃ m, k = m + 1 := ⟨k - 1, by omega⟩
  have hr := ih k x0 (x5.set i (⟨(-7000000000000000101), (-7000000000000000101)⟩ : S108)) (i + 1) Zbc (by omega) Zbc Zbc (by omega)
  rw [take_set_ge _ _ _ _ h1] at hr
  rw [← hr]
  simp only [laws_toBarS.l1, laws_fillerBar.f, Option.bind_some]
  rw [if_pos (by omega)]
  rw [if_pos (by omega), w64 (by omega)]
  rfl
theorem to_BarS_l0 (d : Nat) : ∀ (k : Nat) (x0 : List S110) (x5 : List S108) (i : Nat), x0.length - i = d → i ≤ x0.length → x0.length ≤ x5.length → x5.length ≤ 4000000 → x5.take i = (x0.take i).map conv_BarS → d + x5.length + 1 < k →
  laws_toBarS.l0 k x0 x5 (i : Int) = some (x0.map conv_BarS) := by
 induction d with
 | zero =>
  intro k x0 x5 i hd h1 h2 h3 h4 hk
  obtain ⟨k, rfl⟩ : ∃ m, k = m + 1 := ⟨k - 1, by omega⟩
  simp only [laws_toBarS.l0]
  rw [if_neg (by omega), to_BarS_l1 (x5.length - x0.length) k x0 x5 x0.length rfl (Nat.le_refl _) h2 h3 (by omega)]
  have e : i = x0.length := by omega
  subst e
  rw [h4, List.take_length]
 | succ d ih =>
  intro k x0 x5 i hd h1 h2 h3 h4 hk
  obtain ⟨k, rfl⟩ : ∃ m, k = m + 1 := ⟨k - 1, by omega⟩
  have hi : i < x0.length := by omega
  have h5 : (x5.set i (conv_BarS x0[i])).take (i + 1) = (x0.take (i + 1)).map conv_BarS := by
   rw [take_set_snoc _ _ _ (by omega), h4, List.take_succ_eq_append_getElem hi, List.map_append]; rfl
  have hr := ih k x0 (x5.set i (conv_BarS x0[i])) (i + 1) (by omega) (by omega) Zbc Zbc h5 Zbc
  rw [← hr]
  simp only [laws_toBarS.l0, laws_toBar.f, Option.bind_some]
  rw [if_pos (by omega), if_pos (by omega)]
  rw [if_pos (by omega), w64 (by omega), rd_T110, getD_at _ _ _ hi]
  rfl
theorem to_BarS (l : List S110) (hl : l.length ≤ 1000000) : ∃ (L : List S108) (t : Int), L ≠ [] ∧ (l.map conv_BarS = L.take l.length ∧ l.length ≤ L.length) ∧ (l.map conv_BarS).length = l.length ∧ L.length ≤ 2000001 ∧
  laws_roomBehind.f ((l.map conv_BarS).length : Int) = some t ∧ wrap64 (((l.map conv_BarS).length : Int) + t) = (L.length : Int) ∧
  Evt (fun k => full_toBarS.f k l false = some L) ∧ Evt (fun k => laws_toBarS.f k l true = some (l.map conv_BarS)) := by
 obtain ⟨t, ht, h0, h1, h2⟩ := room_some l.length
 have hw : wrap64 ((l.length : Int) + t) = (l.length : Int) + t := w64 (by omega)
 have hn : ((l.length : Int) + t).toNat = l.length + t.toNat := by omega
 have hm : (l.map conv_BarS).length = l.length := List.length_map _
 have hlen : (l.map conv_BarS ++ List.replicate (l.length + t.toNat - l.length) (⟨(-7000000000000000101), (-7000000000000000101)⟩ : S108)).length = l.length + t.toNat := by rw [List.length_append, List.length_replicate, hm]; omega
 refine ⟨l.map conv_BarS ++ List.replicate (l.length + t.toNat - l.length) (⟨(-7000000000000000101), (-7000000000000000101)⟩ : S108), t, ?_, ⟨?_, by omega⟩, hm, by omega, by rw [hm]; exact ht, by rw [hm, hw, hlen]; omega, ?_, ?_⟩
 ·intro e
  rw [e] at hlen
  simp at hlen
  have := h2 (by omega)
  omega
 ·rw [← hm, List.take_left]
 ·refine Evt.succ ⟨l.length + (l.length + t.toNat) + 2, fun k hk => ?_⟩
  show full_toBarS.f (k + 1) l false = _
  unfold full_toBarS.f
  rw [if_neg (by decide)]
  simp only [full_toBarS.j0]
  rw [if_neg (by decide), ht]
  simp only [Option.bind_some]
  rw [hw, if_pos (by omega), hn, if_pos (by omega)]
  have z := full_BarS_l0 l.length k l (List.replicate (l.length + t.toNat) z108) 0 (by omega) (by omega) Zbd Zbd (by simp) Zbd
  rw [List.length_replicate] at z
  exact z
 ·refine Evt.succ ⟨l.length + (l.length + t.toNat) + 2, fun k hk => ?_⟩
  show laws_toBarS.f (k + 1) l true = _
  unfold laws_toBarS.f
  rw [if_pos rfl]
  simp only [laws_toBarS.j0]
  by_cases e : l.length = 0
  ·have e2 : l = [] := List.length_eq_zero_iff.mp e
   subst e2
   rfl
  ·have e3 : ((l.length : Int) == 0) = false := by rw [beq_eq_false_iff_ne]; omega
   rw [e3, if_neg (by decide), ht]
   simp only [Option.bind_some]
   rw [hw, if_pos (by omega), hn, if_pos (by omega)]
   exact to_BarS_l0 l.length k l (List.replicate (l.length + t.toNat) z108) 0 (by omega) (by omega) Zbd Zbd (by simp) Zbd
theorem eq_BarS_l0 (d : Nat) : ∀ (k : Nat) (xs : List S108) (i : Nat), xs.length - i = d → i ≤ xs.length → xs.length ≤ 4000000 → d < k → laws_eqBarS.l0 k xs xs (i : Int) = some true := by
 induction d with
 | zero =>
  intro k xs i hd h1 h2 hk
  obtain ⟨k, rfl⟩ : ∃ m, k = m + 1 := ⟨k - 1, by omega⟩
  simp only [laws_eqBarS.l0]; rw [if_neg (by omega)]
 | succ d ih =>
  intro k xs i hd h1 h2 hk
  obtain ⟨k, rfl⟩ : ∃ m, k = m + 1 := ⟨k - 1, by omega⟩
  have hr := ih k xs (i + 1) (by omega) (by omega) h2 (by omega)
  simp only [laws_eqBarS.l0, laws_eqBar.f, if_true, Option.bind_some]
  rw [if_pos (by omega), if_pos (by omega), if_pos (by omega), w64 (by omega)]
  exact hr
theorem eq_BarS (xs : List S108) (h : xs.length ≤ 4000000) : Evt (fun k => laws_eqBarS.f k xs xs = some true) := by
 refine ⟨xs.length + 1, fun k hk => ?_⟩
 show laws_eqBarS.f k xs xs = _
 unfold laws_eqBarS.f
 rw [if_pos rfl]
 exact eq_BarS_l0 xs.length k xs 0 (by omega) (by omega) h (by omega)
theorem sz_BarS (l : List S110) (a : Int) (h0 : 0 ≤ a) (h1 : a ≤ 1000000) (hl : l.length ≤ maxLen) :
  (l.length ≤ a ∧ laws_szBarS.f l a = some (a - l.length)) ∨ laws_szBarS.f l a = some (-1) := by
 unfold maxLen at hl
 unfold laws_szBarS.f
 rw [w64 (by omega)]
 by_cases h : a - (l.length : Int) < 0
 ·rw [if_pos h]
  exact .inr rfl
 ·rw [if_neg h]
  exact .inl ⟨by omega, rfl⟩
def seq_BarS : Nat → Int → List S108
 | 0, _ => []
 | d + 1, c => (⟨c, c + 1⟩ : S108) :: seq_BarS d (c + 2)
theorem mark_BarS_l0 (d : Nat) : ∀ (k : Nat) (xs : List S108) (c : Int) (i : Nat), xs.length - i = d → i ≤ xs.length → xs.length ≤ 4000000 → 0 ≤ c → c ≤ 1000000000 - 2 * (xs.length - i : Nat) → d < k →
  laws_markBarS.l0 k xs c (i : Int) = some (c + 2 * d, xs.take i ++ seq_BarS d c) := by
 induction d with
 | zero =>
  intro k xs c i hd h1 h2 h3 h4 hk
  obtain ⟨k, rfl⟩ : ∃ m, k = m + 1 := ⟨k - 1, by omega⟩
  simp only [laws_markBarS.l0, seq_BarS]
  rw [if_neg (by omega), List.take_of_length_le (by omega), List.append_nil]
  congr 2; omega
 | succ d ih =>
  intro k xs c i hd h1 h2 h3 h4 hk
  obtain ⟨k, rfl⟩ : ∃ m, k = m + 1 := ⟨k - 1, by omega⟩
  have hr := ih k (xs.set i (⟨c, c + 1⟩ : S108)) (c + 2) (i + 1) Zbc Zbc Zbc (by omega) Zbc (by omega)
  rw [set_take_app _ _ _ _ (by omega)] at hr
  have e : c + 2 * ((d + 1 : Nat) : Int) = c + 2 + 2 * (d : Int) := by omega
  rw [e]
  show _ = some (c + 2 + 2 * (d : Int), xs.take i ++ (⟨c, c + 1⟩ : S108) :: seq_BarS d (c + 2))
  rw [← hr]
  simp only [laws_markBarS.l0, Option.bind_some]
  rw [if_pos (by omega), if_pos (by omega)]
  have w1 : wrap64 (c + 1) = c + 1 := by rw [w64 (by omega)]
  have w2 : wrap64 (c + 1 + 1) = c + 2 := by rw [w64 (by omega)]; omega
  rw [w1, w2, w64 (n := (i : Int) + 1) (by omega)]
  simp only [Int.toNat_natCast]
  have rs : ∀ v : S108, rd_T108 (xs.set i v) (i : Int) = v := fun v => by unfold rd_T108; rw [Int.toNat_natCast, getD_set _ _ _ _ (by omega)]
  simp only [set_set, rs]
  rfl
theorem mark_BarS (xs : List S108) (c : Int) (hx : xs.length ≤ 4000000) (h0 : 0 ≤ c) (h1 : c ≤ 900000000) : Evt (fun k => laws_markBarS.f k xs c = some (c + 2 * (xs.length : Int), seq_BarS xs.length c)) := by
 refine ⟨xs.length + 1, fun k hk => ?_⟩
 show laws_markBarS.f k xs c = _
 unfold laws_markBarS.f
 exact mark_BarS_l0 xs.length k xs c 0 (by omega) (by omega) hx h0 (by omega) (by omega)
end Go.Proofs.Ytnlbaflbhicooaa.F
namespace Go.Proofs.Ytnlbaflbhicooaa.F
open Go.RowKit Go.Proofs.YtnlbaflbhicooaaW.PrintWords Go.Proofs.YtnlbaflbhicooaaW.PrintLast Go.Proofs.YtnlbaflbhicooaaW.PrintMore
set_option linter.unusedVariables false
set_option linter.unusedSimpArgs false
theorem w64c0 (c : Int) (h0 : 0 ≤ c) (h1 : c ≤ 1000000000) : wrap64 (c + 1) = c + 1 := w64 (by omega)
theorem w64c (c j m : Int) (h0 : 0 ≤ c) (h1 : c ≤ 1000000000) (hj : 0 ≤ j ∧ j ≤ 100) (e : m = j + 1) : wrap64 (c + j + 1) = c + m := by
 subst e
 rw [w64 (by omega), Int.add_assoc]
theorem digit_size (n : Int) : (strOfNums (([(wrap64 (48 + Int.tmod n 10)) % 256] : List Int))).size = 1 := by rfl
theorem mtext_l0 : ∀ (k : Nat) (c : Int) (out : ByteArray), 0 ≤ c → c < 10 ^ k → c ≤ 1000000000 → out.size + k ≤ 1000 → ∃ r, laws_markText.l0 (k + 1) c out = some r
 | 0, c, out, h0, h1, h9, h2 => by
  rw [Int.pow_zero] at h1
  simp only [laws_markText.l0]
  rw [if_neg (by omega), if_pos (by omega)]
  exact ⟨_, rfl⟩
 | k + 1, c, out, h0, h1, h9, h2 => by
  by_cases e : c = 0
  ·subst e
   simp only [laws_markText.l0]
   rw [if_neg (by omega), if_pos (by omega)]
   exact ⟨_, rfl⟩
  ·have hd : Int.tdiv c 10 = c / 10 := Int.tdiv_eq_ediv_of_nonneg h0
   rw [Int.pow_succ] at h1
   have h3 : c / 10 < 10 ^ k := by omega
   obtain ⟨r, hr⟩ := mtext_l0 k (c / 10) (strOfNums (([(wrap64 (48 + Int.tmod c 10)) % 256] : List Int)) ++ out) (by omega) h3 (by omega) (by rw [ByteArray.size_append, digit_size]; omega)
   refine ⟨r, ?_⟩
   rw [← hr]
   show laws_markText.l0 (k + 1 + 1) c out = _
   rw [laws_markText.l0]
   rw [if_pos (by omega), Option.bind_some, digit_size, if_pos (by omega), hd, w64 (n := c / 10) (by omega)]
def mtext (c : Int) : ByteArray := (laws_markText.f 40 c).getD ⟨#[]⟩
theorem mtext_eq (c : Int) (h0 : 0 ≤ c) (h1 : c ≤ 1000000000) (k : Nat) (hk : 40 ≤ k) : laws_markText.f k c = some (mtext c) := by
 have h : ∃ r, laws_markText.f 40 c = some r := by
  unfold laws_markText.f
  by_cases e : c ≤ 0
  ·rw [if_pos e]; exact ⟨_, rfl⟩
  ·rw [if_neg e]
   exact mtext_l0 39 c _ h0 (Int.lt_of_le_of_lt h1 (by decide)) h1 (by decide)
 obtain ⟨r, hr⟩ := h
 have e : mtext c = r := by unfold mtext; rw [hr]; rfl
 rw [e]
 obtain ⟨d, rfl⟩ : ∃ d, k = 40 + d := ⟨k - 40, by omega⟩
 clear hk
 induction d with
 | zero => exact hr
 | succ d ih => exact laws_markText.mono c (40 + d) r ih
end Go.Proofs.Ytnlbaflbhicooaa.F
namespace Go.Proofs.Ytnlbaflbhicooaa.F
open Go.RowKit Go.Proofs.YtnlbaflbhicooaaW.PrintWords Go.Proofs.YtnlbaflbhicooaaW.PrintLast Go.Proofs.YtnlbaflbhicooaaW.PrintMore
set_option linter.unusedVariables false
set_option linter.unusedSimpArgs false
def conv_ArticleS (x : S105) : S92 := ⟨x.f0, x.f1, x.f2, x.f3, x.f4, x.f5, x.f6, x.f7, x.f8⟩
theorem full_ArticleS_l1 (d : Nat) : ∀ (k : Nat) (x0 : List S105) (x5 : List S92) (i : Nat), x5.length - i = d → x0.length ≤ i → i ≤ x5.length → x5.length ≤ 4000000 → d < k →
  full_toArticleS.l1 k x0 x5 (i : Int) = some (x5.take i ++ List.replicate d (⟨(⟨#[126, 115, 112, 97, 114, 101, 126]⟩ : ByteArray), (-7000000000000000101), (-7000000000000000101), (-7000000000000000101), (-7000000000000000101), (-7000000000000000101), (-7000000000000000101), (-7000000000000000101), (-7000000000000000101)⟩ : S92)) := by
 induction d with
 | zero =>
  intro k x0 x5 i hd h1 h2 h3 hk
  obtain ⟨k, rfl⟩ : ∃ m, k = m + 1 := ⟨k - 1, by omega⟩
  simp only [full_toArticleS.l1]
  rw [if_neg (by omega), if_pos (by omega), if_pos (by omega), List.take_of_length_le (by omega)]
  simp
 | succ d ih =>
  intro k x0 x5 i hd h1 h2 h3 hk
  obtain ⟨k, rfl⟩ : ∃ m, k = m + 1 := ⟨k - 1, by omega⟩
  have hr := ih k x0 (x5.set i (⟨(⟨#[126, 115, 112, 97, 114, 101, 126]⟩ : ByteArray), (-7000000000000000101), (-7000000000000000101), (-7000000000000000101), (-7000000000000000101), (-7000000000000000101), (-7000000000000000101), (-7000000000000000101), (-7000000000000000101)⟩ : S92)) (i + 1) Zbc (by omega) Zbc Zbc (by omega)
  rw [take_set_snoc _ _ _ (by omega), List.append_assoc, List.singleton_append, ← List.replicate_succ] at hr
  rw [← hr]
  simp only [full_toArticleS.l1, laws_fillerArticle.f, Option.bind_some]
  rw [if_pos (by omega)]
  rw [if_pos (by omega), w64 (by omega)]
  rfl
theorem full_ArticleS_l0 (d : Nat) : ∀ (k : Nat) (x0 : List S105) (x5 : List S92) (i : Nat), x0.length - i = d → i ≤ x0.length → x0.length ≤ x5.length → x5.length ≤ 4000000 → x5.take i = (x0.take i).map conv_ArticleS → d + x5.length + 1 < k →
  full_toArticleS.l0 k x0 x5 (i : Int) = some (x0.map conv_ArticleS ++ List.replicate (x5.length - x0.length) (⟨(⟨#[126, 115, 112, 97, 114, 101, 126]⟩ : ByteArray), (-7000000000000000101), (-7000000000000000101), (-7000000000000000101), (-7000000000000000101), (-7000000000000000101), (-7000000000000000101), (-7000000000000000101), (-7000000000000000101)⟩ : S92)) := by
 induction d with
 | zero =>
  intro k x0 x5 i hd h1 h2 h3 h4 hk
  obtain ⟨k, rfl⟩ : ∃ m, k = m + 1 := ⟨k - 1, by omega⟩
  simp only [full_toArticleS.l0]
  rw [if_neg (by omega), full_ArticleS_l1 (x5.length - x0.length) k x0 x5 x0.length rfl (Nat.le_refl _) h2 h3 (by omega)]
  have e : i = x0.length := by omega
  subst e
  rw [h4, List.take_length]
 | succ d ih =>
  intro k x0 x5 i hd h1 h2 h3 h4 hk
  obtain ⟨k, rfl⟩ : ∃ m, k = m + 1 := ⟨k - 1, by omega⟩
  have hi : i < x0.length := by omega
  have h5 : (x5.set i (conv_ArticleS x0[i])).take (i + 1) = (x0.take (i + 1)).map conv_ArticleS := by
   rw [take_set_snoc _ _ _ (by omega), h4, List.take_succ_eq_append_getElem hi, List.map_append]; rfl
  have hr := ih k x0 (x5.set i (conv_ArticleS x0[i])) (i + 1) (by omega) (by omega) Zbc Zbc h5 Zbc
  rw [List.length_set] at hr
  rw [← hr]
  simp only [full_toArticleS.l0, laws_toArticle.f, Option.bind_some]
  rw [if_pos (by omega), if_pos (by omega)]
  rw [if_pos (by omega), w64 (by omega), rd_T105, getD_at _ _ _ hi]
  rfl
theorem to_ArticleS_l1 (d : Nat) : ∀ (k : Nat) (x0 : List S105) (x5 : List S92) (i : Nat), x5.length - i = d → x0.length ≤ i → i ≤ x5.length → x5.length ≤ 4000000 → d < k →
  laws_toArticleS.l1 k x0 x5 (i : Int) = some (x5.take x0.length) := by
 induction d with
 | zero =>
  intro k x0 x5 i hd h1 h2 h3 hk
  obtain ⟨k, rfl⟩ : ∃ m, k = m + 1 := ⟨k - 1, by omega⟩
  simp only [laws_toArticleS.l1]; rw [if_neg (by omega), if_pos (by omega), if_pos (by omega), Int.toNat_natCast]
 | succ d ih =>
  intro k x0 x5 i hd h1 h2 h3 hk
  obtain ⟨k, rfl⟩ : ∃ m, k = m + 1 := ⟨k - 1, by omega⟩
  have hr := ih k x0 (x5.set i (⟨(⟨#[126, 115, 112, 97, 114, 101, 126]⟩ : ByteArray), (-7000000000000000101), (-7000000000000000101), (-7000000000000000101), (-7000000000000000101), (-7000000000000000101), (-7000000000000000101), (-7000000000000000101), (-7000000000000000101)⟩ : S92)) (i + 1) Zbc (by omega) Zbc Zbc (by omega)
  rw [take_set_ge _ _ _ _ h1] at hr
  rw [← hr]
  simp only [laws_toArticleS.l1, laws_fillerArticle.f, Option.bind_some]
  rw [if_pos (by omega)]
  rw [if_pos (by omega), w64 (by omega)]
  rfl
theorem to_ArticleS_l0 (d : Nat) : ∀ (k : Nat) (x0 : List S105) (x5 : List S92) (i : Nat), x0.length - i = d → i ≤ x0.length → x0.length ≤ x5.length → x5.length ≤ 4000000 → x5.take i = (x0.take i).map conv_ArticleS → d + x5.length + 1 < k →
  laws_toArticleS.l0 k x0 x5 (i : Int) = some (x0.map conv_ArticleS) := by
 induction d with
 | zero =>
  intro k x0 x5 i hd h1 h2 h3 h4 hk
  obtain ⟨k, rfl⟩ : ∃ m, k = m + 1 := ⟨k - 1, by omega⟩
  simp only [laws_toArticleS.l0]
  rw [if_neg (by omega), to_ArticleS_l1 (x5.length - x0.length) k x0 x5 x0.length rfl (Nat.le_refl _) h2 h3 (by omega)]
  have e : i = x0.length := by omega
  subst e
  rw [h4, List.take_length]
 | succ d ih =>
  intro k x0 x5 i hd h1 h2 h3 h4 hk
  obtain ⟨k, rfl⟩ : ∃ m, k = m + 1 := ⟨k - 1, by omega⟩
  have hi : i < x0.length := by omega
  have h5 : (x5.set i (conv_ArticleS x0[i])).take (i + 1) = (x0.take (i + 1)).map conv_ArticleS := by
   rw [take_set_snoc _ _ _ (by omega), h4, List.take_succ_eq_append_getElem hi, List.map_append]; rfl
  have hr := ih k x0 (x5.set i (conv_ArticleS x0[i])) (i + 1) (by omega) (by omega) Zbc Zbc h5 Zbc
  rw [← hr]
  simp only [laws_toArticleS.l0, laws_toArticle.f, Option.bind_some]
  rw [if_pos (by omega), if_pos (by omega)]
  rw [if_pos (by omega), w64 (by omega), rd_T105, getD_at _ _ _ hi]
  rfl
theorem to_ArticleS (l : List S105) (hl : l.length ≤ 1000000) : ∃ (L : List S92) (t : Int), L ≠ [] ∧ (l.map conv_ArticleS = L.take l.length ∧ l.length ≤ L.length) ∧ (l.map conv_ArticleS).length = l.length ∧ L.length ≤ 2000001 ∧
  laws_roomBehind.f ((l.map conv_ArticleS).length : Int) = some t ∧ wrap64 (((l.map conv_ArticleS).length : Int) + t) = (L.length : Int) ∧
  Evt (fun k => full_toArticleS.f k l false = some L) ∧ Evt (fun k => laws_toArticleS.f k l true = some (l.map conv_ArticleS)) := by
 obtain ⟨t, ht, h0, h1, h2⟩ := room_some l.length
 have hw : wrap64 ((l.length : Int) + t) = (l.length : Int) + t := w64 (by omega)
 have hn : ((l.length : Int) + t).toNat = l.length + t.toNat := by omega
 have hm : (l.map conv_ArticleS).length = l.length := List.length_map _
 have hlen : (l.map conv_ArticleS ++ List.replicate (l.length + t.toNat - l.length) (⟨(⟨#[126, 115, 112, 97, 114, 101, 126]⟩ : ByteArray), (-7000000000000000101), (-7000000000000000101), (-7000000000000000101), (-7000000000000000101), (-7000000000000000101), (-7000000000000000101), (-7000000000000000101), (-7000000000000000101)⟩ : S92)).length = l.length + t.toNat := by rw [List.length_append, List.length_replicate, hm]; omega
 refine ⟨l.map conv_ArticleS ++ List.replicate (l.length + t.toNat - l.length) (⟨(⟨#[126, 115, 112, 97, 114, 101, 126]⟩ : ByteArray), (-7000000000000000101), (-7000000000000000101), (-7000000000000000101), (-7000000000000000101), (-7000000000000000101), (-7000000000000000101), (-7000000000000000101), (-7000000000000000101)⟩ : S92), t, ?_, ⟨?_, by omega⟩, hm, by omega, by rw [hm]; exact ht, by rw [hm, hw, hlen]; omega, ?_, ?_⟩
 ·intro e
  rw [e] at hlen
  simp at hlen
  have := h2 (by omega)
  omega
 ·rw [← hm, List.take_left]
 ·refine Evt.succ ⟨l.length + (l.length + t.toNat) + 2, fun k hk => ?_⟩
  show full_toArticleS.f (k + 1) l false = _
  unfold full_toArticleS.f
  rw [if_neg (by decide)]
  simp only [full_toArticleS.j0]
  rw [if_neg (by decide), ht]
  simp only [Option.bind_some]
  rw [hw, if_pos (by omega), hn, if_pos (by omega)]
  have z := full_ArticleS_l0 l.length k l (List.replicate (l.length + t.toNat) z92) 0 (by omega) (by omega) Zbd Zbd (by simp) Zbd
  rw [List.length_replicate] at z
  exact z
 ·refine Evt.succ ⟨l.length + (l.length + t.toNat) + 2, fun k hk => ?_⟩
  show laws_toArticleS.f (k + 1) l true = _
  unfold laws_toArticleS.f
  rw [if_pos rfl]
  simp only [laws_toArticleS.j0]
  by_cases e : l.length = 0
  ·have e2 : l = [] := List.length_eq_zero_iff.mp e
   subst e2
   rfl
  ·have e3 : ((l.length : Int) == 0) = false := by rw [beq_eq_false_iff_ne]; omega
   rw [e3, if_neg (by decide), ht]
   simp only [Option.bind_some]
   rw [hw, if_pos (by omega), hn, if_pos (by omega)]
   exact to_ArticleS_l0 l.length k l (List.replicate (l.length + t.toNat) z92) 0 (by omega) (by omega) Zbd Zbd (by simp) Zbd
theorem eq_ArticleS_l0 (d : Nat) : ∀ (k : Nat) (xs : List S92) (i : Nat), xs.length - i = d → i ≤ xs.length → xs.length ≤ 4000000 → d < k → laws_eqArticleS.l0 k xs xs (i : Int) = some true := by
 induction d with
 | zero =>
  intro k xs i hd h1 h2 hk
  obtain ⟨k, rfl⟩ : ∃ m, k = m + 1 := ⟨k - 1, by omega⟩
  simp only [laws_eqArticleS.l0]; rw [if_neg (by omega)]
 | succ d ih =>
  intro k xs i hd h1 h2 hk
  obtain ⟨k, rfl⟩ : ∃ m, k = m + 1 := ⟨k - 1, by omega⟩
  have hr := ih k xs (i + 1) (by omega) (by omega) h2 (by omega)
  simp only [laws_eqArticleS.l0, laws_eqArticle.f, if_true, Option.bind_some]
  rw [if_pos (by omega), if_pos (by omega), if_pos (by omega), w64 (by omega)]
  exact hr
theorem eq_ArticleS (xs : List S92) (h : xs.length ≤ 4000000) : Evt (fun k => laws_eqArticleS.f k xs xs = some true) := by
 refine ⟨xs.length + 1, fun k hk => ?_⟩
 show laws_eqArticleS.f k xs xs = _
 unfold laws_eqArticleS.f
 rw [if_pos rfl]
 exact eq_ArticleS_l0 xs.length k xs 0 (by omega) (by omega) h (by omega)
theorem sz_ArticleS_l0 (d : Nat) : ∀ (k : Nat) (l : List S105) (a : Int) (i : Nat), l.length - i = d → i ≤ l.length → l.length ≤ 1000000 → 0 ≤ a → a ≤ 1000000 → (∀ x ∈ l, x.f0.size ≤ maxLen) → d < k →
  ∃ s, laws_szArticleS.l0 k l a (i : Int) = some s ∧ (∀ m, k ≤ m → laws_szArticleS.l0 m l a (i : Int) = some s) ∧ (s < 0 ∨ (0 ≤ s ∧ s ≤ a ∧ ∀ j, i ≤ j → (h : j < l.length) → (l[j]).f0.size ≤ 1000000)) := by
 induction d with
 | zero =>
  intro k l a i hd h1 h2 h3 h4 hp hk
  have e : ∀ m, k ≤ m → laws_szArticleS.l0 m l a (i : Int) = some a := fun m hm => by
   obtain ⟨m, rfl⟩ : ∃ q, m = q + 1 := ⟨m - 1, by omega⟩
   simp only [laws_szArticleS.l0]
   rw [if_neg (by omega)]
  exact ⟨a, e k (Nat.le_refl _), e, .inr ⟨h3, Int.le_refl _, fun j h5 h6 => absurd h6 (by omega)⟩⟩
 | succ d ih =>
  intro k l a i hd h1 h2 h3 h4 hp hk
  have hi : i < l.length := by omega
  have hs := hp l[i] (List.getElem_mem hi)
  have hm : maxLen = 9223372036854775807 := rfl
  have er : rd_T105 l (i : Int) = l[i] := by unfold rd_T105; exact getD_at _ _ _ hi
  by_cases c : a - ((l[i]).f0.size : Int) < 0
  ·have e : ∀ m, k ≤ m → laws_szArticleS.l0 m l a (i : Int) = some (-1) := fun m hm => by
    obtain ⟨m, rfl⟩ : ∃ q, m = q + 1 := ⟨m - 1, by omega⟩
    simp only [laws_szArticleS.l0, laws_szArticle.f]
    rw [if_pos (by omega), if_pos (by omega), er, w64 (n := a - ((l[i]).f0.size : Int)) (by omega), if_pos c]
    rfl
   exact ⟨-1, e k (Nat.le_refl _), e, .inl (by omega)⟩
  ·obtain ⟨s, _, e2, e3⟩ := ih (k - 1) l (a - ((l[i]).f0.size : Int)) (i + 1) (by omega) (by omega) h2 (by omega) (by omega) hp (by omega)
   have e : ∀ m, k ≤ m → laws_szArticleS.l0 m l a (i : Int) = some s := fun m hm => by
    obtain ⟨m, rfl⟩ : ∃ q, m = q + 1 := ⟨m - 1, by omega⟩
    simp only [laws_szArticleS.l0, laws_szArticle.f]
    rw [if_pos (by omega), if_pos (by omega), er, w64 (n := a - ((l[i]).f0.size : Int)) (by omega), if_neg c, Option.bind_some, if_neg c, w64 (n := (i : Int) + 1) (by omega)]
    exact e2 m (by omega)
   refine ⟨s, e k (Nat.le_refl _), e, ?_⟩
   rcases e3 with e3 | ⟨e3, e4, e5⟩
   ·exact .inl e3
   ·refine .inr ⟨e3, by omega, fun j h5 h6 => ?_⟩
    by_cases q : j = i
    ·subst q; omega
    ·exact e5 j (by omega) h6
theorem sz_ArticleS (l : List S105) (a : Int) (h0 : 0 ≤ a) (h1 : a ≤ 1000000) (hl : l.length ≤ maxLen) (hp : ∀ x ∈ l, x.f0.size ≤ maxLen) :
  ∃ s, Evt (fun k => laws_szArticleS.f k l a = some s) ∧ (s < 0 ∨ (0 ≤ s ∧ s ≤ a ∧ l.length ≤ 1000000 ∧ ∀ x ∈ l, x.f0.size ≤ 1000000)) := by
 have hm : maxLen = 9223372036854775807 := rfl
 by_cases h : a - (l.length : Int) < 0
 ·refine ⟨-1, Evt.of fun k => ?_, .inl (by omega)⟩
  unfold laws_szArticleS.f
  rw [w64 (by omega), if_pos h]
 ·obtain ⟨s, _, e2, e3⟩ := sz_ArticleS_l0 l.length (l.length + 1) l (a - (l.length : Int)) 0 (by omega) (by omega) (by omega) (by omega) (by omega) hp (by omega)
  refine ⟨s, ⟨l.length + 1, fun k hk => ?_⟩, ?_⟩
  ·show laws_szArticleS.f k l a = _
   unfold laws_szArticleS.f
   rw [w64 (by omega), if_neg h]
   exact e2 k hk
  ·rcases e3 with e3 | ⟨e3, e4, e5⟩
   ·exact .inl e3
   ·refine .inr ⟨e3, by omega, by omega, fun x hx => ?_⟩
    obtain ⟨j, hj, rfl⟩ := List.getElem_of_mem hx
    exact e5 j (by omega) hj
def seq_ArticleS : Nat → Int → List S92
 | 0, _ => []
 | d + 1, c => (⟨mtext (c), c + 1, c + 2, c + 3, c + 4, c + 5, c + 6, c + 7, c + 8⟩ : S92) :: seq_ArticleS d (c + 9)
theorem mark_ArticleS_l0 (d : Nat) : ∀ (k : Nat) (xs : List S92) (c : Int) (i : Nat), xs.length - i = d → i ≤ xs.length → xs.length ≤ 4000000 → 0 ≤ c → c ≤ 1000000000 - 9 * (xs.length - i : Nat) → d + 40 < k →
  laws_markArticleS.l0 k xs c (i : Int) = some (c + 9 * d, xs.take i ++ seq_ArticleS d c) := by
 induction d with
 | zero =>
  intro k xs c i hd h1 h2 h3 h4 hk
  obtain ⟨k, rfl⟩ : ∃ m, k = m + 1 := ⟨k - 1, by omega⟩
  simp only [laws_markArticleS.l0, seq_ArticleS]
  rw [if_neg (by omega), List.take_of_length_le (by omega), List.append_nil]
  congr 2; omega
 | succ d ih =>
  intro k xs c i hd h1 h2 h3 h4 hk
  obtain ⟨k, rfl⟩ : ∃ m, k = m + 1 := ⟨k - 1, by omega⟩
  have hr := ih k (xs.set i (⟨mtext (c), c + 1, c + 2, c + 3, c + 4, c + 5, c + 6, c + 7, c + 8⟩ : S92)) (c + 9) (i + 1) Zbc Zbc Zbc (by omega) Zbc (by omega)
  rw [set_take_app _ _ _ _ (by omega)] at hr
  have e : c + 9 * ((d + 1 : Nat) : Int) = c + 9 + 9 * (d : Int) := by omega
  rw [e]
  show _ = some (c + 9 + 9 * (d : Int), xs.take i ++ (⟨mtext (c), c + 1, c + 2, c + 3, c + 4, c + 5, c + 6, c + 7, c + 8⟩ : S92) :: seq_ArticleS d (c + 9))
  rw [← hr]
  have hc0 : 0 ≤ c := by omega
  have hc1 : c ≤ 1000000000 := by omega
  have mt : laws_markText.f k (c) = some (mtext (c)) := mtext_eq _ (by omega) (by omega) k (by omega)
  have g2 : (0 : Int) ≤ (i : Int) := by omega
  have wi : ∀ _ : Unit, wrap64 ((i : Int) + 1) = (i : Int) + 1 := fun _ => w64 (by omega)
  have ei : ((i + 1 : Nat) : Int) = (i : Int) + 1 := by omega
  have g1 : (i : Int) < (xs.length : Int) := by omega
  have rs : ∀ v : S92, rd_T92 (xs.set i v) (i : Int) = v := fun v => by unfold rd_T92; rw [Int.toNat_natCast, getD_set _ _ _ _ (by omega)]
  have w1 : wrap64 (c + 1) = c + 1 := w64c0 c hc0 hc1
  have w2 : wrap64 (c + 1 + 1) = c + 2 := w64c c 1 2 hc0 hc1 (by decide) rfl
  have w3 : wrap64 (c + 2 + 1) = c + 3 := w64c c 2 3 hc0 hc1 (by decide) rfl
  have w4 : wrap64 (c + 3 + 1) = c + 4 := w64c c 3 4 hc0 hc1 (by decide) rfl
  have w5 : wrap64 (c + 4 + 1) = c + 5 := w64c c 4 5 hc0 hc1 (by decide) rfl
  have w6 : wrap64 (c + 5 + 1) = c + 6 := w64c c 5 6 hc0 hc1 (by decide) rfl
  have w7 : wrap64 (c + 6 + 1) = c + 7 := w64c c 6 7 hc0 hc1 (by decide) rfl
  have w8 : wrap64 (c + 7 + 1) = c + 8 := w64c c 7 8 hc0 hc1 (by decide) rfl
  have w9 : wrap64 (c + 8 + 1) = c + 9 := w64c c 8 9 hc0 hc1 (by decide) rfl
  simp only [laws_markArticleS.l0, Option.bind_some, if_pos g1, if_pos g2, w1, w2, w3, w4, w5, w6, w7, w8, w9, mt, wi (), Int.toNat_natCast, set_set, rs, ei]
theorem mark_ArticleS (xs : List S92) (c : Int) (hx : xs.length ≤ 4000000) (h0 : 0 ≤ c) (h1 : c ≤ 900000000) : Evt (fun k => laws_markArticleS.f k xs c = some (c + 9 * (xs.length : Int), seq_ArticleS xs.length c)) := by
 refine ⟨xs.length + 41, fun k hk => ?_⟩
 show laws_markArticleS.f k xs c = _
 unfold laws_markArticleS.f
 exact mark_ArticleS_l0 xs.length k xs c 0 (by omega) (by omega) hx h0 (by omega) (by omega)
end Go.Proofs.Ytnlbaflbhicooaa.F
namespace Go.Proofs.Ytnlbaflbhicooaa.F
open Go.RowKit Go.Proofs.YtnlbaflbhicooaaW.PrintWords Go.Proofs.YtnlbaflbhicooaaW.PrintLast Go.Proofs.YtnlbaflbhicooaaW.PrintMore
set_option linter.unusedVariables false
set_option linter.unusedSimpArgs false
def conv_CueS (x : S40) : S43 := ⟨x.f0, x.f1, x.f2, x.f3⟩
theorem full_CueS_l1 (d : Nat) : ∀ (k : Nat) (x0 : List S40) (x5 : List S43) (i : Nat), x5.length - i = d → x0.length ≤ i → i ≤ x5.length → x5.length ≤ 4000000 → d < k →
  full_toCueS.l1 k x0 x5 (i : Int) = some (x5.take i ++ List.replicate d (⟨(-7000000000000000101), (-7000000000000000101), (⟨#[126, 115, 112, 97, 114, 101, 126]⟩ : ByteArray), (-7000000000000000101)⟩ : S43)) := by
 induction d with
 | zero =>
  intro k x0 x5 i hd h1 h2 h3 hk
  obtain ⟨k, rfl⟩ : ∃ m, k = m + 1 := ⟨k - 1, by omega⟩
  simp only [full_toCueS.l1]
  rw [if_neg (by omega), if_pos (by omega), if_pos (by omega), List.take_of_length_le (by omega)]
  simp
 | succ d ih =>
  intro k x0 x5 i hd h1 h2 h3 hk
  obtain ⟨k, rfl⟩ : ∃ m, k = m + 1 := ⟨k - 1, by omega⟩
  have hr := ih k x0 (x5.set i (⟨(-7000000000000000101), (-7000000000000000101), (⟨#[126, 115, 112, 97, 114, 101, 126]⟩ : ByteArray), (-7000000000000000101)⟩ : S43)) (i + 1) Zbc (by omega) Zbc Zbc (by omega)
  rw [take_set_snoc _ _ _ (by omega), List.append_assoc, List.singleton_append, ← List.replicate_succ] at hr
  rw [← hr]
  simp only [full_toCueS.l1, laws_fillerCue.f, Option.bind_some]
  rw [if_pos (by omega)]
  rw [if_pos (by omega), w64 (by omega)]
  rfl
theorem full_CueS_l0 (d : Nat) : ∀ (k : Nat) (x0 : List S40) (x5 : List S43) (i : Nat), x0.length - i = d → i ≤ x0.length → x0.length ≤ x5.length → x5.length ≤ 4000000 → x5.take i = (x0.take i).map conv_CueS → d + x5.length + 1 < k →
  full_toCueS.l0 k x0 x5 (i : Int) = some (x0.map conv_CueS ++ List.replicate (x5.length - x0.length) (⟨(-7000000000000000101), (-7000000000000000101), (⟨#[126, 115, 112, 97, 114, 101, 126]⟩ : ByteArray), (-7000000000000000101)⟩ : S43)) := by
 induction d with
 | zero =>
  intro k x0 x5 i hd h1 h2 h3 h4 hk
  obtain ⟨k, rfl⟩ : ∃ m, k = m + 1 := ⟨k - 1, by omega⟩
  simp only [full_toCueS.l0]
  rw [if_neg (by omega), full_CueS_l1 (x5.length - x0.length) k x0 x5 x0.length rfl (Nat.le_refl _) h2 h3 (by omega)]
  have e : i = x0.length := by omega
  subst e
  rw [h4, List.take_length]
 | succ d ih =>
  intro k x0 x5 i hd h1 h2 h3 h4 hk
  obtain ⟨k, rfl⟩ : ∃ m, k = m + 1 := ⟨k - 1, by omega⟩
  have hi : i < x0.length := by omega
  have h5 : (x5.set i (conv_CueS x0[i])).take (i + 1) = (x0.take (i + 1)).map conv_CueS := by
   rw [take_set_snoc _ _ _ (by omega), h4, List.take_succ_eq_append_getElem hi, List.map_append]; rfl
  have hr := ih k x0 (x5.set i (conv_CueS x0[i])) (i + 1) (by omega) (by omega) Zbc Zbc h5 Zbc
  rw [List.length_set] at hr
  rw [← hr]
  simp only [full_toCueS.l0, laws_toCue.f, Option.bind_some]
  rw [if_pos (by omega), if_pos (by omega)]
  rw [if_pos (by omega), w64 (by omega), rd_T40, getD_at _ _ _ hi]
  rfl
theorem to_CueS_l1 (d : Nat) : ∀ (k : Nat) (x0 : List S40) (x5 : List S43) (i : Nat), x5.length - i = d → x0.length ≤ i → i ≤ x5.length → x5.length ≤ 4000000 → d < k →
  laws_toCueS.l1 k x0 x5 (i : Int) = some (x5.take x0.length) := by
 induction d with
 | zero =>
  intro k x0 x5 i hd h1 h2 h3 hk
  obtain ⟨k, rfl⟩ : ∃ m, k = m + 1 := ⟨k - 1, by omega⟩
  simp only [laws_toCueS.l1]; rw [if_neg (by omega), if_pos (by omega), if_pos (by omega), Int.toNat_natCast]
 | succ d ih =>
  intro k x0 x5 i hd h1 h2 h3 hk
  obtain ⟨k, rfl⟩ : ∃ m, k = m + 1 := ⟨k - 1, by omega⟩
  have hr := ih k x0 (x5.set i (⟨(-7000000000000000101), (-7000000000000000101), (⟨#[126, 115, 112, 97, 114, 101, 126]⟩ : ByteArray), (-7000000000000000101)⟩ : S43)) (i + 1) Zbc (by omega) Zbc Zbc (by omega)
  rw [take_set_ge _ _ _ _ h1] at hr
  rw [← hr]
  simp only [laws_toCueS.l1, laws_fillerCue.f, Option.bind_some]
  rw [if_pos (by omega)]
  rw [if_pos (by omega), w64 (by omega)]
  rfl
theorem to_CueS_l0 (d : Nat) : ∀ (k : Nat) (x0 : List S40) (x5 : List S43) (i : Nat), x0.length - i = d → i ≤ x0.length → x0.length ≤ x5.length → x5.length ≤ 4000000 → x5.take i = (x0.take i).map conv_CueS → d + x5.length + 1 < k →
  laws_toCueS.l0 k x0 x5 (i : Int) = some (x0.map conv_CueS) := by
 induction d with
 | zero =>
  intro k x0 x5 i hd h1 h2 h3 h4 hk
  obtain ⟨k, rfl⟩ : ∃ m, k = m + 1 := ⟨k - 1, by omega⟩
  simp only [laws_toCueS.l0]
  rw [if_neg (by omega), to_CueS_l1 (x5.length - x0.length) k x0 x5 x0.length rfl (Nat.le_refl _) h2 h3 (by omega)]
  have e : i = x0.length := by omega
  subst e
  rw [h4, List.take_length]
 | succ d ih =>
  intro k x0 x5 i hd h1 h2 h3 h4 hk
  obtain ⟨k, rfl⟩ : ∃ m, k = m + 1 := ⟨k - 1, by omega⟩
  have hi : i < x0.length := by omega
  have h5 : (x5.set i (conv_CueS x0[i])).take (i + 1) = (x0.take (i + 1)).map conv_CueS := by
   rw [take_set_snoc _ _ _ (by omega), h4, List.take_succ_eq_append_getElem hi, List.map_append]; rfl
  have hr := ih k x0 (x5.set i (conv_CueS x0[i])) (i + 1) (by omega) (by omega) Zbc Zbc h5 Zbc
  rw [← hr]
  simp only [laws_toCueS.l0, laws_toCue.f, Option.bind_some]
  rw [if_pos (by omega), if_pos (by omega)]
  rw [if_pos (by omega), w64 (by omega), rd_T40, getD_at _ _ _ hi]
  rfl
theorem to_CueS (l : List S40) (hl : l.length ≤ 1000000) : ∃ (L : List S43) (t : Int), L ≠ [] ∧ (l.map conv_CueS = L.take l.length ∧ l.length ≤ L.length) ∧ (l.map conv_CueS).length = l.length ∧ L.length ≤ 2000001 ∧
  laws_roomBehind.f ((l.map conv_CueS).length : Int) = some t ∧ wrap64 (((l.map conv_CueS).length : Int) + t) = (L.length : Int) ∧
  Evt (fun k => full_toCueS.f k l false = some L) ∧ Evt (fun k => laws_toCueS.f k l true = some (l.map conv_CueS)) := by
 obtain ⟨t, ht, h0, h1, h2⟩ := room_some l.length
 have hw : wrap64 ((l.length : Int) + t) = (l.length : Int) + t := w64 (by omega)
 have hn : ((l.length : Int) + t).toNat = l.length + t.toNat := by omega
 have hm : (l.map conv_CueS).length = l.length := List.length_map _
 have hlen : (l.map conv_CueS ++ List.replicate (l.length + t.toNat - l.length) (⟨(-7000000000000000101), (-7000000000000000101), (⟨#[126, 115, 112, 97, 114, 101, 126]⟩ : ByteArray), (-7000000000000000101)⟩ : S43)).length = l.length + t.toNat := by rw [List.length_append, List.length_replicate, hm]; omega
 refine ⟨l.map conv_CueS ++ List.replicate (l.length + t.toNat - l.length) (⟨(-7000000000000000101), (-7000000000000000101), (⟨#[126, 115, 112, 97, 114, 101, 126]⟩ : ByteArray), (-7000000000000000101)⟩ : S43), t, ?_, ⟨?_, by omega⟩, hm, by omega, by rw [hm]; exact ht, by rw [hm, hw, hlen]; omega, ?_, ?_⟩
 ·intro e
  rw [e] at hlen
  simp at hlen
  have := h2 (by omega)
  omega
 ·rw [← hm, List.take_left]
 ·refine Evt.succ ⟨l.length + (l.length + t.toNat) + 2, fun k hk => ?_⟩
  show full_toCueS.f (k + 1) l false = _
  unfold full_toCueS.f
  rw [if_neg (by decide)]
  simp only [full_toCueS.j0]
  rw [if_neg (by decide), ht]
  simp only [Option.bind_some]
  rw [hw, if_pos (by omega), hn, if_pos (by omega)]
  have z := full_CueS_l0 l.length k l (List.replicate (l.length + t.toNat) z43) 0 (by omega) (by omega) Zbd Zbd (by simp) Zbd
  rw [List.length_replicate] at z
  exact z
 ·refine Evt.succ ⟨l.length + (l.length + t.toNat) + 2, fun k hk => ?_⟩
  show laws_toCueS.f (k + 1) l true = _
  unfold laws_toCueS.f
  rw [if_pos rfl]
  simp only [laws_toCueS.j0]
  by_cases e : l.length = 0
  ·have e2 : l = [] := List.length_eq_zero_iff.mp e
   subst e2
   rfl
  ·have e3 : ((l.length : Int) == 0) = false := by rw [beq_eq_false_iff_ne]; omega
   rw [e3, if_neg (by decide), ht]
   simp only [Option.bind_some]
   rw [hw, if_pos (by omega), hn, if_pos (by omega)]
   exact to_CueS_l0 l.length k l (List.replicate (l.length + t.toNat) z43) 0 (by omega) (by omega) Zbd Zbd (by simp) Zbd
theorem eq_CueS_l0 (d : Nat) : ∀ (k : Nat) (xs : List S43) (i : Nat), xs.length - i = d → i ≤ xs.length → xs.length ≤ 4000000 → d < k → laws_eqCueS.l0 k xs xs (i : Int) = some true := by
 induction d with
 | zero =>
  intro k xs i hd h1 h2 hk
  obtain ⟨k, rfl⟩ : ∃ m, k = m + 1 := ⟨k - 1, by omega⟩
  simp only [laws_eqCueS.l0]; rw [if_neg (by omega)]
 | succ d ih =>
  intro k xs i hd h1 h2 hk
  obtain ⟨k, rfl⟩ : ∃ m, k = m + 1 := ⟨k - 1, by omega⟩
  have hr := ih k xs (i + 1) (by omega) (by omega) h2 (by omega)
  simp only [laws_eqCueS.l0, laws_eqCue.f, if_true, Option.bind_some]
  rw [if_pos (by omega), if_pos (by omega), if_pos (by omega), w64 (by omega)]
  exact hr
theorem eq_CueS (xs : List S43) (h : xs.length ≤ 4000000) : Evt (fun k => laws_eqCueS.f k xs xs = some true) := by
 refine ⟨xs.length + 1, fun k hk => ?_⟩
 show laws_eqCueS.f k xs xs = _
 unfold laws_eqCueS.f
 rw [if_pos rfl]
 exact eq_CueS_l0 xs.length k xs 0 (by omega) (by omega) h (by omega)
theorem sz_CueS_l0 (d : Nat) : ∀ (k : Nat) (l : List S40) (a : Int) (i : Nat), l.length - i = d → i ≤ l.length → l.length ≤ 1000000 → 0 ≤ a → a ≤ 1000000 → (∀ x ∈ l, x.f2.size ≤ maxLen) → d < k →
  ∃ s, laws_szCueS.l0 k l a (i : Int) = some s ∧ (∀ m, k ≤ m → laws_szCueS.l0 m l a (i : Int) = some s) ∧ (s < 0 ∨ (0 ≤ s ∧ s ≤ a ∧ ∀ j, i ≤ j → (h : j < l.length) → (l[j]).f2.size ≤ 1000000)) := by
 induction d with
 | zero =>
  intro k l a i hd h1 h2 h3 h4 hp hk
  have e : ∀ m, k ≤ m → laws_szCueS.l0 m l a (i : Int) = some a := fun m hm => by
   obtain ⟨m, rfl⟩ : ∃ q, m = q + 1 := ⟨m - 1, by omega⟩
   simp only [laws_szCueS.l0]
   rw [if_neg (by omega)]
  exact ⟨a, e k (Nat.le_refl _), e, .inr ⟨h3, Int.le_refl _, fun j h5 h6 => absurd h6 (by omega)⟩⟩
 | succ d ih =>
  intro k l a i hd h1 h2 h3 h4 hp hk
  have hi : i < l.length := by omega
  have hs := hp l[i] (List.getElem_mem hi)
  have hm : maxLen = 9223372036854775807 := rfl
  have er : rd_T40 l (i : Int) = l[i] := by unfold rd_T40; exact getD_at _ _ _ hi
  by_cases c : a - ((l[i]).f2.size : Int) < 0
  ·have e : ∀ m, k ≤ m → laws_szCueS.l0 m l a (i : Int) = some (-1) := fun m hm => by
    obtain ⟨m, rfl⟩ : ∃ q, m = q + 1 := ⟨m - 1, by omega⟩
    simp only [laws_szCueS.l0, laws_szCue.f]
    rw [if_pos (by omega), if_pos (by omega), er, w64 (n := a - ((l[i]).f2.size : Int)) (by omega), if_pos c]
    rfl
   exact ⟨-1, e k (Nat.le_refl _), e, .inl (by omega)⟩
  ·obtain ⟨s, _, e2, e3⟩ := ih (k - 1) l (a - ((l[i]).f2.size : Int)) (i + 1) (by omega) (by omega) h2 (by omega) (by omega) hp (by omega)
   have e : ∀ m, k ≤ m → laws_szCueS.l0 m l a (i : Int) = some s := fun m hm => by
    obtain ⟨m, rfl⟩ : ∃ q, m = q + 1 := ⟨m - 1, by omega⟩
    simp only [laws_szCueS.l0, laws_szCue.f]
    rw [if_pos (by omega), if_pos (by omega), er, w64 (n := a - ((l[i]).f2.size : Int)) (by omega), if_neg c, Option.bind_some, if_neg c, w64 (n := (i : Int) + 1) (by omega)]
    exact e2 m (by omega)
   refine ⟨s, e k (Nat.le_refl _), e, ?_⟩
   rcases e3 with e3 | ⟨e3, e4, e5⟩
   ·exact .inl e3
   ·refine .inr ⟨e3, by omega, fun j h5 h6 => ?_⟩
    by_cases q : j = i
    ·subst q; omega
    ·exact e5 j (by omega) h6
theorem sz_CueS (l : List S40) (a : Int) (h0 : 0 ≤ a) (h1 : a ≤ 1000000) (hl : l.length ≤ maxLen) (hp : ∀ x ∈ l, x.f2.size ≤ maxLen) :
  ∃ s, Evt (fun k => laws_szCueS.f k l a = some s) ∧ (s < 0 ∨ (0 ≤ s ∧ s ≤ a ∧ l.length ≤ 1000000 ∧ ∀ x ∈ l, x.f2.size ≤ 1000000)) := by
 have hm : maxLen = 9223372036854775807 := rfl
 by_cases h : a - (l.length : Int) < 0
 ·refine ⟨-1, Evt.of fun k => ?_, .inl (by omega)⟩
  unfold laws_szCueS.f
  rw [w64 (by omega), if_pos h]
 ·obtain ⟨s, _, e2, e3⟩ := sz_CueS_l0 l.length (l.length + 1) l (a - (l.length : Int)) 0 (by omega) (by omega) (by omega) (by omega) (by omega) hp (by omega)
  refine ⟨s, ⟨l.length + 1, fun k hk => ?_⟩, ?_⟩
  ·show laws_szCueS.f k l a = _
   unfold laws_szCueS.f
   rw [w64 (by omega), if_neg h]
   exact e2 k hk
  ·rcases e3 with e3 | ⟨e3, e4, e5⟩
   ·exact .inl e3
   ·refine .inr ⟨e3, by omega, by omega, fun x hx => ?_⟩
    obtain ⟨j, hj, rfl⟩ := List.getElem_of_mem hx
    exact e5 j (by omega) hj
def seq_CueS : Nat → Int → List S43
 | 0, _ => []
 | d + 1, c => (⟨c, c + 1, mtext (c + 2), c + 3⟩ : S43) :: seq_CueS d (c + 4)
theorem mark_CueS_l0 (d : Nat) : ∀ (k : Nat) (xs : List S43) (c : Int) (i : Nat), xs.length - i = d → i ≤ xs.length → xs.length ≤ 4000000 → 0 ≤ c → c ≤ 1000000000 - 4 * (xs.length - i : Nat) → d + 40 < k →
  laws_markCueS.l0 k xs c (i : Int) = some (c + 4 * d, xs.take i ++ seq_CueS d c) := by
 induction d with
 | zero =>
  intro k xs c i hd h1 h2 h3 h4 hk
  obtain ⟨k, rfl⟩ : ∃ m, k = m + 1 := ⟨k - 1, by omega⟩
  simp only [laws_markCueS.l0, seq_CueS]
  rw [if_neg (by omega), List.take_of_length_le (by omega), List.append_nil]
  congr 2; omega
 | succ d ih =>
  intro k xs c i hd h1 h2 h3 h4 hk
  obtain ⟨k, rfl⟩ : ∃ m, k = m + 1 := ⟨k - 1, by omega⟩
  have hr := ih k (xs.set i (⟨c, c + 1, mtext (c + 2), c + 3⟩ : S43)) (c + 4) (i + 1) Zbc Zbc Zbc (by omega) Zbc (by omega)
  rw [set_take_app _ _ _ _ (by omega)] at hr
  have e : c + 4 * ((d + 1 : Nat) : Int) = c + 4 + 4 * (d : Int) := by omega
  rw [e]
  show _ = some (c + 4 + 4 * (d : Int), xs.take i ++ (⟨c, c + 1, mtext (c + 2), c + 3⟩ : S43) :: seq_CueS d (c + 4))
  rw [← hr]
  have hc0 : 0 ≤ c := by omega
  have hc1 : c ≤ 1000000000 := by omega
  have mt : laws_markText.f k (c + 2) = some (mtext (c + 2)) := mtext_eq _ (by omega) (by omega) k (by omega)
  have g2 : (0 : Int) ≤ (i : Int) := by omega
  have wi : ∀ _ : Unit, wrap64 ((i : Int) + 1) = (i : Int) + 1 := fun _ => w64 (by omega)
  have ei : ((i + 1 : Nat) : Int) = (i : Int) + 1 := by omega
  have g1 : (i : Int) < (xs.length : Int) := by omega
  have rs : ∀ v : S43, rd_T43 (xs.set i v) (i : Int) = v := fun v => by unfold rd_T43; rw [Int.toNat_natCast, getD_set _ _ _ _ (by omega)]
  have w1 : wrap64 (c + 1) = c + 1 := w64c0 c hc0 hc1
  have w2 : wrap64 (c + 1 + 1) = c + 2 := w64c c 1 2 hc0 hc1 (by decide) rfl
  have w3 : wrap64 (c + 2 + 1) = c + 3 := w64c c 2 3 hc0 hc1 (by decide) rfl
  have w4 : wrap64 (c + 3 + 1) = c + 4 := w64c c 3 4 hc0 hc1 (by decide) rfl
  simp only [laws_markCueS.l0, Option.bind_some, if_pos g1, if_pos g2, w1, w2, w3, w4, mt, wi (), Int.toNat_natCast, set_set, rs, ei]
theorem mark_CueS (xs : List S43) (c : Int) (hx : xs.length ≤ 4000000) (h0 : 0 ≤ c) (h1 : c ≤ 900000000) : Evt (fun k => laws_markCueS.f k xs c = some (c + 4 * (xs.length : Int), seq_CueS xs.length c)) := by
 refine ⟨xs.length + 41, fun k hk => ?_⟩
 show laws_markCueS.f k xs c = _
 unfold laws_markCueS.f
 exact mark_CueS_l0 xs.length k xs c 0 (by omega) (by omega) hx h0 (by omega) (by omega)
end Go.Proofs.Ytnlbaflbhicooaa.F
namespace Go.Proofs.Ytnlbaflbhicooaa.F
open Go.RowKit Go.Proofs.YtnlbaflbhicooaaW.PrintWords Go.Proofs.YtnlbaflbhicooaaW.PrintLast Go.Proofs.YtnlbaflbhicooaaW.PrintMore
set_option linter.unusedVariables false
set_option linter.unusedSimpArgs false
theorem eq_Int64S_l0 (d : Nat) : ∀ (k : Nat) (xs : List Int) (i : Nat), xs.length - i = d → i ≤ xs.length → xs.length ≤ 4000000 → d < k → laws_eqInt64S.l0 k xs xs (i : Int) = some true := by
 induction d with
 | zero =>
  intro k xs i hd h1 h2 hk
  obtain ⟨k, rfl⟩ : ∃ m, k = m + 1 := ⟨k - 1, by omega⟩
  simp only [laws_eqInt64S.l0]; rw [if_neg (by omega)]
 | succ d ih =>
  intro k xs i hd h1 h2 hk
  obtain ⟨k, rfl⟩ : ∃ m, k = m + 1 := ⟨k - 1, by omega⟩
  have hr := ih k xs (i + 1) (by omega) (by omega) h2 (by omega)
  simp only [laws_eqInt64S.l0, if_true]
  rw [if_pos (by omega), if_pos (by omega), if_pos (by omega), w64 (by omega)]
  exact hr
theorem eq_Int64S (xs : List Int) (h : xs.length ≤ 4000000) : Evt (fun k => laws_eqInt64S.f k xs xs = some true) := by
 refine ⟨xs.length + 1, fun k hk => ?_⟩
 show laws_eqInt64S.f k xs xs = _
 unfold laws_eqInt64S.f
 rw [if_pos rfl]
 exact eq_Int64S_l0 xs.length k xs 0 (by omega) (by omega) h (by omega)
def seq_Int64S : Nat → Int → List Int
 | 0, _ => []
 | d + 1, c => c :: seq_Int64S d (c + 1)
theorem seq_Int64S_len : ∀ (d : Nat) (c : Int), (seq_Int64S d c).length = d
 | 0, _ => rfl
 | d + 1, c => by unfold seq_Int64S; rw [List.length_cons, seq_Int64S_len d]
theorem mark_Int64S_l0 (d : Nat) : ∀ (k : Nat) (xs : List Int) (c : Int) (i : Nat), xs.length - i = d → i ≤ xs.length → xs.length ≤ 4000000 → 0 ≤ c → c ≤ 1000000000 - 1 * (xs.length - i : Nat) → d < k →
  laws_markInt64S.l0 k xs c (i : Int) = some (c + 1 * d, xs.take i ++ seq_Int64S d c) := by
 induction d with
 | zero =>
  intro k xs c i hd h1 h2 h3 h4 hk
  obtain ⟨k, rfl⟩ : ∃ m, k = m + 1 := ⟨k - 1, by omega⟩
  simp only [laws_markInt64S.l0, seq_Int64S]
  rw [if_neg (by omega), List.take_of_length_le (by omega), List.append_nil]
  congr 2; omega
 | succ d ih =>
  intro k xs c i hd h1 h2 h3 h4 hk
  obtain ⟨k, rfl⟩ : ∃ m, k = m + 1 := ⟨k - 1, by omega⟩
  have hr := ih k (xs.set i c) (c + 1) (i + 1) Zbc Zbc Zbc (by omega) Zbc (by omega)
  rw [set_take_app _ _ _ _ (by omega)] at hr
  have e : c + 1 * ((d + 1 : Nat) : Int) = c + 1 + 1 * (d : Int) := by omega
  rw [e]
  show _ = some (c + 1 + 1 * (d : Int), xs.take i ++ c :: seq_Int64S d (c + 1))
  rw [← hr]
  simp only [laws_markInt64S.l0, Option.bind_some]
  rw [if_pos (by omega), if_pos (by omega)]
  have w1 : wrap64 (c + 1) = c + 1 := by rw [w64 (by omega)]
  rw [w1, w64 (n := (i : Int) + 1) (by omega)]
  rw [Int.toNat_natCast]
  rfl
theorem mark_Int64S (xs : List Int) (c : Int) (hx : xs.length ≤ 4000000) (h0 : 0 ≤ c) (h1 : c ≤ 900000000) : Evt (fun k => laws_markInt64S.f k xs c = some (c + 1 * (xs.length : Int), seq_Int64S xs.length c)) := by
 refine ⟨xs.length + 1, fun k hk => ?_⟩
 show laws_markInt64S.f k xs c = _
 unfold laws_markInt64S.f
 exact mark_Int64S_l0 xs.length k xs c 0 (by omega) (by omega) hx h0 (by omega) (by omega)
theorem held_Int64S_l0 (d : Nat) : ∀ (k : Nat) (pre : List Int) (c : Int) (i : Nat), pre.length = i → pre.length + d ≤ 4000000 → 0 ≤ c → c ≤ 1000000000 - 1 * d → d < k →
  laws_heldInt64S.l0 k (pre ++ seq_Int64S d c) c (i : Int) = some (c + 1 * d) := by
 induction d with
 | zero =>
  intro k pre c i hd h1 h2 h3 hk
  obtain ⟨k, rfl⟩ : ∃ m, k = m + 1 := ⟨k - 1, by omega⟩
  simp only [laws_heldInt64S.l0, seq_Int64S, List.append_nil]
  rw [if_neg (by omega)]
  congr 1; omega
 | succ d ih =>
  intro k pre c i hd h1 h2 h3 hk
  obtain ⟨k, rfl⟩ : ∃ m, k = m + 1 := ⟨k - 1, by omega⟩
  have hr := ih k (pre ++ [c]) (c + 1) (i + 1) (by rw [List.length_append, List.length_singleton]; omega) (by rw [List.length_append, List.length_singleton]; omega) (by omega) (by omega) (by omega)
  rw [List.append_assoc, List.singleton_append] at hr
  have e : c + 1 * ((d + 1 : Nat) : Int) = c + 1 + 1 * (d : Int) := by omega
  have hlen : (pre ++ c :: seq_Int64S d (c + 1)).length = pre.length + (d + 1) := by rw [List.length_append, List.length_cons, seq_Int64S_len]
  have hrd : rd (pre ++ c :: seq_Int64S d (c + 1)) (i : Int) = c := by
   unfold rd
   rw [Int.toNat_natCast, getD_app _ _ _ _ hd]
   rfl
  rw [e, ← hr]
  show laws_heldInt64S.l0 (k + 1) (pre ++ c :: seq_Int64S d (c + 1)) c (i : Int) = _
  simp only [laws_heldInt64S.l0, hrd]
  rw [if_pos (by omega), if_pos (by omega)]
  have w1 : wrap64 (c + 1) = c + 1 := by rw [w64 (by omega)]
  rw [w1, w64 (n := (i : Int) + 1) (by omega)]
  simp only [if_true]
  rfl
theorem held_Int64S (n : Nat) (c : Int) (hx : n ≤ 4000000) (h0 : 0 ≤ c) (h1 : c ≤ 900000000) : Evt (fun k => laws_heldInt64S.f k (seq_Int64S n c) c = some (c + 1 * (n : Int))) := by
 refine ⟨n + 1, fun k hk => ?_⟩
 show laws_heldInt64S.f k (seq_Int64S n c) c = _
 unfold laws_heldInt64S.f
 exact held_Int64S_l0 n k [] c 0 rfl (by simp; omega) h0 (by omega) (by omega)
end Go.Proofs.Ytnlbaflbhicooaa.F
namespace Go.Proofs.Ytnlbaflbhicooaa.F
open Go.RowKit Go.Proofs.YtnlbaflbhicooaaW.PrintWords Go.Proofs.YtnlbaflbhicooaaW.PrintLast Go.Proofs.YtnlbaflbhicooaaW.PrintMore
set_option linter.unusedVariables false
set_option linter.unusedSimpArgs false
theorem sz_Show (l0 : List S110) (l1 : List S105) (l2 : List S40) (n0 : l0.length ≤ maxLen) (n1 : l1.length ≤ maxLen) (p1 : ∀ x ∈ l1, x.f0.size ≤ maxLen) (n2 : l2.length ≤ maxLen) (p2 : ∀ x ∈ l2, x.f2.size ≤ maxLen) :
  ∃ s, Evt (fun k => laws_szShow.f k l0 l1 l2 1000000 = some s) ∧ (s < 0 ∨ (0 ≤ s ∧ s ≤ 1000000 ∧ l0.length ≤ 1000000 ∧ (l1.length ≤ 1000000 ∧ ∀ x ∈ l1, x.f0.size ≤ 1000000) ∧ l2.length ≤ 1000000 ∧ ∀ x ∈ l2, x.f2.size ≤ 1000000)) := by
 rcases sz_BarS l0 1000000 (by omega) (by omega) n0 with ⟨z0, e0⟩ | e0
 rotate_left
 ·refine ⟨-1, Evt.of fun k => ?_, .inl (by omega)⟩
  unfold laws_szShow.f
  rw [e0]; rfl
 ·obtain ⟨s1, e1, h1⟩ := sz_ArticleS l1 (1000000 - (l0.length : Int)) (by omega) (by omega) n1 p1
  rcases h1 with h1 | ⟨h1, h2, h3, h4⟩
  ·refine ⟨-1, e1.mono fun k hk => ?_, .inl (by omega)⟩
   unfold laws_szShow.f
   rw [e0]
   simp only [Option.bind_some]
   rw [if_neg (by omega), hk]
   simp only [Option.bind_some]
   rw [if_pos h1]
  ·obtain ⟨s2, e2, g1⟩ := sz_CueS l2 s1 h1 (by omega) n2 p2
   rcases g1 with g1 | ⟨g1, g2, g3, g4⟩
   ·refine ⟨-1, (e1.and e2).mono fun k hk => ?_, .inl (by omega)⟩
    unfold laws_szShow.f
    rw [e0]
    simp only [Option.bind_some]
    rw [if_neg (by omega), hk.1]
    simp only [Option.bind_some]
    rw [if_neg (by omega), hk.2]
    simp only [Option.bind_some]
    rw [if_pos g1]
   ·refine ⟨s2, (e1.and e2).mono fun k hk => ?_, .inr ⟨g1, by omega, by omega, ⟨h3, h4⟩, g3, g4⟩⟩
    unfold laws_szShow.f
    rw [e0]
    simp only [Option.bind_some]
    rw [if_neg (by omega), hk.1]
    simp only [Option.bind_some]
    rw [if_neg (by omega), hk.2]
    simp only [Option.bind_some]
    rw [if_neg (by omega)]
theorem full_Show {l0 : List S110} {l1 : List S105} {l2 : List S40} {L0 : List S108} {L1 : List S92} {L2 : List S43} (h0 : Evt (fun k => full_toBarS.f k l0 false = some L0)) (h1 : Evt (fun k => full_toArticleS.f k l1 false = some L1)) (h2 : Evt (fun k => full_toCueS.f k l2 false = some L2)) : Evt (fun k => full_toShow.f k l0 l1 l2 false = some (L0, L1, L2)) :=
 (h0.and (h1.and h2)).mono fun k h => by
  unfold full_toShow.f
  rw [h.1, h.2.1, h.2.2]; rfl
theorem bare_Show {l0 : List S110} {l1 : List S105} {l2 : List S40} {L0 : List S108} {L1 : List S92} {L2 : List S43} (h0 : Evt (fun k => laws_toBarS.f k l0 true = some L0)) (h1 : Evt (fun k => laws_toArticleS.f k l1 true = some L1)) (h2 : Evt (fun k => laws_toCueS.f k l2 true = some L2)) : Evt (fun k => laws_toShow.f k l0 l1 l2 true = some (L0, L1, L2)) :=
 (h0.and (h1.and h2)).mono fun k h => by
  unfold laws_toShow.f
  rw [h.1, h.2.1, h.2.2]; rfl
theorem mark_Show (A : List S108) (B : List S92) (C : List S43) (c : Int) (hA : A.length ≤ 1000010) (hB : B.length ≤ 1000010) (hC : C.length ≤ 1000010) (h0 : 0 ≤ c) (h1 : c ≤ 1000) : Evt (fun k => laws_markShow.f k A B C c = some (c + 2 * (A.length : Int) + 9 * (B.length : Int) + 4 * (C.length : Int), seq_BarS A.length c, seq_ArticleS B.length (c + 2 * (A.length : Int)), seq_CueS C.length (c + 2 * (A.length : Int) + 9 * (B.length : Int)))) :=
 ((mark_BarS A c (by omega) h0 (by omega)).and ((mark_ArticleS B (c + 2 * (A.length : Int)) (by omega) (by omega) (by omega)).and (mark_CueS C (c + 2 * (A.length : Int) + 9 * (B.length : Int)) (by omega) (by omega) (by omega)))).mono fun k h => by
  unfold laws_markShow.f
  rw [h.1]
  simp only [Option.bind_some]
  rw [h.2.1]
  simp only [Option.bind_some]
  rw [h.2.2]; rfl
end Go.Proofs.Ytnlbaflbhicooaa.F
namespace Go.Proofs.Ytnlbaflbhicooaa.F
open Go.RowKit Go.Proofs.YtnlbaflbhicooaaW.PrintWords Go.Proofs.YtnlbaflbhicooaaW.PrintLast Go.Proofs.YtnlbaflbhicooaaW.PrintMore
set_option linter.unusedVariables false
set_option linter.unusedSimpArgs false
theorem In_eq (n lo hi : Int) : spec_l01In.f n lo hi = some (inB n lo hi) := by
 unfold spec_l01In.f inB
 by_cases h : n ≥ lo
 ·rw [if_pos h]; congr 1; simp; omega
 ·rw [if_neg h]; congr 1; simp; omega
theorem Wi_eq (n lo hi : Int) : impl_within.f n lo hi = some (inB n lo hi) := by
 unfold impl_within.f inB
 by_cases h : lo ≤ n
 ·rw [if_pos h]; congr 1; simp; omega
 ·rw [if_neg h]; congr 1; simp; omega
end Go.Proofs.Ytnlbaflbhicooaa.F
namespace Go.Proofs.Ytnlbaflbhicooaa.F
open Go.RowKit Go.Proofs.YtnlbaflbhicooaaW.PrintWords Go.Proofs.YtnlbaflbhicooaaW.PrintLast Go.Proofs.YtnlbaflbhicooaaW.PrintMore
set_option linter.unusedVariables false
set_option linter.unusedSimpArgs false
def word (s : ByteArray) : Bool := allF (fun j => inB (bt s (j : Int)) 97 122) 0 s.size && inB (s.size : Int) 1 16
theorem spec_word (s : ByteArray) (hs : s.size ≤ 4000000) (k : Nat) (hk : s.size < k) : spec_IsWord.f k s = some (word s) := by
 refine all_loop (f := fun k i => spec_IsWord.l0 k s (i : Int)) s.size (fun k i hi => ?_) (fun k => ?_) s.size k 0 (by omega) (by omega) (by omega)
 ·show spec_IsWord.l0 (k + 1) s i = _
  simp only [spec_IsWord.l0]
  rw [if_pos (by omega), if_pos (by omega), w64 (n := (i : Int) + 1) (by omega)]
  by_cases c1 : bt s (i : Int) < 97
  ·rw [if_pos c1, inB_false.2 (by omega), if_neg (by decide)]
  ·rw [if_neg c1]
   by_cases c2 : bt s (i : Int) > 122
   ·rw [if_pos c2, inB_false.2 (by omega), if_neg (by decide)]
   ·rw [if_neg c2, inB_true.2 (by omega), if_pos rfl]; rfl
 ·show spec_IsWord.l0 (k + 1) s _ = _
  simp only [spec_IsWord.l0]
  rw [if_neg (by omega), In_eq]; rfl
theorem impl_word (s : ByteArray) (hs : s.size ≤ 4000000) (k : Nat) (hk : s.size + 1 < k) : impl_IsWord.f k s = some (word s) := by
 obtain ⟨k, rfl⟩ : ∃ m, k = m + 1 := ⟨k - 1, by omega⟩
 unfold impl_IsWord.f word
 simp only [impl_IsWord.j0]
 by_cases h1 : (s.size : Int) < 1
 ·rw [if_pos h1, if_pos trivial, inB_false.2 (by omega), Bool.and_false]
 ·rw [if_neg h1]
  by_cases h2 : (s.size : Int) > 16
  ·rw [if_pos (decide_eq_true h2), inB_false.2 (by omega), Bool.and_false]
  ·rw [if_neg (by simpa using h2), inB_true.2 (by omega)]
   refine all_loop (f := fun k i => impl_IsWord.l0 k s (i : Int)) s.size (fun k i hi => ?_) (fun k => ?_) s.size k 0 (by omega) (by omega) (by omega)
   ·show impl_IsWord.l0 (k + 1) s i = _
    simp only [impl_IsWord.l0]
    rw [if_pos (by omega), if_pos (by omega), w64 (n := (i : Int) + 1) (by omega)]
    by_cases c1 : bt s (i : Int) < 97
    ·rw [if_pos c1, inB_false.2 (by omega), if_neg (by decide)]
    ·rw [if_neg c1]
     by_cases c2 : bt s (i : Int) > 122
     ·rw [if_pos c2, inB_false.2 (by omega), if_neg (by decide)]
     ·rw [if_neg c2, inB_true.2 (by omega), if_pos rfl]; rfl
   ·show impl_IsWord.l0 (k + 1) s _ = _
    simp only [impl_IsWord.l0]
    rw [if_neg (by omega)]
def art (a : S92) : Bool := word a.f0 && (inB a.f1 0 3 && (inB a.f2 20 300 && (inB a.f3 0 10000 && (inB a.f4 0 a.f3 && (inB a.f5 1 50 && (inB a.f6 0 10000 && (inB a.f7 1 100000 && inB a.f8 0 3)))))))
theorem spec_art (a : S92) (hs : a.f0.size ≤ 4000000) (k : Nat) (hk : a.f0.size < k) : spec_IsArticle.f k a.f0 a.f1 a.f2 a.f3 a.f4 a.f5 a.f6 a.f7 a.f8 = some (art a) := by
 unfold spec_IsArticle.f art
 rw [spec_word a.f0 hs k hk]
 simp only [In_eq, Option.bind_some]
 cases word a.f0 <;> cases inB a.f1 0 3 <;> cases inB a.f2 20 300 <;> cases inB a.f3 0 10000 <;> cases inB a.f4 0 a.f3 <;> cases inB a.f5 1 50 <;> cases inB a.f6 0 10000 <;> cases inB a.f7 1 100000 <;> rfl
theorem impl_art (a : S92) (hs : a.f0.size ≤ 4000000) (k : Nat) (hk : a.f0.size + 1 < k) : impl_IsArticle.f k a.f0 a.f1 a.f2 a.f3 a.f4 a.f5 a.f6 a.f7 a.f8 = some (art a) := by
 unfold impl_IsArticle.f art
 rw [impl_word a.f0 hs k hk]
 simp only [Wi_eq, Option.bind_some]
 cases word a.f0 <;> cases inB a.f1 0 3 <;> cases inB a.f2 20 300 <;> cases inB a.f3 0 10000 <;> cases inB a.f4 0 a.f3 <;> cases inB a.f5 1 50 <;> cases inB a.f6 0 10000 <;> cases inB a.f7 1 100000 <;> rfl
def ar_at (xs : List S92) (i : Nat) : S92 := xs.getD i z92
theorem rd_art (xs : List S92) (i : Nat) : rd_T92 xs (i : Int) = ar_at xs i := by unfold rd_T92 ar_at; rw [Int.toNat_natCast]
def artAt (xs : List S92) (i : Nat) : Bool := art (ar_at xs i) && (decide (i = 0) || Op.bytesLess (ar_at xs (i - 1)).f0.toList (ar_at xs i).f0.toList)
def areArts (xs : List S92) : Bool := allF (artAt xs) 0 xs.length && decide ((xs.length : Int) ≤ 12)
def Small (B : Nat) (xs : List S92) : Prop := B ≤ 1000000 ∧ ∀ x ∈ xs, x.f0.size ≤ B
theorem small_at {B : Nat} {xs : List S92} (h : Small B xs) (i : Nat) (hi : i < xs.length) : (ar_at xs i).f0.size ≤ B := by
 unfold ar_at
 rw [List.getD_eq_getElem?_getD, List.getElem?_eq_getElem hi]
 exact h.2 _ (List.getElem_mem hi)
theorem spec_arts (B : Nat) (xs : List S92) (hx : xs.length ≤ 4000000) (hB : Small B xs) (k : Nat) (hk : xs.length + B < k) : spec_AreArticles.f k xs = some (areArts xs) := by
 have loop : ∀ d k i, xs.length - i = d → i ≤ xs.length → d + B < k → spec_AreArticles.l0 k xs (i : Int) = some (allF (artAt xs) i d && decide ((xs.length : Int) ≤ 12)) := by
  intro d
  induction d with
  | zero =>
   intro k i hd hi hk
   obtain ⟨k, rfl⟩ : ∃ m, k = m + 1 := ⟨k - 1, by omega⟩
   simp only [spec_AreArticles.l0]
   rw [if_neg (by omega)]
   rfl
  | succ d ih =>
   intro k i hd hi hk
   obtain ⟨k, rfl⟩ : ∃ m, k = m + 1 := ⟨k - 1, by omega⟩
   have hb := small_at hB i (by omega)
   have hB1 := hB.1
   have nx := ih k (i + 1) (by omega) (by omega) (by omega)
   simp only [spec_AreArticles.l0]
   rw [if_pos (by omega), if_pos (by omega), rd_art, spec_art _ (by omega) k (by omega), w64 (n := (i : Int) + 1) (by omega)]
   simp only [Option.bind_some]
   unfold allF artAt
   cases ha : art (ar_at xs i) with
   | false => rfl
   | true =>
    rw [if_pos rfl, Bool.true_and]
    by_cases i0 : i = 0
    ·subst i0
     rw [if_neg (by omega), decide_eq_true rfl, Bool.true_or, Bool.true_and]
     exact nx
    ·rw [if_pos (by omega), w64 (n := (i : Int) - 1) (by omega), if_pos (by omega), if_pos (by omega), show (i : Int) - 1 = ((i - 1 : Nat) : Int) by omega, rd_art, decide_eq_false i0, Bool.false_or]
     cases hl : Op.bytesLess (ar_at xs (i - 1)).f0.toList (ar_at xs i).f0.toList with
     | false => rfl
     | true => rw [if_pos rfl, Bool.true_and]; exact nx
 unfold spec_AreArticles.f
 exact loop xs.length k 0 (by omega) (by omega) hk
theorem impl_arts (B : Nat) (xs : List S92) (hx : xs.length ≤ 4000000) (hB : Small B xs) (k : Nat) (hk : xs.length + B + 1 < k) : impl_AreArticles.f k xs = some (areArts xs) := by
 have loop : ∀ d k i, xs.length - i = d → i ≤ xs.length → d + B + 1 < k → impl_AreArticles.l0 k xs xs (xs.length : Int) (i : Int) = some (allF (artAt xs) i d && true) := by
  intro d
  induction d with
  | zero =>
   intro k i hd hi hk
   obtain ⟨k, rfl⟩ : ∃ m, k = m + 1 := ⟨k - 1, by omega⟩
   simp only [impl_AreArticles.l0]
   rw [if_neg (by omega)]
   rfl
  | succ d ih =>
   intro k i hd hi hk
   obtain ⟨k, rfl⟩ : ∃ m, k = m + 1 := ⟨k - 1, by omega⟩
   have hb := small_at hB i (by omega)
   have hB1 := hB.1
   have nx := ih k (i + 1) (by omega) (by omega) (by omega)
   simp only [impl_AreArticles.l0]
   rw [if_pos (by omega), if_pos (by omega), if_pos (by omega), rd_art, impl_art _ (by omega) k (by omega), w64 (n := (i : Int) + 1) (by omega)]
   simp only [Option.bind_some]
   unfold allF artAt
   cases ha : art (ar_at xs i) with
   | false => rfl
   | true =>
    rw [if_pos rfl, Bool.true_and]
    by_cases i0 : i = 0
    ·subst i0
     rw [if_neg (by omega), decide_eq_true rfl, Bool.true_or, Bool.true_and]
     exact nx
    ·rw [if_pos (by omega), w64 (n := (i : Int) - 1) (by omega), if_pos (by omega), if_pos (by omega), show (i : Int) - 1 = ((i - 1 : Nat) : Int) by omega, rd_art, decide_eq_false i0, Bool.false_or]
     cases hl : Op.bytesLess (ar_at xs (i - 1)).f0.toList (ar_at xs i).f0.toList with
     | false => rfl
     | true => rw [if_pos rfl, Bool.true_and]; exact nx
 unfold impl_AreArticles.f areArts
 by_cases c : (xs.length : Int) > 12
 ·rw [if_pos c, decide_eq_false (by omega), Bool.and_false]
 ·rw [if_neg c, decide_eq_true (by omega)]
  exact loop xs.length k 0 (by omega) (by omega) hk
def findF (xs : List S92) (s : ByteArray) : Nat → Nat → Int
 | _, 0 => -1
 | i, d + 1 => if (ar_at xs i).f0.toList = s.toList then (i : Int) else findF xs s (i + 1) d
def find (xs : List S92) (s : ByteArray) : Int := findF xs s 0 xs.length
theorem find_go (xs : List S92) (hx : xs.length ≤ 4000000) (s : ByteArray) : ∀ d k i, xs.length - i = d → i ≤ xs.length → d < k → spec_l03Find.l0 k xs s (i : Int) = some (findF xs s i d) ∧ impl_articleOf.l0 k s xs (xs.length : Int) (i : Int) = some (findF xs s i d) := by
 intro d
 induction d with
 | zero =>
  intro k i hd hi hk
  obtain ⟨k, rfl⟩ : ∃ m, k = m + 1 := ⟨k - 1, by omega⟩
  simp only [spec_l03Find.l0, impl_articleOf.l0]
  rw [if_neg (by omega), if_neg (by omega)]
  exact ⟨rfl, rfl⟩
 | succ d ih =>
  intro k i hd hi hk
  obtain ⟨k, rfl⟩ : ∃ m, k = m + 1 := ⟨k - 1, by omega⟩
  obtain ⟨a, b⟩ := ih k (i + 1) (by omega) (by omega) (by omega)
  have w : wrap64 ((i : Int) + 1) = ((i + 1 : Nat) : Int) := w64 (by omega)
  have g1 : (i : Int) < (xs.length : Int) := by clear w; omega
  have g2 : 0 ≤ (i : Int) := by clear w; omega
  simp only [spec_l03Find.l0, impl_articleOf.l0, if_pos g1, if_pos g2, rd_art, w]
  unfold findF
  by_cases c : (ar_at xs i).f0.toList = s.toList
  ·rw [if_pos c, if_pos c, if_pos c]; exact ⟨rfl, rfl⟩
  ·rw [if_neg c, if_neg c, if_neg c]; exact ⟨a, b⟩
theorem spec_find (xs : List S92) (hx : xs.length ≤ 4000000) (s : ByteArray) (k : Nat) (hk : xs.length < k) : spec_l03Find.f k xs s = some (find xs s) := (find_go xs hx s xs.length k 0 (by omega) (by omega) hk).1
theorem impl_find (xs : List S92) (hx : xs.length ≤ 4000000) (s : ByteArray) (k : Nat) (hk : xs.length < k) : impl_articleOf.f k xs s = some (find xs s) := (find_go xs hx s xs.length k 0 (by omega) (by omega) hk).2
theorem findF_range (xs : List S92) (s : ByteArray) : ∀ d i, findF xs s i d = -1 ∨ ((i : Int) ≤ findF xs s i d ∧ findF xs s i d < (i : Int) + d)
 | 0, _ => .inl rfl
 | d + 1, i => by
  unfold findF
  by_cases c : (ar_at xs i).f0.toList = s.toList
  ·rw [if_pos c]; exact .inr ⟨Int.le_refl _, by omega⟩
  ·rw [if_neg c]
   rcases findF_range xs s d (i + 1) with h | h
   ·exact .inl h
   ·exact .inr ⟨by omega, by omega⟩
theorem find_range (xs : List S92) (s : ByteArray) : find xs s = -1 ∨ (0 ≤ find xs s ∧ find xs s < (xs.length : Int)) := by
 have := findF_range xs s xs.length 0
 unfold find
 omega
end Go.Proofs.Ytnlbaflbhicooaa.F
namespace Go.Proofs.Ytnlbaflbhicooaa.F
open Go.RowKit Go.Proofs.YtnlbaflbhicooaaW.PrintWords Go.Proofs.YtnlbaflbhicooaaW.PrintLast Go.Proofs.YtnlbaflbhicooaaW.PrintMore
set_option linter.unusedVariables false
set_option linter.unusedSimpArgs false
def bt_at (xs : List S108) (i : Nat) : Int := (xs.getD i z108).f0
def ln_at (xs : List S108) (i : Nat) : Int := (xs.getD i z108).f1
def barAt (xs : List S108) (i : Nat) : Bool := inB (bt_at xs i) 1 16 && inB (ln_at xs i) 100 5000
def isScore (xs : List S108) : Bool := allF (barAt xs) 0 xs.length && inB (xs.length : Int) 1 20
theorem rd_bar (xs : List S108) (i : Nat) : rd_T108 xs (i : Int) = xs.getD i z108 := by unfold rd_T108; rw [Int.toNat_natCast]
theorem spec_score (xs : List S108) (hx : xs.length ≤ 4000000) (k : Nat) (hk : xs.length < k) : spec_IsScore.f k xs = some (isScore xs) := by
 refine all_loop (f := fun k i => spec_IsScore.l0 k xs (i : Int)) xs.length (fun k i hi => ?_) (fun k => ?_) xs.length k 0 (by omega) (by omega) (by omega)
 ·show spec_IsScore.l0 (k + 1) xs i = _
  simp only [spec_IsScore.l0, In_eq, Option.bind_some]
  rw [if_pos (by omega), if_pos (by omega), w64 (by omega), rd_bar]
  unfold barAt bt_at ln_at
  cases inB (xs.getD i z108).f0 1 16 <;> cases inB (xs.getD i z108).f1 100 5000 <;> rfl
 ·show spec_IsScore.l0 (k + 1) xs _ = _
  simp only [spec_IsScore.l0, In_eq, Option.bind_some]
  rw [if_neg (by omega)]
theorem impl_score (xs : List S108) (hx : xs.length ≤ 4000000) (k : Nat) (hk : xs.length + 1 < k) : impl_IsScore.f k xs = some (isScore xs) := by
 obtain ⟨k, rfl⟩ : ∃ m, k = m + 1 := ⟨k - 1, by omega⟩
 unfold impl_IsScore.f isScore
 simp only [impl_IsScore.j0]
 by_cases h1 : (xs.length : Int) < 1
 ·rw [if_pos h1, if_pos trivial, inB_false.2 (by omega), Bool.and_false]
 ·rw [if_neg h1]
  by_cases h2 : (xs.length : Int) > 20
  ·rw [if_pos (decide_eq_true h2), inB_false.2 (by omega), Bool.and_false]
  ·rw [if_neg (by simpa using h2), inB_true.2 (by omega)]
   refine all_loop (f := fun k i => impl_IsScore.l0 k xs (xs.length : Int) (i : Int)) xs.length (fun k i hi => ?_) (fun k => ?_) xs.length k 0 (by omega) (by omega) (by omega)
   ·show impl_IsScore.l0 (k + 1) xs (xs.length : Int) i = _
    simp only [impl_IsScore.l0, Wi_eq, Option.bind_some]
    rw [if_pos (by omega), if_pos (by omega), if_pos (by omega), w64 (by omega), rd_bar]
    unfold barAt bt_at ln_at
    cases inB (xs.getD i z108).f0 1 16 <;> cases inB (xs.getD i z108).f1 100 5000 <;> rfl
   ·show impl_IsScore.l0 (k + 1) xs (xs.length : Int) _ = _
    simp only [impl_IsScore.l0]
    rw [if_neg (by omega)]
theorem isScore_true {xs : List S108} (h : isScore xs = true) : 1 ≤ xs.length ∧ xs.length ≤ 20 ∧ ∀ i, i < xs.length → 1 ≤ bt_at xs i ∧ bt_at xs i ≤ 16 ∧ 100 ≤ ln_at xs i ∧ ln_at xs i ≤ 5000 := by
 unfold isScore at h
 rw [Bool.and_eq_true, allF_true, inB_true] at h
 refine ⟨by omega, by omega, fun i hi => ?_⟩
 have := h.1 i (by omega) (by omega)
 unfold barAt at this
 rw [Bool.and_eq_true, inB_true, inB_true] at this
 omega
def tm (xs : List S108) (i : Nat) : Int := foldF (fun j s => s + bt_at xs j * ln_at xs j) 0 i 0
theorem tm_succ (xs : List S108) (i : Nat) : tm xs (i + 1) = tm xs i + bt_at xs i * ln_at xs i := by
 unfold tm
 rw [foldF_snoc, Nat.zero_add]
theorem prod_le {a b : Int} (h : 1 ≤ a ∧ a ≤ 16 ∧ 100 ≤ b ∧ b ≤ 5000) : 100 ≤ a * b ∧ a * b ≤ 80000 := by
 have h1 : 1 * b ≤ a * b := Int.mul_le_mul_of_nonneg_right h.1 (by omega)
 have h2 : a * b ≤ 16 * b := Int.mul_le_mul_of_nonneg_right h.2.1 (by omega)
 omega
theorem tm_le {xs : List S108} (h : isScore xs = true) : ∀ i, i ≤ xs.length → 0 ≤ tm xs i ∧ tm xs i ≤ 80000 * i
 | 0, _ => by unfold tm foldF; omega
 | i + 1, hi => by
  have h1 := tm_le h i (by omega)
  have h2 := prod_le ((isScore_true h).2.2 i (by omega))
  rw [tm_succ]
  omega
end Go.Proofs.Ytnlbaflbhicooaa.F
namespace Go.Proofs.Ytnlbaflbhicooaa.F
open Go.RowKit Go.Proofs.YtnlbaflbhicooaaW.PrintWords Go.Proofs.YtnlbaflbhicooaaW.PrintLast Go.Proofs.YtnlbaflbhicooaaW.PrintMore
set_option linter.unusedVariables false
set_option linter.unusedSimpArgs false
theorem spec_time {xs : List S108} (h : isScore xs = true) (bar : Nat) (hb : bar < xs.length) (beat : Int) (h0 : 0 ≤ beat ∧ beat ≤ 16) (k : Nat) (hk : bar < k) : spec_l07Time.f k xs (bar : Int) beat = some (tm xs bar + beat * ln_at xs bar) := by
 have hs := isScore_true h
 have hl := hs.2.2 bar hb
 have hb2 : 0 ≤ beat * ln_at xs bar ∧ beat * ln_at xs bar ≤ 80000 := by
  have h1 : 0 * ln_at xs bar ≤ beat * ln_at xs bar := Int.mul_le_mul_of_nonneg_right h0.1 (by omega)
  have h2 : beat * ln_at xs bar ≤ 16 * ln_at xs bar := Int.mul_le_mul_of_nonneg_right h0.2 (by omega)
  omega
 refine fold_loop (f := fun k i s => spec_l07Time.l0 k xs (bar : Int) beat s (i : Int)) (step := fun j s => s + bt_at xs j * ln_at xs j) (I := fun i s => s = tm xs i) (e := fun s => some (s + beat * ln_at xs bar)) bar (fun k i s hi hI => ?_) (fun i s hi hI => ?_) (fun k s hI => ?_) bar k 0 0 (by omega) (by omega) rfl hk
 ·have h1 := tm_le h i (by omega)
  have h2 := prod_le (hs.2.2 i (by omega))
  show spec_l07Time.l0 (k + 1) xs (bar : Int) beat s (i : Int) = spec_l07Time.l0 k xs (bar : Int) beat (s + bt_at xs i * ln_at xs i) ((i + 1 : Nat) : Int)
  simp only [spec_l07Time.l0]
  rw [if_pos (by omega), if_pos (by omega), if_pos (by omega), rd_bar]
  show spec_l07Time.l0 k xs (bar : Int) beat (wrap64 (s + wrap64 (bt_at xs i * ln_at xs i))) (wrap64 ((i : Int) + 1)) = _
  rw [w64 (n := bt_at xs i * ln_at xs i) (by omega), w64 (n := s + _) (by omega), w64 (by omega)]
  rfl
 ·show s + bt_at xs i * ln_at xs i = tm xs (i + 1)
  rw [tm_succ, hI]
 ·have h1 := tm_le h bar (by omega)
  show spec_l07Time.l0 (k + 1) xs (bar : Int) beat s (bar : Int) = some (s + beat * ln_at xs bar)
  simp only [spec_l07Time.l0]
  rw [if_neg (by omega), if_pos (by omega), if_pos (by omega), rd_bar]
  show some (wrap64 (s + wrap64 (beat * ln_at xs bar))) = _
  rw [w64 (n := beat * ln_at xs bar) (by omega), w64 (by omega)]
theorem impl_time {xs : List S108} (h : isScore xs = true) (bar : Nat) (beat : Int) (hb : bar < xs.length ∨ (bar = xs.length ∧ beat = 0)) (h0 : 0 ≤ beat ∧ beat ≤ 16) (k : Nat) (hk : bar < k) : impl_beatTime.f k xs (bar : Int) beat = some (tm xs bar + beat * ln_at xs bar) := by
 have hs := isScore_true h
 have hlen : (xs.take bar).length = bar := by rw [List.length_take]; omega
 unfold impl_beatTime.f
 rw [if_pos (by omega), if_pos (by omega), Int.toNat_natCast]
 simp only [Option.bind_some]
 rw [hlen]
 refine fold_loop (f := fun k i s => impl_beatTime.l0 k xs (bar : Int) beat s (xs.take bar) (bar : Int) (i : Int)) (step := fun j s => s + bt_at xs j * ln_at xs j) (I := fun i s => s = tm xs i) (e := fun s => some (s + beat * ln_at xs bar)) bar (fun k i s hi hI => ?_) (fun i s hi hI => ?_) (fun k s hI => ?_) bar k 0 0 (by omega) (by omega) rfl hk
 ·have h1 := tm_le h i (by omega)
  have h2 := prod_le (hs.2.2 i (by omega))
  show impl_beatTime.l0 (k + 1) xs (bar : Int) beat s (xs.take bar) (bar : Int) (i : Int) = impl_beatTime.l0 k xs (bar : Int) beat (s + bt_at xs i * ln_at xs i) (xs.take bar) (bar : Int) ((i + 1 : Nat) : Int)
  simp only [impl_beatTime.l0]
  rw [if_pos (by omega), if_pos (by omega), if_pos (by rw [hlen]; omega), rd_bar, getD_take _ _ _ _ hi]
  show impl_beatTime.l0 k xs (bar : Int) beat (wrap64 (s + wrap64 (bt_at xs i * ln_at xs i))) (xs.take bar) (bar : Int) (wrap64 ((i : Int) + 1)) = _
  rw [w64 (n := bt_at xs i * ln_at xs i) (by omega), w64 (n := s + _) (by omega), w64 (by omega)]
  rfl
 ·show s + bt_at xs i * ln_at xs i = tm xs (i + 1)
  rw [tm_succ, hI]
 ·have h1 := tm_le h bar (by omega)
  show impl_beatTime.l0 (k + 1) xs (bar : Int) beat s (xs.take bar) (bar : Int) (bar : Int) = some (s + beat * ln_at xs bar)
  simp only [impl_beatTime.l0]
  rw [if_neg (by omega)]
  by_cases hp : beat > 0
  ·have hlt : bar < xs.length := by omega
   have hl := hs.2.2 bar hlt
   have hb2 : 0 ≤ beat * ln_at xs bar ∧ beat * ln_at xs bar ≤ 80000 := by
    have h1 : 0 * ln_at xs bar ≤ beat * ln_at xs bar := Int.mul_le_mul_of_nonneg_right h0.1 (by omega)
    have h2 : beat * ln_at xs bar ≤ 16 * ln_at xs bar := Int.mul_le_mul_of_nonneg_right h0.2 (by omega)
    omega
   rw [if_pos hp, if_pos (by omega), if_pos (by omega), rd_bar]
   show some (wrap64 (s + wrap64 (beat * ln_at xs bar))) = _
   rw [w64 (n := beat * ln_at xs bar) (by omega), w64 (by omega)]
  ·have e : beat = 0 := by omega
   rw [if_neg hp, e, Int.zero_mul, Int.add_zero]
end Go.Proofs.Ytnlbaflbhicooaa.F
namespace Go.Proofs.Ytnlbaflbhicooaa.F
open Go.RowKit Go.Proofs.YtnlbaflbhicooaaW.PrintWords Go.Proofs.YtnlbaflbhicooaaW.PrintLast Go.Proofs.YtnlbaflbhicooaaW.PrintMore
set_option linter.unusedVariables false
set_option linter.unusedSimpArgs false
theorem index_eq (a n : Int) : impl_isIndex.f a n = some (inB a 0 (wrap64 (n - 1))) := by
 unfold impl_isIndex.f
 simp only [Wi_eq, Option.bind_some]
end Go.Proofs.Ytnlbaflbhicooaa.F
namespace Go.Proofs.Ytnlbaflbhicooaa.F
open Go.RowKit Go.Proofs.YtnlbaflbhicooaaW.PrintWords Go.Proofs.YtnlbaflbhicooaaW.PrintLast Go.Proofs.YtnlbaflbhicooaaW.PrintMore
set_option linter.unusedVariables false
set_option linter.unusedSimpArgs false
def hasBeat (xs : List S108) (bar beat : Int) : Bool := inB bar 0 ((xs.length : Int) - 1) && inB beat 0 (bt_at xs bar.toNat - 1)
theorem hasBeat_true {xs : List S108} {bar beat : Int} (h : hasBeat xs bar beat = true) : ∃ b : Nat, bar = b ∧ b < xs.length ∧ 0 ≤ beat ∧ beat ≤ bt_at xs b - 1 := by
 unfold hasBeat at h
 rw [Bool.and_eq_true, inB_true, inB_true] at h
 exact ⟨bar.toNat, by omega, by omega, h.2⟩
theorem spec_has {xs : List S108} (h : isScore xs = true) (bar beat : Int) : spec_l07Has.f xs bar beat = some (hasBeat xs bar beat) := by
 have hs := isScore_true h
 unfold spec_l07Has.f hasBeat
 rw [w64 (n := (xs.length : Int) - 1) (by omega), In_eq]
 simp only [Option.bind_some]
 cases g : inB bar 0 ((xs.length : Int) - 1) with
 | false => rfl
 | true =>
  rw [inB_true] at g
  obtain ⟨b, rfl⟩ : ∃ n : Nat, bar = n := ⟨bar.toNat, by omega⟩
  have hb := hs.2.2 b (by omega)
  rw [if_pos rfl, if_pos (by omega), if_pos (by omega), rd_bar]
  show ((spec_l01In.f beat 0 (wrap64 (bt_at xs b - 1))).bind fun t => some t) = _
  rw [w64 (by omega), In_eq]; rfl
theorem impl_has {xs : List S108} (h : isScore xs = true) (bar beat : Int) : impl_isBeat.f xs bar beat = some (hasBeat xs bar beat) := by
 have hs := isScore_true h
 unfold impl_isBeat.f hasBeat
 rw [index_eq, w64 (n := (xs.length : Int) - 1) (by omega)]
 simp only [Option.bind_some]
 cases g : inB bar 0 ((xs.length : Int) - 1) with
 | false => rfl
 | true =>
  rw [inB_true] at g
  obtain ⟨b, rfl⟩ : ∃ n : Nat, bar = n := ⟨bar.toNat, by omega⟩
  have hb := hs.2.2 b (by omega)
  rw [if_pos rfl, if_pos (by omega), if_pos (by omega), rd_bar]
  show ((impl_within.f beat 0 (wrap64 (bt_at xs b - 1))).bind fun t => some t) = _
  rw [w64 (by omega), Wi_eq]; rfl
end Go.Proofs.Ytnlbaflbhicooaa.F
namespace Go.Proofs.Ytnlbaflbhicooaa.F
open Go.RowKit Go.Proofs.YtnlbaflbhicooaaW.PrintWords Go.Proofs.YtnlbaflbhicooaaW.PrintLast Go.Proofs.YtnlbaflbhicooaaW.PrintMore
set_option linter.unusedVariables false
set_option linter.unusedSimpArgs false
def cu_at (C : List S43) (i : Nat) : S43 := C.getD i z43
theorem rd_cue (C : List S43) (i : Nat) : rd_T43 C (i : Int) = cu_at C i := by unfold rd_T43 cu_at; rw [Int.toNat_natCast]
def arOf (B : List S92) (c : S43) : S92 := ar_at B (find B c.f2).toNat
def ftime (A : List S108) (B : List S92) (c : S43) : Int := tm A c.f0.toNat + c.f1 * ln_at A c.f0.toNat - (arOf B c).f3
theorem areArts_true {xs : List S92} (h : areArts xs = true) : xs.length ≤ 12 ∧ ∀ i, i < xs.length → art (ar_at xs i) = true := by
 unfold areArts at h
 rw [Bool.and_eq_true, allF_true, decide_eq_true_iff] at h
 refine ⟨by omega, fun i hi => ?_⟩
 have := h.1 i (by omega) (by omega)
 unfold artAt at this
 rw [Bool.and_eq_true] at this
 exact this.1
theorem art_true {a : S92} (h : art a = true) : (0 ≤ a.f1 ∧ a.f1 ≤ 3) ∧ (20 ≤ a.f2 ∧ a.f2 ≤ 300) ∧ (0 ≤ a.f3 ∧ a.f3 ≤ 10000) ∧ (0 ≤ a.f4 ∧ a.f4 ≤ a.f3) ∧ (1 ≤ a.f5 ∧ a.f5 ≤ 50) ∧ (0 ≤ a.f6 ∧ a.f6 ≤ 10000) ∧ (1 ≤ a.f7 ∧ a.f7 ≤ 100000) ∧ 0 ≤ a.f8 ∧ a.f8 ≤ 3 := by
 unfold art at h
 simp only [Bool.and_eq_true, inB_true] at h
 exact h.2
theorem arOf_ok {B : List S92} (hB : areArts B = true) {c : S43} (hc : 0 ≤ find B c.f2) : art (arOf B c) = true ∧ find B c.f2 < (B.length : Int) := by
 rcases find_range B c.f2 with h | h
 ·omega
 ·exact ⟨(areArts_true hB).2 _ (by omega), h.2⟩
theorem time_range {A : List S108} (hA : isScore A = true) {b : Nat} (hb : b < A.length) {e : Int} (he : 0 ≤ e ∧ e ≤ bt_at A b - 1) : 0 ≤ tm A b + e * ln_at A b ∧ tm A b + e * ln_at A b ≤ 2000000 := by
 have hs := isScore_true hA
 have hl := hs.2.2 b hb
 have ht := tm_le hA b (by omega)
 have h1 : 0 ≤ e * ln_at A b := Int.mul_nonneg he.1 (by omega)
 have h2 : e * ln_at A b ≤ 16 * ln_at A b := Int.mul_le_mul_of_nonneg_right (by omega) (by omega)
 omega
theorem spec_ftime {A : List S108} (hA : isScore A = true) {B : List S92} (hB : areArts B = true) (C : List S43) {c : S43} (hc : 0 ≤ find B c.f2) (hb : hasBeat A c.f0 c.f1 = true) (k : Nat) (hk : 100 ≤ k) : spec_l08Time.f k A B C c.f0 c.f1 c.f2 c.f3 = some (ftime A B c) := by
 obtain ⟨b, e, h1, h2, h3⟩ := hasBeat_true hb
 have hs := isScore_true hA
 have hl := hs.2.2 b h1
 have hf := arOf_ok hB hc
 have hr := time_range hA h1 ⟨h2, h3⟩
 have ha := art_true hf.1
 have hB12 := (areArts_true hB).1
 have ft : ftime A B c = tm A b + c.f1 * ln_at A b - (arOf B c).f3 := by unfold ftime; rw [e, Int.toNat_natCast]
 unfold spec_l08Time.f
 rw [e, spec_time hA b h1 c.f1 (by omega) k (by omega)]
 simp only [Option.bind_some]
 rw [spec_find B (by omega) c.f2 k (by omega)]
 simp only [Option.bind_some]
 rw [if_pos hc, if_pos hf.2, ft]
 have er : rd_T92 B (find B c.f2) = arOf B c := by
  have := rd_art B (find B c.f2).toNat
  rw [show ((find B c.f2).toNat : Int) = find B c.f2 by omega] at this
  exact this
 rw [er, w64 (by omega)]
theorem impl_ftime {A : List S108} (hA : isScore A = true) {B : List S92} (hB : areArts B = true) (C : List S43) (c : S43) (k : Nat) (hk : 100 ≤ k) : impl_firedAt.f k A B C c.f0 c.f1 c.f2 c.f3 = some (if 0 ≤ find B c.f2 ∧ hasBeat A c.f0 c.f1 = true then mx (-1) (ftime A B c) else -1) := by
 have hs := isScore_true hA
 have hB12 := (areArts_true hB).1
 unfold impl_firedAt.f
 rw [impl_find B (by omega) c.f2 k (by omega)]
 simp only [Option.bind_some]
 by_cases hc : 0 ≤ find B c.f2
 ·rw [if_neg (by omega), impl_has hA]
  simp only [Option.bind_some]
  by_cases hb : hasBeat A c.f0 c.f1 = true
  ·obtain ⟨b, e, h1, h2, h3⟩ := hasBeat_true hb
   have hl := hs.2.2 b h1
   have hf := arOf_ok hB hc
   have hr := time_range hA h1 ⟨h2, h3⟩
   have ha := art_true hf.1
   have ft : ftime A B c = tm A b + c.f1 * ln_at A b - (arOf B c).f3 := by unfold ftime; rw [e, Int.toNat_natCast]
   have er : rd_T92 B (find B c.f2) = arOf B c := by
    have := rd_art B (find B c.f2).toNat
    rw [show ((find B c.f2).toNat : Int) = find B c.f2 by omega] at this
    exact this
   rw [if_pos hb, if_pos (show 0 ≤ find B c.f2 ∧ hasBeat A c.f0 c.f1 = true from ⟨hc, hb⟩), e, impl_time hA b c.f1 (.inl h1) (by omega) k (by omega)]
   simp only [Option.bind_some]
   rw [if_pos hc, if_pos hf.2, er, ft, w64 (by omega)]
  ·rw [if_neg hb, if_neg (show ¬ (0 ≤ find B c.f2 ∧ hasBeat A c.f0 c.f1 = true) from fun x => hb x.2)]
 ·rw [if_pos (by omega), if_neg (show ¬ (0 ≤ find B c.f2 ∧ hasBeat A c.f0 c.f1 = true) from fun x => hc x.1)]
def cueOk (A : List S108) (B : List S92) (c : S43) : Bool := hasBeat A c.f0 c.f1 && (decide (0 ≤ find B c.f2) && (inB c.f3 0 11 && decide (0 ≤ ftime A B c)))
def isShow (A : List S108) (B : List S92) (C : List S43) : Bool := isScore A && (areArts B && (decide ((C.length : Int) ≤ 20) && allF (fun i => cueOk A B (cu_at C i)) 0 C.length))
theorem cueOk_true {A : List S108} {B : List S92} {c : S43} (h : cueOk A B c = true) : hasBeat A c.f0 c.f1 = true ∧ 0 ≤ find B c.f2 ∧ (0 ≤ c.f3 ∧ c.f3 ≤ 11) ∧ 0 ≤ ftime A B c := by
 unfold cueOk at h
 simpa only [Bool.and_eq_true, inB_true, decide_eq_true_iff] using h
theorem isShow_true {A : List S108} {B : List S92} {C : List S43} (h : isShow A B C = true) : isScore A = true ∧ areArts B = true ∧ C.length ≤ 20 ∧ ∀ i, i < C.length → cueOk A B (cu_at C i) = true := by
 unfold isShow at h
 rw [Bool.and_eq_true, Bool.and_eq_true, Bool.and_eq_true, allF_true, decide_eq_true_iff] at h
 exact ⟨h.1, h.2.1, by omega, fun i hi => h.2.2.2 i (by omega) (by omega)⟩
theorem spec_show (n : Nat) (A : List S108) (B : List S92) (C : List S43) (hA : A.length ≤ 1000000) (hB : B.length ≤ 1000000) (hC : C.length ≤ 1000000) (hS : Small n B) (k : Nat) (hk : A.length + B.length + C.length + n + 200 ≤ k) : spec_IsShow.f k A B C = some (isShow A B C) := by
 obtain ⟨k, rfl⟩ : ∃ m, k = m + 1 := ⟨k - 1, by omega⟩
 unfold spec_IsShow.f isShow
 rw [spec_score A (by omega) (k + 1) (by omega)]
 simp only [Option.bind_some]
 cases a : isScore A with
 | false => rfl
 | true =>
  rw [if_pos rfl, spec_arts n B (by omega) hS (k + 1) (by omega)]
  simp only [Option.bind_some]
  cases b : areArts B with
  | false => rfl
  | true =>
   rw [if_pos rfl]
   by_cases c : (C.length : Int) > 20
   ·rw [decide_eq_true c, decide_eq_false (by omega)]; rfl
   ·rw [decide_eq_false c, decide_eq_true (by omega)]
    simp only [spec_IsShow.j0, Bool.false_eq_true, if_false, Bool.true_and]
    have hB12 := (areArts_true b).1
    have loop : ∀ d k i, C.length - i = d → i ≤ C.length → d + 110 ≤ k → spec_IsShow.l0 k (i : Int) A B C = some (allF (fun i => cueOk A B (cu_at C i)) i d) := by
     intro d
     induction d with
     | zero =>
      intro k i hd hi hk
      obtain ⟨k, rfl⟩ : ∃ m, k = m + 1 := ⟨k - 1, by omega⟩
      simp only [spec_IsShow.l0]
      rw [if_neg (by omega)]
      rfl
     | succ d ih =>
      intro k i hd hi hk
      obtain ⟨k, rfl⟩ : ∃ m, k = m + 1 := ⟨k - 1, by omega⟩
      have nx := ih k (i + 1) (by omega) (by omega) (by omega)
      simp only [spec_IsShow.l0]
      rw [if_pos (by omega), if_pos (by omega), rd_cue, spec_has a, spec_find B (by omega) _ k (by omega), In_eq, w64 (n := (i : Int) + 1) (by omega)]
      simp only [Option.bind_some]
      unfold allF cueOk
      cases hb : hasBeat A (cu_at C i).f0 (cu_at C i).f1 with
      | false => rfl
      | true =>
       rw [if_pos rfl, Bool.true_and]
       by_cases hf : 0 ≤ find B (cu_at C i).f2
       ·rw [if_neg (by omega), decide_eq_true hf, Bool.true_and]
        cases hr : inB (cu_at C i).f3 0 11 with
        | false => rfl
        | true =>
         rw [if_pos rfl, Bool.true_and, spec_ftime a b C hf hb k (by omega)]
         simp only [Option.bind_some]
         by_cases ht : ftime A B (cu_at C i) < 0
         ·rw [if_pos ht, decide_eq_false (by omega)]; rfl
         ·rw [if_neg ht, decide_eq_true (by omega), Bool.true_and]
          exact nx
       ·rw [if_pos (by omega), decide_eq_false hf]; rfl
    exact loop C.length k 0 (by omega) (by omega) (by omega)
theorem impl_show (n : Nat) (A : List S108) (B : List S92) (C : List S43) (hA : A.length ≤ 1000000) (hB : B.length ≤ 1000000) (hC : C.length ≤ 1000000) (hS : Small n B) (k : Nat) (hk : A.length + B.length + C.length + n + 200 ≤ k) : impl_IsShow.f k A B C = some (isShow A B C) := by
 obtain ⟨k, rfl⟩ : ∃ m, k = m + 1 := ⟨k - 1, by omega⟩
 unfold impl_IsShow.f isShow
 rw [impl_score A (by omega) (k + 1) (by omega)]
 simp only [Option.bind_some]
 cases a : isScore A with
 | false => rfl
 | true =>
  rw [if_pos rfl, impl_arts n B (by omega) hS (k + 1) (by omega)]
  simp only [Option.bind_some]
  cases b : areArts B with
  | false => rfl
  | true =>
   rw [if_pos rfl]
   by_cases c : (C.length : Int) > 20
   ·rw [decide_eq_true c, decide_eq_false (by omega)]; rfl
   ·rw [decide_eq_false c, decide_eq_true (by omega)]
    simp only [impl_IsShow.j0, Bool.false_eq_true, if_false, Bool.true_and]
    have hB12 := (areArts_true b).1
    have loop : ∀ d k i, C.length - i = d → i ≤ C.length → d + 110 ≤ k → impl_IsShow.l0 k C (C.length : Int) (i : Int) A B C = some (allF (fun i => cueOk A B (cu_at C i)) i d) := by
     intro d
     induction d with
     | zero =>
      intro k i hd hi hk
      obtain ⟨k, rfl⟩ : ∃ m, k = m + 1 := ⟨k - 1, by omega⟩
      simp only [impl_IsShow.l0]
      rw [if_neg (by omega)]
      rfl
     | succ d ih =>
      intro k i hd hi hk
      obtain ⟨k, rfl⟩ : ∃ m, k = m + 1 := ⟨k - 1, by omega⟩
      have nx := ih k (i + 1) (by omega) (by omega) (by omega)
      simp only [impl_IsShow.l0]
      rw [if_pos (by omega), if_pos (by omega), if_pos (by omega), rd_cue, Wi_eq, impl_ftime a b C _ k (by omega), w64 (n := (i : Int) + 1) (by omega)]
      simp only [Option.bind_some]
      unfold allF cueOk
      cases hr : inB (cu_at C i).f3 0 11 with
      | false =>
       rw [if_neg (by decide)]
       simp
      | true =>
       rw [if_pos rfl]
       cases hb : hasBeat A (cu_at C i).f0 (cu_at C i).f1 with
       | false =>
        rw [if_neg (show ¬ (0 ≤ find B (cu_at C i).f2 ∧ false = true) from fun x => absurd x.2 (by decide)), if_pos (by omega)]; rfl
       | true =>
        by_cases hf : 0 ≤ find B (cu_at C i).f2
        ·rw [if_pos (show 0 ≤ find B (cu_at C i).f2 ∧ true = true from ⟨hf, rfl⟩), decide_eq_true hf]
         by_cases ht : ftime A B (cu_at C i) < 0
         ·rw [if_pos (by unfold mx; split <;> omega), decide_eq_false (by omega)]; rfl
         ·rw [if_neg (by unfold mx; split <;> omega), decide_eq_true (by omega)]
          exact nx
        ·rw [if_neg (show ¬ (0 ≤ find B (cu_at C i).f2 ∧ true = true) from fun x => hf x.1), if_pos (by omega), decide_eq_false hf]; rfl
    exact loop C.length k 0 (by omega) (by omega) (by omega)
end Go.Proofs.Ytnlbaflbhicooaa.F
